/- Layer 8, eighth part: page.Split of no kind; the document's Split (genpg8.py prints it). -/
import Derived.Test.YtpgmbpjjefecdaaDoorPg7
namespace Go.Proofs.YtpgmbpjjefecdaaDoor.Pg
open Go.RowKit Base Crc Plain Txt
set_option linter.unusedVariables false

set_option maxRecDepth 100000 in
set_option maxHeartbeats 1000000 in
theorem split_no (kd : UInt8) (first : Nat) (l : List UInt8) (w : World) (hk : okKind kd = false) (hf : first ≤ 16000000) (hl : l.length ≤ 1500) (h0 : l ≠ []) :
    Calls Tryd.prog 19 #[.int .u8 kd.toNat, .int .i64 first, .string (str l)] w fun e w' => e = .returned (.tuple #[.slice none 0 0, .int .i64 2]) ∧ w = w' := by
  have hP : ∀ s W, s.size ≤ 1500 → Calls Tryd.prog 13 #[.int .u8 kd.toNat, .int .i64 first, .string s] W fun e w' => e = .returned (.tuple #[.string ⟨#[]⟩, .int .i64 2]) ∧ W = w' := by
    intro s W hs
    have hp : pwrong kd first s.size = 2 := pwrong_two (.inl hk)
    have h := put_no kd first s W (by unfold maxLen; omega) (by rw [hp]; decide)
    rw [hp] at h
    exact h
  have HP := Lib.hid hP
  have hemp : (str l).toList.isEmpty = false := by
    rw [ByteArray.toList_eq, str_list]
    simpa using h0
  have hemp2 : (str l).toList ≠ [] := by
    rw [ByteArray.toList_eq, str_list]
    exact h0
  have hs : (str l).size ≤ 1500 := hl
  clear hP hk h0 hf
  generalize kd.toNat = kx at *
  generalize str l = D at *
  go_enter Tryd.func19, Tryd.ntmps19
  go_wp2_with fail
  go_loop [1, 2, 8] (fun v1 v2 v8 => v1 = .int .i64 (first : Int) ∧ v2 = .string D) (fun _ _ _ => 0)
  case atStart => exact ⟨rfl, rfl⟩
  case round =>
    obtain ⟨rfl, rfl⟩ := hrel
    by_cases hb : 246 < D.size
    · have hmin : min (D.size : Int) 246 = 246 := by omega
      go_wp2_with fail
      refine (HP.out _ _ (by first | exact hs | (rw [ByteArray.size_extract]; omega))).mono ?_
      rintro e w' ⟨rfl, rfl⟩
      go_wp2_with fail
      go_ret2
      exact ⟨rfl, rfl⟩
    · have hmin : min (D.size : Int) 246 = (D.size : Int) := by omega
      go_wp2_with fail
      refine (HP.out _ _ (by first | exact hs | (rw [ByteArray.size_extract]; omega))).mono ?_
      rintro e w' ⟨rfl, rfl⟩
      go_wp2_with fail
      go_ret2
      exact ⟨rfl, rfl⟩

/-- what is handed back: a row of its own that reads as these texts -/
def LaidTexts (l : List ByteArray) (w : World) (e : Ending) (w' : World) : Prop := ∃ A c, e = .returned (.slice A l.length c) ∧ Row w' w'.heap.size A (l.map .string) ∧ Below w.heap.size w w'
set_option maxRecDepth 100000 in
set_option maxHeartbeats 1000000 in
theorem rsplit_any (kd : UInt8) (first : Nat) (l : List UInt8) (w : World) (hf : first ≤ 16000000) (hl : l.length ≤ 1500) :
    Calls Tryd.prog 22 #[.int .u8 kd.toNat, .int .i64 first, .string (str l)] w (LaidTexts (splitTo kd first l (pn l.length)) w) := by
  obtain ⟨i0, ti0, tz0, tz1, tz2⟩ := info_parts info_string
  have HP := Lib.hid (fun i s W hi hs => rput_any kd i s W hi hs)
  have Hf := Lib.hid hf
  have hf' : first < 100000000 := by omega
  have HSs := Lib.hid (show ((str l).size : Int) = l.length from rfl)
  have hss : (str l).size ≤ 1500 := hl
  clear hf
  generalize kd.toNat = kx at *
  generalize hS : str l = S at *
  have HS := Lib.hid hS
  clear hS
  go_enter Tryd.func22, Tryd.ntmps22
  go_wp2_with fail
  go_loopw [7, 8] (fun v7 v8 wr => ∃ k, 246 * k < l.length + 246 ∧ k ≤ 10 ∧ v8 = .int .i64 (k : Nat) ∧ wr.ownsRow w.heap.size 9 1 v7 k ((splitTo kd first l k).map .string) ∧ Below w.heap.size w wr) (fun _ v8 _ => 20 - (intOf v8).toNat)
  case atStart => exact ⟨0, by omega, by omega, rfl, World.ownsRow_nil _ _ _ _, Below.refl _ _⟩
  case round =>
    obtain ⟨k, hk1, hk2, rfl, hown, hbe⟩ := hrel
    have Hown := Lib.hid hown
    have Hbe := Lib.hid hbe
    clear hown hbe
    by_cases hlt : 246 * k < l.length
    · have hltI : (246 : Int) * (k : Int) < (S.size : Int) := by rw [HSs.out]; omega
      have hput : ∀ W, Calls Tryd.prog 17 #[.int .u8 kx, .int .i64 ((first : Int) + (k : Int)), .string (str (pchunk l k))] W fun e w' => e = .returned (.string (str (pg kd (first + k) (pchunk l k)))) ∧ Below W.heap.size W w' := by
        intro W
        have h := HP.out (first + k) (str (pchunk l k)) W (by have := Hf.out; omega) (by rw [str_size, pchunk_len]; omega)
        rw [str_list] at h
        exact h
      have HPut := Lib.hid hput
      clear hput
      by_cases hlast : l.length < 246 * k + 246
      · skip
        have hgt : (l.length : Int) < 246 * (k : Int) + 246 := by omega
        have HU : ∀ W, (Instr.slice 9 (.string S) (some (.int .i64 (246 * (k : Int)))) (some (.int .i64 (S.size : Int))) none).run Tryd.prog W = .ok (.string (str (pchunk l k))) W := by
          intro W
          rw [← HS.out]
          have := cut_mid l (246 * k) l.length (246 * (k : Int)) ((str l).size : Int) (by omega) rfl (by omega) (Nat.le_refl _) W
          rw [this]
          unfold pchunk
          rw [List.take_of_length_le (by rw [List.length_drop]; omega), List.take_of_length_le (by rw [List.length_drop]; omega)]
        have hgt2 : (S.size : Int) < 246 * (k : Int) + 246 := by rw [HSs.out]; exact hgt
        have Hsn := Lib.hid (splitTo_succ kd first l k)
        clear hgt
        generalize str (pchunk l k) = C at *
        generalize str (pg kd (first + k) (pchunk l k)) = G at *
        go_wp2_with fail
        refine (HPut.out _).mono ?_
        rintro e w2 ⟨rfl, hb2⟩
        have own2 := Lib.hid ((Over.under (B := 0) hb2).own Hown.out (by omega))
        have hbe2 := Lib.hid (Hbe.out.trans (hb2.mono Hbe.out.size))
        clear hb2
        go_wp2_with (at_builtin; refine wpList_append1 rfl _ _ 35 rfl w.heap.size 9 i0 (.string ByteArray.empty) 16 Tryd.underlying35 ti0 tz0 tz1 tz2 rfl w2 (.string G) rfl u7 k ((splitTo kd first l k).map .string) rfl own2.out rfl (by omega) (by decide) hbe2.out.size ?_; intro v' w3 hown3 happ)
        have hbe3 := happ.below hbe2.out own2.out (Nat.le_refl _) hbe2.out.size
        go_roundw
        case rel =>
          refine ⟨k + 1, by omega, by omega, by go_num, ?_, hbe3⟩
          rw [Hsn.out, List.map_append]
          exact hown3
        case measure => simp [intOf]; omega
      · skip
        have hgt : ¬ (l.length : Int) < 246 * (k : Int) + 246 := by omega
        have HU : ∀ W, (Instr.slice 9 (.string S) (some (.int .i64 (246 * (k : Int)))) (some (.int .i64 (246 * (k : Int) + 246))) none).run Tryd.prog W = .ok (.string (str (pchunk l k))) W := by
          intro W
          rw [← HS.out]
          have := cut_mid l (246 * k) (246 * k + 246) (246 * (k : Int)) (246 * (k : Int) + 246) (by omega) (by omega) (by omega) (by omega) W
          rw [this]
          unfold pchunk
          rw [show 246 * k + 246 - 246 * k = 246 by omega]
        have hgt2 : ¬ (S.size : Int) < 246 * (k : Int) + 246 := by rw [HSs.out]; exact hgt
        have Hsn := Lib.hid (splitTo_succ kd first l k)
        clear hgt
        generalize str (pchunk l k) = C at *
        generalize str (pg kd (first + k) (pchunk l k)) = G at *
        go_wp2_with fail
        refine (HPut.out _).mono ?_
        rintro e w2 ⟨rfl, hb2⟩
        have own2 := Lib.hid ((Over.under (B := 0) hb2).own Hown.out (by omega))
        have hbe2 := Lib.hid (Hbe.out.trans (hb2.mono Hbe.out.size))
        clear hb2
        go_wp2_with (at_builtin; refine wpList_append1 rfl _ _ 35 rfl w.heap.size 9 i0 (.string ByteArray.empty) 16 Tryd.underlying35 ti0 tz0 tz1 tz2 rfl w2 (.string G) rfl u7 k ((splitTo kd first l k).map .string) rfl own2.out rfl (by omega) (by decide) hbe2.out.size ?_; intro v' w3 hown3 happ)
        have hbe3 := happ.below hbe2.out own2.out (Nat.le_refl _) hbe2.out.size
        go_roundw
        case rel =>
          refine ⟨k + 1, by omega, by omega, by go_num, ?_, hbe3⟩
          rw [Hsn.out, List.map_append]
          exact hown3
        case measure => simp [intOf]; omega
    · have hltI : ¬ (246 : Int) * (k : Int) < (S.size : Int) := by rw [HSs.out]; omega
      have hkn : k = pn l.length := by unfold pn; omega
      have HN := Lib.hid hkn
      clear hkn
      go_wp2_with fail
      go_ret
      obtain ⟨A, c, rfl⟩ := own_form Hown.out
      rw [← HN.out]
      exact ⟨A, c, by rw [splitTo_len]; rfl, own_row Hown.out, Hbe.out⟩

end Go.Proofs.YtpgmbpjjefecdaaDoor.Pg
