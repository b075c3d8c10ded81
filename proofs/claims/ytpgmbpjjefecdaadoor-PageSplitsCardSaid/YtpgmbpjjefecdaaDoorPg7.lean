/- Layer 8, seventh part: a text as pages: page.Split and the document's Split (genpg7.py prints it). -/
import Derived.Test.YtpgmbpjjefecdaaDoorPg6
import Derived.Test.YtpgmbpjjefecdaaDoorOwn
import Derived.Test.YtpgmbpjjefecdaaDoorOver
import Derived.Deep.RegionLaw
namespace Go.Proofs.YtpgmbpjjefecdaaDoor.Pg
open Go.RowKit Base Crc Plain Txt
set_option linter.unusedVariables false

theorem info_string : (Tryd.prog.info? 9).map (fun i => (i.zero, i.size, i.bytes)) = some (some (.string ByteArray.empty), 1, 16) := by kernel_rfl
def pchunk (l : List UInt8) (k : Nat) : List UInt8 := (l.drop (246 * k)).take 246
def splitTo (kd : UInt8) (first : Nat) (l : List UInt8) (n : Nat) : List ByteArray := (List.range n).map fun i => str (pg kd (first + i) (pchunk l i))
theorem splitTo_succ (kd : UInt8) (first : Nat) (l : List UInt8) (k : Nat) : splitTo kd first l (k + 1) = splitTo kd first l k ++ [str (pg kd (first + k) (pchunk l k))] := by
  unfold splitTo
  rw [List.range_succ, List.map_append]
  rfl
theorem splitTo_len (kd : UInt8) (first : Nat) (l : List UInt8) (k : Nat) : (splitTo kd first l k).length = k := by simp [splitTo]
theorem pchunk_len (l : List UInt8) (k : Nat) : (pchunk l k).length = min (l.length - 246 * k) 246 := by
  unfold pchunk
  rw [List.length_take, List.length_drop]
  omega
/-- how many pages -/
def pn (n : Nat) : Nat := (n + 245) / 246

set_option maxRecDepth 100000 in
set_option maxHeartbeats 1000000 in
theorem split_yes (kd : UInt8) (first : Nat) (l : List UInt8) (w : World) (hk : okKind kd = true) (hf : first ≤ 16000000) (hl : l.length ≤ 1500) (P : Ending → World → Prop)
    (hyes : ∀ v w', w'.ownsRow w.heap.size 9 1 v (pn l.length) ((splitTo kd first l (pn l.length)).map .string) → Below w.heap.size w w' → P (.returned (.tuple #[v, .int .i64 0])) w') :
    Calls Tryd.prog 19 #[.int .u8 kd.toNat, .int .i64 first, .string (str l)] w P := by
  obtain ⟨i0, ti0, tz0, tz1, tz2⟩ := info_parts info_string
  have Hyes := Lib.hid hyes
  have HP := Lib.hid (fun i s W hi hs => put_yes kd i s W hk hi hs)
  clear hyes hk
  have Hf := Lib.hid hf
  have hf' : first < 100000000 := by omega
  clear hf
  generalize kd.toNat = kx at *
  go_enter Tryd.func19, Tryd.ntmps19
  go_wp2_with fail
  go_loopw [1, 2, 8] (fun v1 v2 v8 wr => ∃ k, 246 * k < l.length + 246 ∧ k ≤ 10 ∧ v2 = .string (str (l.drop (246 * k))) ∧ v1 = .int .i64 ((first : Int) + (k : Int)) ∧ wr.ownsRow w.heap.size 9 1 v8 k ((splitTo kd first l k).map .string) ∧ Below w.heap.size w wr) (fun _ v2 _ _ => szOf v2)
  case atStart => exact ⟨0, by omega, by omega, by simp, by simp, World.ownsRow_nil _ _ _ _, Below.refl _ _⟩
  case round =>
    obtain ⟨k, hk1, hk2, rfl, rfl, hown, hbe⟩ := hrel
    have Hown := Lib.hid hown
    have Hbe := Lib.hid hbe
    clear hown hbe
    by_cases hlt : 246 * k < l.length
    · have hne : (l.drop (246 * k)) ≠ [] := by
        intro hh
        have := congrArg List.length hh
        rw [List.length_drop] at this
        simp at this
        omega
      have hput : ∀ W, Calls Tryd.prog 13 #[.int .u8 kx, .int .i64 ((first : Int) + (k : Int)), .string (str (pchunk l k))] W fun e w' => e = .returned (.tuple #[.string (str (pg kd (first + k) (pchunk l k))), .int .i64 0]) ∧ Below W.heap.size W w' := by
        intro W
        have h := HP.out (first + k) (str (pchunk l k)) W (by have := Hf.out; omega) (by rw [str_size, pchunk_len]; omega)
        rw [str_list] at h
        exact h
      have HPut := Lib.hid hput
      have HDs := Lib.hid (show (str (l.drop (246 * k))).size = l.length - 246 * k by rw [str_size, List.length_drop])
      have hemp : (str (l.drop (246 * k))).toList.isEmpty = false := by
        rw [ByteArray.toList_eq, str_list]
        simpa using hne
      have hemp2 : (str (l.drop (246 * k))).toList ≠ [] := by
        rw [ByteArray.toList_eq, str_list]
        exact hne
      have hDm : (str (l.drop (246 * k))).size ≤ 1500 := by rw [HDs.out]; omega
      clear hput hne
      generalize hD : str (l.drop (246 * k)) = D at *
      have HD := Lib.hid hD
      clear hD
      by_cases hbig : 246 < l.length - 246 * k
      · skip
        have hsz : 246 < D.size := by rw [HDs.out]; omega
        have hszI : (246 : Int) < (D.size : Int) := by omega
        have hmin : min (D.size : Int) 246 = 246 := by omega
        have HU : ∀ W, (Instr.slice 9 (.string D) none (some (.int .i64 246)) none).run Tryd.prog W = .ok (.string (str (pchunk l k))) W := by
          intro W
          rw [← HD.out]
          exact cut_upto (l.drop (246 * k)) 246 246 rfl (by rw [List.length_drop]; omega) W
        have HV : ∀ W, (Instr.slice 9 (.string D) (some (.int .i64 246)) none none).run Tryd.prog W = .ok (.string (str (l.drop (246 * (k + 1))))) W := by
          intro W
          rw [← HD.out]
          have := cut_from (l.drop (246 * k)) 246 246 rfl (by rw [List.length_drop]; omega) W
          rw [List.drop_drop, show 246 * k + 246 = 246 * (k + 1) by omega] at this
          exact this
        have Hsn := Lib.hid (splitTo_succ kd first l k)
        have HE := Lib.hid (show szOf (.string (str (l.drop (246 * (k + 1))))) < D.size by rw [HDs.out]; show (l.drop (246 * (k + 1))).length < _; rw [List.length_drop]; omega)
        clear HDs
        generalize hE : str (l.drop (246 * (k + 1))) = E at *
        have HEq := Lib.hid hE
        clear hE
        generalize str (pchunk l k) = C at *
        generalize str (pg kd (first + k) (pchunk l k)) = G at *
        go_wp2_with fail
        refine (HPut.out _).mono ?_
        rintro e w2 ⟨rfl, hb2⟩
        have own2 := (Over.under (B := 0) hb2).own Hown.out (by omega)
        have hbe2 := Hbe.out.trans (hb2.mono Hbe.out.size)
        clear hb2
        have hwr : IntKind.i64.wrap ((first : Int) + (k : Int) + 1) = (first : Int) + (k : Int) + 1 := IntWalk.i64_in _ (by omega)
        go_wp2_with fail
        go_region_law (refine step_append1 rfl (.tmp 29) (.tmp 31) 35 rfl w.heap.size 9 i0 (.string ByteArray.empty) 16 Tryd.underlying35 ti0 tz0 tz1 tz2 rfl w2.drew (.string G) rfl u8 k ((splitTo kd first l k).map .string) rfl (show w2.drew.ownsRow w.heap.size 9 1 u8 k ((splitTo kd first l k).map .string) from own2) rfl (by omega) (by decide) hbe2.size ?_; intro v' w3 hown3 happ)
        all_goals
          have Hbe3 := Lib.hid (happ.below (hbe2.drew) (show w2.drew.ownsRow w.heap.size 9 1 u8 k ((splitTo kd first l k).map .string) from own2) (Nat.le_refl _) hbe2.size)
          have Hown3 := Lib.hid hown3
          clear happ own2 hbe2 hown3
          go_wp2_with fail
          clear hmin HU HV hszI hemp hemp2 hwr
          refine ⟨?_, HE.out⟩
          (repeat apply Exists.intro)
          refine And.intro ?_ rfl
          refine ⟨k + 1, by omega, by omega, by rw [HEq.out], by first | rfl | exact congrArg (Value.int .i64) (by omega), ?_, Hbe3.out⟩
          rw [Hsn.out, List.map_append]
          exact Hown3.out
      · skip
        have hsz : D.size ≤ 246 := by rw [HDs.out]; omega
        have hszI : ¬ (246 : Int) < (D.size : Int) := by omega
        have hmin : min (D.size : Int) 246 = (D.size : Int) := by omega
        have HU : ∀ W, (Instr.slice 9 (.string D) none (some (.int .i64 (D.size : Int))) none).run Tryd.prog W = .ok (.string (str (pchunk l k))) W := by
          intro W
          rw [← HD.out]
          have := cut_upto (l.drop (246 * k)) (l.drop (246 * k)).length ((str (l.drop (246 * k))).size : Int) rfl (Nat.le_refl _) W
          rw [List.take_length] at this
          rw [this]
          unfold pchunk
          rw [List.take_of_length_le (by rw [List.length_drop]; omega)]
        have HV : ∀ W, (Instr.slice 9 (.string D) (some (.int .i64 (D.size : Int))) none none).run Tryd.prog W = .ok (.string (str (l.drop (246 * (k + 1))))) W := by
          intro W
          rw [← HD.out]
          have := cut_from (l.drop (246 * k)) (l.drop (246 * k)).length ((str (l.drop (246 * k))).size : Int) rfl (Nat.le_refl _) W
          rw [List.drop_length] at this
          rw [this, List.drop_of_length_le (by omega)]
        have Hsn := Lib.hid (splitTo_succ kd first l k)
        have HE := Lib.hid (show szOf (.string (str (l.drop (246 * (k + 1))))) < D.size by rw [HDs.out]; show (l.drop (246 * (k + 1))).length < _; rw [List.length_drop]; omega)
        clear HDs
        generalize hE : str (l.drop (246 * (k + 1))) = E at *
        have HEq := Lib.hid hE
        clear hE
        generalize str (pchunk l k) = C at *
        generalize str (pg kd (first + k) (pchunk l k)) = G at *
        go_wp2_with fail
        refine (HPut.out _).mono ?_
        rintro e w2 ⟨rfl, hb2⟩
        have own2 := (Over.under (B := 0) hb2).own Hown.out (by omega)
        have hbe2 := Hbe.out.trans (hb2.mono Hbe.out.size)
        clear hb2
        have hwr : IntKind.i64.wrap ((first : Int) + (k : Int) + 1) = (first : Int) + (k : Int) + 1 := IntWalk.i64_in _ (by omega)
        go_wp2_with fail
        go_region_law (refine step_append1 rfl (.tmp 29) (.tmp 31) 35 rfl w.heap.size 9 i0 (.string ByteArray.empty) 16 Tryd.underlying35 ti0 tz0 tz1 tz2 rfl w2.drew (.string G) rfl u8 k ((splitTo kd first l k).map .string) rfl (show w2.drew.ownsRow w.heap.size 9 1 u8 k ((splitTo kd first l k).map .string) from own2) rfl (by omega) (by decide) hbe2.size ?_; intro v' w3 hown3 happ)
        all_goals
          have Hbe3 := Lib.hid (happ.below (hbe2.drew) (show w2.drew.ownsRow w.heap.size 9 1 u8 k ((splitTo kd first l k).map .string) from own2) (Nat.le_refl _) hbe2.size)
          have Hown3 := Lib.hid hown3
          clear happ own2 hbe2 hown3
          go_wp2_with fail
          clear hmin HU HV hszI hemp hemp2 hwr
          refine ⟨?_, HE.out⟩
          (repeat apply Exists.intro)
          refine And.intro ?_ rfl
          refine ⟨k + 1, by omega, by omega, by rw [HEq.out], by first | rfl | exact congrArg (Value.int .i64) (by omega), ?_, Hbe3.out⟩
          rw [Hsn.out, List.map_append]
          exact Hown3.out
    · have hnil : l.drop (246 * k) = [] := List.drop_of_length_le (by omega)
      have hkn : k = pn l.length := by unfold pn; omega
      rw [hnil, show str [] = ⟨#[]⟩ from rfl]
      have HN := Lib.hid hkn
      clear hnil hkn
      go_wp2_with fail
      have h := Hyes.out
      rw [← HN.out] at h
      exact h _ _ Hown.out Hbe.out

end Go.Proofs.YtpgmbpjjefecdaaDoor.Pg
