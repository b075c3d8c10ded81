/- The walk of PageSplits: it returns true and writes nothing that was there. -/
import Derived.Test.YtpgmbpjjefecdaaDoorPg8
namespace Go.Proofs.YtpgmbpjjefecdaaDoor.pageSplits
open Go.RowKit Base Crc Plain Txt Pg
set_option linter.unusedVariables false

theorem u8_of {a : Int} (h : (Lit.int .u8 a).wf = true) : ∃ k : UInt8, a = k.toNat := by
  have := bounds_u8 h
  exact ⟨byt a.toNat, (byt_nat (by omega) (by omega)).symm⟩
theorem pn_count (n : Nat) : pcount (n : Int) = (pn n : Nat) := by
  unfold pcount pn
  split <;> omega
theorem take_pchunk (l : List UInt8) (k : Nat) : l.take (246 * (k + 1)) = l.take (246 * k) ++ pchunk l k := by
  unfold pchunk
  rw [show 246 * (k + 1) = 246 * k + 246 by omega, List.take_add]

/-- page.Split's answer -/
def SplitOut (kd : UInt8) (first : Nat) (l : List UInt8) (w : World) (e : Ending) (w' : World) : Prop :=
  ∃ A c, e = .returned (.tuple #[.slice A (pn l.length) c, .int .i64 0]) ∧ Row w' w'.heap.size A ((splitTo kd first l (pn l.length)).map .string) ∧ Below w.heap.size w w'
theorem split_nil (kd : UInt8) (first : Nat) (w : World) :
    Calls Tryd.prog 19 #[.int .u8 kd.toNat, .int .i64 first, .string (str [])] w (SplitOut kd first [] w) := by
  have HQ := Lib.hid (show SplitOut kd first [] w (.returned (.tuple #[.slice none 0 0, .int .i64 0])) w from ⟨none, 0, rfl, Row.nil _ _ _, Below.refl _ _⟩)
  generalize SplitOut kd first [] w = Q at *
  generalize kd.toNat = kx at *
  rw [show str [] = ⟨#[]⟩ from rfl]
  go_enter Tryd.func19, Tryd.ntmps19
  go_wp2_with fail
  go_loop [1, 2, 8] (fun v1 v2 v8 => v2 = .string ⟨#[]⟩ ∧ v8 = .slice none 0 0) (fun _ _ _ => 0)
  case atStart => exact ⟨rfl, rfl⟩
  case round =>
    obtain ⟨rfl, rfl⟩ := hrel
    go_wp2_with fail
    exact HQ.out
theorem split_out (kd : UInt8) (first : Nat) (l : List UInt8) (w : World) (hk : okKind kd = true ∨ l = []) (hf : first ≤ 16000000) (hl : l.length ≤ 1500) :
    Calls Tryd.prog 19 #[.int .u8 kd.toNat, .int .i64 first, .string (str l)] w (SplitOut kd first l w) := by
  rcases hk with hk | rfl
  · refine split_yes kd first l w hk hf hl _ ?_
    intro v w' hown hb
    obtain ⟨A, c, rfl⟩ := own_form hown
    exact ⟨A, c, rfl, own_row hown, hb⟩
  · exact split_nil kd first w

set_option maxRecDepth 100000 in
set_option maxHeartbeats 1000000 in
theorem walk_no (kd : UInt8) (first : Nat) (l : List UInt8) (w : World) (hk : okKind kd = false) (hf : first ≤ 16000000) (hl : l.length ≤ 1500) (h0 : l ≠ []) :
    Calls Tryd.prog 5 #[.int .u8 kd.toNat, .int .i64 first, .string (str l)] w fun e w' => e = .returned (.bool true) ∧ Below w.heap.size w w' := by
  have HS := Lib.hid (fun w => split_no kd first l w hk hf hl h0)
  have HK := Lib.hid (fun w => rkind_no kd w hk)
  have hemp : (str l).toList.isEmpty = false := by
    rw [ByteArray.toList_eq, str_list]
    simpa using h0
  have hemp2 : (str l).toList ≠ [] := by
    rw [ByteArray.toList_eq, str_list]
    exact h0
  have hs : (str l).size ≤ 1500 := hl
  clear h0 hk
  generalize str l = D at *
  generalize kd.toNat = kx at *
  go_enter Tryd.func5, Tryd.ntmps5
  go_wp2_with fail
  refine (HS.out _).mono ?_
  rintro e w' ⟨rfl, rfl⟩
  go_wp2_with fail
  refine (HK.out _).mono ?_
  rintro e w' ⟨rfl, rfl⟩
  go_wp2_with fail
  refine (awake_any _).mono ?_
  rintro e w1 ⟨rfl, hb1⟩
  go_wp2_with fail
  go_ret
  exact ⟨by first | rfl | (simp; done), hb1⟩

set_option maxRecDepth 100000 in
set_option maxHeartbeats 2000000 in
theorem walk_yes (kd : UInt8) (first : Nat) (l : List UInt8) (w : World) (kb : Bool) (hkb : okKind kd = kb) (hk : kb = true ∨ l = []) (hf : first ≤ 16000000) (hl : l.length ≤ 1500) :
    Calls Tryd.prog 5 #[.int .u8 kd.toNat, .int .i64 first, .string (str l)] w fun e w' => e = .returned (.bool true) ∧ Below w.heap.size w w' := by
  have HS := Lib.hid (fun w => split_out kd first l w (by rw [hkb]; exact hk) hf hl)
  have HR := Lib.hid (fun w => rsplit_any kd first l w hf hl)
  have hK : ∀ w, Calls Tryd.prog 20 #[.int .u8 kd.toNat] w fun e w' => e = .returned (.bool kb) ∧ w = w' := by
    intro w
    cases kb
    · exact rkind_no kd w hkb
    · exact rkind_yes kd w hkb
  have HK := Lib.hid hK
  have hI : ∀ k, k < pn l.length → ∀ w, Calls Tryd.prog 16 #[.string (str (pg kd (first + k) (pchunk l k))), .int .u8 kd.toNat, .int .i64 ((first : Int) + (k : Int))] w fun e w' => e = .returned (.tuple #[.string (str (pchunk l k)), .int .i64 0]) ∧ Below w.heap.size w w' := by
    intro k hk1 w
    have hkk : okKind kd = true := by
      rcases hk with hk | hk
      · rw [hkb]; exact hk
      · rw [hk] at hk1
        simp [pn] at hk1
    have hlen : (pchunk l k).length ≤ 246 := by rw [pchunk_len]; omega
    obtain ⟨g1, g2, g3, g4⟩ := isPg_pg kd (first + k) (pchunk l k) hkk (by unfold pn at hk1; omega) hlen
    have h := is_yes (str (pg kd (first + k) (pchunk l k))) kd ((first : Int) + (k : Int)) w (by rw [str_list]; exact g1) (by rw [str_list]; exact g2) (by rw [str_list, g3]; omega)
    rw [str_list, g4] at h
    exact h
  have HI := Lib.hid hI
  have hT : ∀ A B c d W, Row W W.heap.size A ((splitTo kd first l (pn l.length)).map .string) → Row W W.heap.size B ((splitTo kd first l (pn l.length)).map .string) → Calls Tryd.prog 21 #[.slice A (pn l.length) c, .slice B (pn l.length) d] W fun e w' => e = .returned (.bool true) ∧ Below W.heap.size W w' := by
    intro A B c d W h1 h2
    have h := texts_same A B c d (splitTo kd first l (pn l.length)) W (by rw [splitTo_len]; unfold maxLen pn; omega) h1 h2
    rw [splitTo_len] at h
    exact h
  have HT := Lib.hid hT
  have HL := Lib.hid (show LaidTexts (splitTo kd first l (pn l.length)) = fun w e w' => ∃ A c, e = .returned (.slice A (pn l.length) c) ∧ Row w' w'.heap.size A ((splitTo kd first l (pn l.length)).map .string) ∧ Below w.heap.size w w' by unfold LaidTexts; rw [splitTo_len])
  have HC := Lib.hid (fun w => rpcount_any (l.length : Int) w (by omega))
  rw [pn_count] at HC
  have hempB : kb = false → l = [] := by
    intro h
    rcases hk with hk | hk
    · rw [h] at hk; cases hk
    · exact hk
  have HempB := Lib.hid hempB
  have hs : (str l).size ≤ 1500 := hl
  have HSz := Lib.hid (show ((str l).size : Int) = l.length from rfl)
  have hpn : pn l.length ≤ 10 := by unfold pn; omega
  have HPN := Lib.hid (show l.length ≤ 246 * pn l.length by unfold pn; omega)
  have hf' : first < 100000000 := by omega
  clear hK hI hT hkb hk hempB
  generalize hN : pn l.length = n at *
  have Hn := Lib.hid hN
  clear hN
  generalize kd.toNat = kx at *
  have hgo : kb = true ∨ (kb = false ∧ l = []) := by
    cases kb
    · exact .inr ⟨rfl, HempB.out rfl⟩
    · exact .inl rfl
  have hss : ((str l).toList == (str l).toList) = true := by simp
  generalize hD : str l = D at *
  have HD := Lib.hid hD
  clear hD
  rcases hgo with rfl | ⟨rfl, hnil⟩
  · skip
    go_enter Tryd.func5, Tryd.ntmps5
    go_wp2_with fail
    refine (HS.out _).mono ?_
    rintro e w1 ⟨A, c, rfl, hrow1, hb1⟩
    clear hf
    rw [Hn.out]
    rw [Hn.out] at hrow1
    have Hrow1 := Lib.hid hrow1
    have Hb1 := Lib.hid hb1
    clear hrow1 hb1
    go_wp2_with fail
    refine (HK.out _).mono ?_
    rintro e w' ⟨rfl, rfl⟩
    go_wp2_with fail
    go_loopw [9, 52] (fun v9 v52 wr => ∃ k, k ≤ n ∧ v52 = .int .i64 (k : Nat) ∧ v9 = .string (str (l.take (246 * k))) ∧ Below w1.heap.size w1 wr) (fun _ i _ => n - (intOf i).toNat)
    case atStart => exact ⟨0, Nat.zero_le _, rfl, by simp [str], Below.refl _ _⟩
    case round =>
      obtain ⟨k, hk1, rfl, rfl, hbe⟩ := hrel
      by_cases hkn : k < n
      · have hkl : k < (splitTo kd first l n).length := by rw [splitTo_len]; exact hkn
        obtain ⟨b, off, hA, hb, hc⟩ := (Hrow1.out.below hbe).at_ (k := k) (by simpa using hkl)
        subst hA
        rw [List.getElem_map] at hc
        have he : (splitTo kd first l n)[k]'hkl = str (pg kd (first + k) (pchunk l k)) := by simp [splitTo]
        rw [he] at hc
        clear he
        have HIk := Lib.hid (HI.out k hkn)
        have Hcat := Lib.hid (show str (l.take (246 * k)) ++ str (pchunk l k) = str (l.take (246 * (k + 1))) by rw [str_app, take_pchunk])
        have hz1 : (str (l.take (246 * k))).size ≤ 1500 := by rw [str_size, List.length_take]; omega
        have hz2 : (str (pchunk l k)).size ≤ 246 := by rw [str_size, pchunk_len]; omega
        generalize str (pg kd (first + k) (pchunk l k)) = G at *
        generalize hX : str (l.take (246 * k)) = X at *
        generalize str (pchunk l k) = C at *
        clear hX
        go_wp2_with fail
        refine (HIk.out _).mono ?_
        rintro e w2 ⟨rfl, hb2⟩
        clear hc
        go_wp2_with fail
        go_roundw
        case rel => exact ⟨k + 1, by omega, by go_num, by rw [Hcat.out], hbe.trans (hb2.mono hbe.size)⟩
        case measure => simp [intOf]; omega
      · have hke : k = n := by omega
        subst hke
        have hXD : str (l.take (246 * k)) = D := by rw [List.take_of_length_le HPN.out, HD.out]
        rw [hXD]
        clear hXD
        have Hbe := Lib.hid hbe
        have hnn : ((k : Int) == (k : Int)) = true := by simp
        clear hbe
        go_wp2_with fail
        refine (HR.out _).mono ?_
        rintro e w3 h3
        rw [HL.out] at h3
        obtain ⟨B, d, rfl, hrow3, hb3⟩ := h3
        have R1 := Lib.hid ((Hrow1.out.below (Hbe.out.trans (hb3.mono Hbe.out.size))).more (Nat.le_trans Hbe.out.size hb3.size))
        have R3 := Lib.hid hrow3
        have Hb3 := Lib.hid hb3
        clear hrow3 hb3
        go_wp2_with fail
        refine (HT.out A B c d w3 R1.out R3.out).mono ?_
        rintro e w4 ⟨rfl, hb4⟩
        have hC := HC.out
        rw [← HSz.out] at hC
        have HC' := Lib.hid hC
        clear hC
        go_wp2_with fail
        refine (HC'.out _).mono ?_
        rintro e w' ⟨rfl, rfl⟩
        go_wp2_with fail
        refine (awake_any _).mono ?_
        rintro e w5 ⟨rfl, hb5⟩
        go_wp2_with fail
        go_ret
        have q1 := Hb1.out.trans (Hbe.out.mono Hb1.out.size)
        have q2 := q1.trans (Hb3.out.mono q1.size)
        have q3 := q2.trans (hb4.mono q2.size)
        exact ⟨by first | rfl | (simp; done), q3.trans (hb5.mono q3.size)⟩
  · have hemp : D.toList = [] := by rw [← HD.out, hnil, ByteArray.toList_eq]; rfl
    clear hnil
    go_enter Tryd.func5, Tryd.ntmps5
    go_wp2_with fail
    refine (HS.out _).mono ?_
    rintro e w1 ⟨A, c, rfl, hrow1, hb1⟩
    clear hf
    rw [Hn.out]
    rw [Hn.out] at hrow1
    have Hrow1 := Lib.hid hrow1
    have Hb1 := Lib.hid hb1
    clear hrow1 hb1
    go_wp2_with fail
    refine (HK.out _).mono ?_
    rintro e w' ⟨rfl, rfl⟩
    go_wp2_with fail
    go_loopw [9, 52] (fun v9 v52 wr => ∃ k, k ≤ n ∧ v52 = .int .i64 (k : Nat) ∧ v9 = .string (str (l.take (246 * k))) ∧ Below w1.heap.size w1 wr) (fun _ i _ => n - (intOf i).toNat)
    case atStart => exact ⟨0, Nat.zero_le _, rfl, by simp [str], Below.refl _ _⟩
    case round =>
      obtain ⟨k, hk1, rfl, rfl, hbe⟩ := hrel
      by_cases hkn : k < n
      · have hkl : k < (splitTo kd first l n).length := by rw [splitTo_len]; exact hkn
        obtain ⟨b, off, hA, hb, hc⟩ := (Hrow1.out.below hbe).at_ (k := k) (by simpa using hkl)
        subst hA
        rw [List.getElem_map] at hc
        have he : (splitTo kd first l n)[k]'hkl = str (pg kd (first + k) (pchunk l k)) := by simp [splitTo]
        rw [he] at hc
        clear he
        have HIk := Lib.hid (HI.out k hkn)
        have Hcat := Lib.hid (show str (l.take (246 * k)) ++ str (pchunk l k) = str (l.take (246 * (k + 1))) by rw [str_app, take_pchunk])
        have hz1 : (str (l.take (246 * k))).size ≤ 1500 := by rw [str_size, List.length_take]; omega
        have hz2 : (str (pchunk l k)).size ≤ 246 := by rw [str_size, pchunk_len]; omega
        generalize str (pg kd (first + k) (pchunk l k)) = G at *
        generalize hX : str (l.take (246 * k)) = X at *
        generalize str (pchunk l k) = C at *
        clear hX
        go_wp2_with fail
        refine (HIk.out _).mono ?_
        rintro e w2 ⟨rfl, hb2⟩
        clear hc
        go_wp2_with fail
        go_roundw
        case rel => exact ⟨k + 1, by omega, by go_num, by rw [Hcat.out], hbe.trans (hb2.mono hbe.size)⟩
        case measure => simp [intOf]; omega
      · have hke : k = n := by omega
        subst hke
        have hXD : str (l.take (246 * k)) = D := by rw [List.take_of_length_le HPN.out, HD.out]
        rw [hXD]
        clear hXD
        have Hbe := Lib.hid hbe
        have hnn : ((k : Int) == (k : Int)) = true := by simp
        clear hbe
        go_wp2_with fail
        refine (HR.out _).mono ?_
        rintro e w3 h3
        rw [HL.out] at h3
        obtain ⟨B, d, rfl, hrow3, hb3⟩ := h3
        have R1 := Lib.hid ((Hrow1.out.below (Hbe.out.trans (hb3.mono Hbe.out.size))).more (Nat.le_trans Hbe.out.size hb3.size))
        have R3 := Lib.hid hrow3
        have Hb3 := Lib.hid hb3
        clear hrow3 hb3
        go_wp2_with fail
        refine (HT.out A B c d w3 R1.out R3.out).mono ?_
        rintro e w4 ⟨rfl, hb4⟩
        have hC := HC.out
        rw [← HSz.out] at hC
        have HC' := Lib.hid hC
        clear hC
        go_wp2_with fail
        refine (HC'.out _).mono ?_
        rintro e w' ⟨rfl, rfl⟩
        go_wp2_with fail
        refine (awake_any _).mono ?_
        rintro e w5 ⟨rfl, hb5⟩
        go_wp2_with fail
        go_ret
        have q1 := Hb1.out.trans (Hbe.out.mono Hb1.out.size)
        have q2 := q1.trans (Hb3.out.mono q1.size)
        have q3 := q2.trans (hb4.mono q2.size)
        exact ⟨by first | rfl | (simp; done), q3.trans (hb5.mono q3.size)⟩

theorem walk (a0 a1 : Int) (s2 : ByteArray) (w : World) (w0 : (Lit.int .u8 a0).wf = true) (w1 : (Lit.int .i64 a1).wf = true) (w2 : s2.size ≤ maxLen) :
    Calls Tryd.prog 5 #[.int .u8 a0, .int .i64 a1, .string s2] w fun e w' => e = .returned (.bool true) ∧ Below w.heap.size w w' := by
  obtain ⟨k, rfl⟩ := u8_of w0
  unfold maxLen at w2
  by_cases hs : s2.size ≤ 1500
  · have hl : s2.data.toList.length ≤ 1500 := by simpa using hs
    by_cases h0 : a1 < 0
    · clear w0 w1 hl
      generalize k.toNat = x at *
      go_enter Tryd.func5, Tryd.ntmps5
      go_wp2_with fail
      refine (awake_any _).mono ?_
      rintro e w5 ⟨rfl, hb5⟩
      go_wp2_with fail
      go_ret
      exact ⟨rfl, hb5⟩
    · by_cases h1 : 16000000 < a1
      · clear w0 w1 hl
        generalize k.toNat = x at *
        go_enter Tryd.func5, Tryd.ntmps5
        go_wp2_with fail
        refine (awake_any _).mono ?_
        rintro e w5 ⟨rfl, hb5⟩
        go_wp2_with fail
        go_ret
        exact ⟨rfl, hb5⟩
      · obtain ⟨i, rfl⟩ : ∃ i : Nat, a1 = i := ⟨a1.toNat, by omega⟩
        rw [← str_of s2]
        rcases hk : okKind k with _ | _
        · by_cases hn : s2.data.toList = []
          · exact walk_yes k i s2.data.toList w false hk (.inr hn) (by omega) hl
          · exact walk_no k i s2.data.toList w hk (by omega) hl hn
        · exact walk_yes k i s2.data.toList w true hk (.inl rfl) (by omega) hl
  · clear w0 w1
    generalize k.toNat = x at *
    go_enter Tryd.func5, Tryd.ntmps5
    go_wp2_with fail
    refine (awake_any _).mono ?_
    rintro e w5 ⟨rfl, hb5⟩
    go_wp2_with fail
    go_ret
    exact ⟨rfl, hb5⟩

end Go.Proofs.YtpgmbpjjefecdaaDoor.pageSplits
