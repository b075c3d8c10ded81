/- The walk of PagePuts: it returns true and writes nothing that was there. -/
import Derived.Test.YtpgmbpjjefecdaaDoorPg6
namespace Go.Proofs.YtpgmbpjjefecdaaDoor.pagePuts
open Go.RowKit Base Crc Plain Txt Pg
set_option linter.unusedVariables false

theorem u8_of {a : Int} (h : (Lit.int .u8 a).wf = true) : ∃ k : UInt8, a = k.toNat := by
  have := bounds_u8 h
  exact ⟨byt a.toNat, (byt_nat (by omega) (by omega)).symm⟩

set_option maxRecDepth 100000 in
set_option maxHeartbeats 4000000 in
theorem walk_yes (k : UInt8) (i : Nat) (s : ByteArray) (o : UInt8) (at_ : Int) (w : World) (hk : okKind k = true) (hi : i ≤ 16777215) (hs : s.size ≤ 246) :
    Calls Tryd.prog 3 #[.int .u8 k.toNat, .int .i64 i, .string s, .int .u8 o.toNat, .int .i64 at_] w fun e w' => e = .returned (.bool true) ∧ Below w.heap.size w w' := by
  have HP := Lib.hid (fun w => put_yes k i s w hk hi hs)
  have HR := Lib.hid (fun w => rput_any k i s w hi hs)
  have hl : s.data.toList.length ≤ 246 := by simpa using hs
  obtain ⟨g1, g2, g3, g4⟩ := isPg_pg k i s.data.toList hk hi hl
  have hT := fun w => take_yes (str (pg k i s.data.toList)) w (by rw [str_list]; exact g1)
  unfold paged at hT
  rw [str_list, g2, g3, g4, str_of] at hT
  have HT := Lib.hid hT
  have hw : pwrong k i s.size = 0 := by
    unfold pwrong
    rw [hk, if_pos (by simp; omega), if_neg (by omega)]
  have hW := fun w => rwrong_any k i s w (by unfold maxLen; omega)
  rw [hw] at hW
  have HW := Lib.hid hW
  have hIy : o = k → at_ = i → ∀ w, Calls Tryd.prog 16 #[.string (str (pg k i s.data.toList)), .int .u8 o.toNat, .int .i64 at_] w fun e w' => e = .returned (.tuple #[.string s, .int .i64 0]) ∧ Below w.heap.size w w' := by
    intro h1 h2 w
    have h := is_yes (str (pg k i s.data.toList)) o at_ w (by rw [str_list]; exact g1) (by rw [str_list, g2, h1]) (by rw [str_list, g3, h2])
    rw [str_list, g4, str_of] at h
    exact h
  have hIn : ¬ (o = k ∧ at_ = i) → ∀ w, Calls Tryd.prog 16 #[.string (str (pg k i s.data.toList)), .int .u8 o.toNat, .int .i64 at_] w fun e w' => e = .returned (.tuple #[.string ⟨#[]⟩, .int .i64 15]) ∧ Below w.heap.size w w' := by
    intro h1 w
    refine is_no (str (pg k i s.data.toList)) o at_ w (by rw [str_size, pg_len _ _ _ hl]; omega) ?_
    rw [str_list, g2, g3]
    intro hh
    exact h1 ⟨hh.2.1.symm, hh.2.2.symm⟩
  have HIy := Lib.hid hIy
  have HIn := Lib.hid hIn
  clear hT hW hIy hIn hw g1 g2 g3 g4 hl hk
  have hss : (s.toList == s.toList) = true := by simp
  generalize str (pg k i s.data.toList) = p at *
  have hpp : (p.toList == p.toList) = true := by simp
  have hii : ((i : Int) == i) = true := by simp
  have hinj : (o.toNat = k.toNat) → o = k := fun h => UInt8.toNat_inj.1 h
  have Hinj := Lib.hid hinj
  have hoo := Lib.hid (show o = k → o.toNat = k.toNat from fun h => by rw [h])
  clear hi hinj
  generalize hK : k.toNat = x at *
  generalize hO : o.toNat = y at *
  clear hK hO
  have hxx : ((x : Int) == x) = true := by simp
  by_cases hxy : y = x
  · have hok := Hinj.out hxy
    subst hxy
    by_cases hat : at_ = i
    · subst hat
      have HI := Lib.hid (HIy.out hok rfl)
      clear hok
      go_enter Tryd.func3, Tryd.ntmps3
      go_wp2_with fail
      refine (HP.out _).mono ?_
      rintro e w1 ⟨rfl, hb1⟩
      go_wp2_with fail
      refine (HW.out _).mono ?_
      rintro e w' ⟨rfl, rfl⟩
      go_wp2_with fail
      refine (HT.out _).mono ?_
      rintro e w2 ⟨rfl, hb2⟩
      go_wp2_with fail
      refine (HI.out _).mono ?_
      rintro e w3 ⟨rfl, hb3⟩
      go_wp2_with fail
      refine (HR.out _).mono ?_
      rintro e w4 ⟨rfl, hb4⟩
      go_wp2_with fail
      all_goals
        refine (awake_any _).mono ?_
        rintro e w5 ⟨rfl, hb5⟩
        go_wp2_with fail
        go_ret
        have q2 := hb1.trans (hb2.mono hb1.size)
        have q3 := q2.trans (hb3.mono q2.size)
        have q4 := q3.trans (hb4.mono q3.size)
        exact ⟨by first | rfl | (simp; done), q4.trans (hb5.mono q4.size)⟩
    · have HI := Lib.hid (HIn.out (fun h => hat h.2))
      have hf : (at_ == (i : Int)) = false := by simpa using hat
      clear hok hat
      go_enter Tryd.func3, Tryd.ntmps3
      go_wp2_with fail
      refine (HP.out _).mono ?_
      rintro e w1 ⟨rfl, hb1⟩
      go_wp2_with fail
      refine (HW.out _).mono ?_
      rintro e w' ⟨rfl, rfl⟩
      go_wp2_with fail
      refine (HT.out _).mono ?_
      rintro e w2 ⟨rfl, hb2⟩
      go_wp2_with fail
      refine (HI.out _).mono ?_
      rintro e w3 ⟨rfl, hb3⟩
      go_wp2_with fail
      refine (HR.out _).mono ?_
      rintro e w4 ⟨rfl, hb4⟩
      go_wp2_with fail
      all_goals
        refine (awake_any _).mono ?_
        rintro e w5 ⟨rfl, hb5⟩
        go_wp2_with fail
        go_ret
        have q2 := hb1.trans (hb2.mono hb1.size)
        have q3 := q2.trans (hb3.mono q2.size)
        have q4 := q3.trans (hb4.mono q3.size)
        exact ⟨by first | rfl | (simp; done), q4.trans (hb5.mono q4.size)⟩
  · have HI := Lib.hid (HIn.out (fun h => hxy (hoo.out h.1)))
    have hf : ((y : Int) == (x : Int)) = false := by simp; omega
    clear hxy
    go_enter Tryd.func3, Tryd.ntmps3
    go_wp2_with fail
    refine (HP.out _).mono ?_
    rintro e w1 ⟨rfl, hb1⟩
    go_wp2_with fail
    refine (HW.out _).mono ?_
    rintro e w' ⟨rfl, rfl⟩
    go_wp2_with fail
    refine (HT.out _).mono ?_
    rintro e w2 ⟨rfl, hb2⟩
    go_wp2_with fail
    refine (HI.out _).mono ?_
    rintro e w3 ⟨rfl, hb3⟩
    go_wp2_with fail
    refine (HR.out _).mono ?_
    rintro e w4 ⟨rfl, hb4⟩
    go_wp2_with fail
    all_goals
      refine (awake_any _).mono ?_
      rintro e w5 ⟨rfl, hb5⟩
      go_wp2_with fail
      go_ret
      have q2 := hb1.trans (hb2.mono hb1.size)
      have q3 := q2.trans (hb3.mono q2.size)
      have q4 := q3.trans (hb4.mono q3.size)
      exact ⟨by first | rfl | (simp; done), q4.trans (hb5.mono q4.size)⟩

set_option maxHeartbeats 1000000 in
theorem walk_no (k : UInt8) (i : Int) (s : ByteArray) (o : UInt8) (at_ : Int) (w : World) (hs : s.size ≤ 1000) (hw : pwrong k i s.size ≠ 0) :
    Calls Tryd.prog 3 #[.int .u8 k.toNat, .int .i64 i, .string s, .int .u8 o.toNat, .int .i64 at_] w fun e w' => e = .returned (.bool true) ∧ Below w.heap.size w w' := by
  have HP := Lib.hid (fun w => put_no k i s w (by unfold maxLen; omega) hw)
  have HW := Lib.hid (fun w => rwrong_any k i s w (by unfold maxLen; omega))
  generalize pwrong k i s.size = r at *
  have h0 : (r != 0) = true := by simpa using hw
  have h1 : (r == r) = true := by simp
  clear hw
  generalize k.toNat = x at *
  generalize o.toNat = y at *
  go_enter Tryd.func3, Tryd.ntmps3
  go_wp2_with fail
  refine (HP.out _).mono ?_
  rintro e w' ⟨rfl, rfl⟩
  go_wp2_with fail
  refine (HW.out _).mono ?_
  rintro e w' ⟨rfl, rfl⟩
  go_wp2_with fail
  refine (awake_any _).mono ?_
  rintro e w5 ⟨rfl, hb5⟩
  go_wp2_with fail
  go_ret
  exact ⟨by first | rfl | (simp; done), hb5⟩

theorem walk (a0 a1 : Int) (s2 : ByteArray) (a3 a4 : Int) (w : World) (w0 : (Lit.int .u8 a0).wf = true) (w1 : (Lit.int .i64 a1).wf = true) (w2 : s2.size ≤ maxLen) (w3 : (Lit.int .u8 a3).wf = true) (w4 : (Lit.int .i64 a4).wf = true) :
    Calls Tryd.prog 3 #[.int .u8 a0, .int .i64 a1, .string s2, .int .u8 a3, .int .i64 a4] w fun e w' => e = .returned (.bool true) ∧ Below w.heap.size w w' := by
  obtain ⟨k, rfl⟩ := u8_of w0
  obtain ⟨o, rfl⟩ := u8_of w3
  by_cases hs : s2.size ≤ 1000
  · by_cases hw : pwrong k a1 s2.size = 0
    · obtain ⟨h1, h2, h3, h4⟩ := pwrong_zero hw
      obtain ⟨i, rfl⟩ : ∃ i : Nat, a1 = i := ⟨a1.toNat, by omega⟩
      exact walk_yes k i s2 o a4 w h1 (by omega) h4
    · exact walk_no k a1 s2 o a4 w hs hw
  · clear w0 w1 w3 w4
    unfold maxLen at w2
    generalize k.toNat = x at *
    generalize o.toNat = y at *
    go_enter Tryd.func3, Tryd.ntmps3
    go_wp2_with fail
    refine (awake_any _).mono ?_
    rintro e w5 ⟨rfl, hb5⟩
    go_wp2_with fail
    go_ret
    exact ⟨rfl, hb5⟩

end Go.Proofs.YtpgmbpjjefecdaaDoor.pagePuts
