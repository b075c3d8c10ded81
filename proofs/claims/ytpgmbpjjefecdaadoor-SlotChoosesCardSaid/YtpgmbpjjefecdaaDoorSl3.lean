/- Layer 9, third part: the number at an end; numbers put. -/
import Derived.Test.YtpgmbpjjefecdaaDoorSl1
import Derived.Test.YtpgmbpjjefecdaaDoorNm5
namespace Go.Proofs.YtpgmbpjjefecdaaDoor.Sl
open Go.RowKit Base Crc Txt Plain Pg
set_option linter.unusedVariables false

def six (n : Nat) : List UInt8 := Nm.be 6 n
/-- the six bytes behind t rounds -/
def sixTo (n t : Nat) : List UInt8 := List.replicate (6 - t) 0 ++ Nm.be t n
theorem sixTo_set (n t : Nat) (h : t < 6) : (sixTo n t).set (5 - t) (byt (n / 256 ^ t)) = sixTo n (t + 1) := by
  unfold sixTo
  have e : 6 - t = (6 - (t + 1)) + 1 := by omega
  rw [e, List.replicate_succ', List.append_assoc]
  rw [show 5 - t = (List.replicate (6 - (t + 1)) (0 : UInt8)).length by simp]
  rw [List.set_append_right _ _ (Nat.le_refl _), Nat.sub_self]
  simp [Nm.be]
theorem sixTo_len (n t : Nat) (h : t ≤ 6) : (sixTo n t).length = 6 := by
  unfold sixTo
  simp [Nm.be_len]
  omega

set_option maxRecDepth 100000 in
set_option maxHeartbeats 1000000 in
theorem end_any (n : Nat) (w : World) (hn : n ≤ 1099511627776) :
    Calls Tryd.prog 47 #[.int .i64 n] w fun e w' => e = .returned (.string (str (six n))) ∧ Below w.heap.size w w' := by
  have hdv := Lib.hid (show ∀ t, n / 256 ^ t ≤ 1099511627776 from fun t => Nat.le_trans (Nat.div_le_self _ _) hn)
  have hstep := Lib.hid (show ∀ t, n / 256 ^ (t + 1) = n / 256 ^ t / 256 from fun t => by rw [Nat.pow_succ, Nat.div_div_eq_div_mul])
  clear hn
  go_enter Tryd.func47, Tryd.ntmps47
  go_wp2_with fail
  go_loopw [0, 5] (fun v0 v5 wr => ∃ t : Nat, t ≤ 6 ∧ v5 = .int .i64 (t : Nat) ∧ v0 = .int .i64 (n / 256 ^ t : Nat) ∧ Box wr w.heap.size 104 (Nm.bytesV (sixTo n t)) ∧ Below w.heap.size w wr) (fun _ v5 _ => 6 - (intOf v5).toNat)
  case atStart =>
    refine ⟨0, by omega, rfl, by simp, Box.lay rfl, (by repeat (first | exact Below.refl _ _ | assumption | refine Below.drew ?_ | (refine Below.alloc ?_ (by simp <;> omega) _) | (refine Below.setCell ?_ (by simp <;> omega) _)))⟩
  case round =>
    obtain ⟨t, ht, rfl, rfl, hbox, hbe⟩ := hrel
    have hsz := hbe.size
    have hdt := hdv.out t
    have Hst := Lib.hid (hstep.out t)
    have hgs : w.heap.size < wr.heap.size := hbox.lt
    by_cases hlt : t < 6
    · obtain ⟨j, hj⟩ : ∃ j : Nat, j = 5 - t := ⟨_, rfl⟩
      have hcell : wr.cell? ⟨w.heap.size, j, none⟩ = some (.int .u8 (((sixTo n t).getD j 0).toNat : Int)) := by
        rw [hbox.cell]
        have hl := sixTo_len n t (by omega)
        simp [Nm.bytesV, List.getD_eq_getElem?_getD, List.getElem?_eq_getElem (show j < (sixTo n t).length by omega)]
      have hfree := hbox.free j
      have hnew := Lib.hid (show Box (wr.setCell ⟨w.heap.size, j, none⟩ (.int .u8 (((n / 256 ^ t : Nat) : Int) % 256))) w.heap.size 104 (Nm.bytesV (sixTo n (t + 1))) by
        have h := hbox.set j (.int .u8 ((byt (n / 256 ^ t)).toNat : Int))
        rw [Nm.bytesV_set, hj, sixTo_set n t hlt] at h
        rw [hj]
        have e : ((byt (n / 256 ^ t)).toNat : Int) = ((n / 256 ^ t : Nat) : Int) % 256 := by unfold byt; rw [UInt8.toNat_ofNat']; omega
        rw [e] at h
        exact h)
      have hjI : (5 : Int) - (t : Int) = (j : Int) := by omega
      clear hbox hj
      generalize n / 256 ^ t = m at *
      go_wp2_with fail
      refine ⟨⟨t + 1, by omega, by first | rfl | exact congrArg (Value.int .i64) (by omega), ?_, hnew.out, hbe.setCell (Nat.le_refl _) _⟩, by simp [intOf]; omega⟩
      rw [Hst.out]
      exact congrArg (Value.int .i64) (by omega)
    · have ht6 : t = 6 := by omega
      subst ht6
      have hcv := Nm.conv_box (sixTo n 6) 6 6 hbox (by rw [sixTo_len n 6 (Nat.le_refl _)]; omega)
      have e : (sixTo n 6).take 6 = six n := by
        rw [List.take_of_length_le (by rw [sixTo_len n 6 (Nat.le_refl _)]; omega)]
        rfl
      rw [e] at hcv
      clear hbox e
      go_wp2_with fail
      go_ret
      exact ⟨rfl, hbe⟩

set_option maxRecDepth 100000 in
set_option maxHeartbeats 1000000 in
theorem rsix_any (n : Nat) (w : World) (hn : n ≤ 1099511627776) :
    Calls Tryd.prog 56 #[.int .i64 n] w fun e w' => e = .returned (.string (str (six n))) ∧ Below w.heap.size w w' := by
  have hdv := Lib.hid (show ∀ t, n / 256 ^ t ≤ 1099511627776 from fun t => Nat.le_trans (Nat.div_le_self _ _) hn)
  have hstep := Lib.hid (show ∀ t, n / 256 ^ (t + 1) = n / 256 ^ t / 256 from fun t => by rw [Nat.pow_succ, Nat.div_div_eq_div_mul])
  clear hn
  go_enter Tryd.func56, Tryd.ntmps56
  go_wp2_with fail
  go_loopw [0, 3, 4] (fun v0 v3 v4 wr => ∃ t : Nat, t ≤ 6 ∧ v4 = .int .i64 (t : Nat) ∧ v0 = .int .i64 (n / 256 ^ t : Nat) ∧ v3 = .string (str (Nm.be t n)) ∧ Below w.heap.size w wr) (fun _ _ v4 _ => 6 - (intOf v4).toNat)
  case atStart => exact ⟨0, by omega, rfl, by simp, rfl, Below.refl _ _⟩
  case round =>
    obtain ⟨t, ht, rfl, rfl, rfl, hbe⟩ := hrel
    have hdt := hdv.out t
    have Hst := Lib.hid (hstep.out t)
    have hbl : (str (Nm.be t n)).size ≤ 6 := by rw [str_size, Nm.be_len]; omega
    by_cases hlt : t < 6
    · have Hbe1 := Lib.hid (show Nm.be (t + 1) n = byt (n / 256 ^ t) :: Nm.be t n from rfl)
      generalize n / 256 ^ t = m at *
      have Hcat := Lib.hid (show str [byt ((m : Int) % 256).toNat] ++ str (Nm.be t n) = str (Nm.be (t + 1) n) by
        rw [str_app, byt_mod, Hbe1.out]
        rfl)
      have hcv1 := fun W => conv_one W ((m : Int) % 256) (by omega) (by omega)
      have hz1 : (str [byt ((m : Int) % 256).toNat]).size ≤ 1 := Nat.le_refl _
      generalize str (Nm.be t n) = X at *
      generalize str [byt ((m : Int) % 256).toNat] = Y at *
      go_wp2_with fail
      go_roundw
      case rel => exact ⟨t + 1, by omega, by first | rfl | exact congrArg (Value.int .i64) (by omega), by rw [Hst.out]; first | rfl | exact congrArg (Value.int .i64) (by omega), by rw [Hcat.out], hbe.alloc hbe.size _⟩
      case measure => simp [intOf]; omega
    · have ht6 : t = 6 := by omega
      subst ht6
      go_wp2_with fail
      go_ret
      exact ⟨rfl, hbe⟩

theorem putnum_any (n : Nat) (w : World) (hn : n ≤ 2000000) :
    Calls Tryd.prog 48 #[.int .i64 n] w fun e w' => e = .returned (.string (str (Nm.nput n))) ∧ Below w.heap.size w w' := by
  have HP := Lib.hid (fun w => Nm.put_any n w (by omega))
  have hmax : max (n : Int) 0 = n := by omega
  generalize str (Nm.nput n) = X at *
  go_enter Tryd.func48, Tryd.ntmps48
  go_wp2_with fail
  refine (HP.out _).mono ?_
  rintro e w1 ⟨rfl, hb1⟩
  go_wp2_with fail
  go_ret
  exact ⟨rfl, hb1⟩
theorem rputnum_any (n : Nat) (w : World) (hn : n ≤ 2000000) :
    Calls Tryd.prog 57 #[.int .i64 n] w fun e w' => e = .returned (.string (str (Nm.nput n))) ∧ Below w.heap.size w w' := by
  have HP := Lib.hid (fun w => Nm.rput_any n w (by omega))
  have hneg : ¬ (n : Int) < 0 := by omega
  generalize str (Nm.nput n) = X at *
  go_enter Tryd.func57, Tryd.ntmps57
  go_wp2_with fail
  refine (HP.out _).mono ?_
  rintro e w1 ⟨rfl, hb1⟩
  go_wp2_with fail
  go_ret
  exact ⟨rfl, hb1⟩

set_option maxRecDepth 100000 in
set_option maxHeartbeats 1000000 in
theorem number_any (l : List UInt8) (w : World) (hl : l.length = 6) :
    Calls Tryd.prog 55 #[.string (str l)] w fun e w' => e = .returned (.int .i64 (Nm.val l : Nat)) ∧ w = w' := by
  have HI := Lib.hid (fun j hj => index_nb l j hj)
  have HV := Lib.hid (show ∀ t, t ≤ 6 → Nm.val (l.take t) < 256 ^ t from fun t ht => by
    have := Nm.val_lt (l.take t)
    rw [List.length_take, Nat.min_eq_left (by omega)] at this
    exact this)
  have HS := Lib.hid (show ∀ t, t < 6 → Nm.val (l.take (t + 1)) = Nm.val (l.take t) * 256 + (l.getD t 0).toNat from fun t ht => by
    rw [List.take_succ_eq_append_getElem (by omega), Nm.val_snoc, List.getD_eq_getElem?_getD, List.getElem?_eq_getElem (by omega)]
    rfl)
  have Hfull := Lib.hid (show l.take 6 = l from List.take_of_length_le (by omega))
  have hs6 : (str l).size = 6 := hl
  have Hl := Lib.hid hl
  clear hl
  generalize str l = S at *
  go_enter Tryd.func55, Tryd.ntmps55
  go_wp2_with fail
  go_loop [3, 7] (fun v3 v7 => ∃ t : Nat, t ≤ 6 ∧ v7 = .int .i64 (t : Nat) ∧ v3 = .int .i64 (Nm.val (l.take t) : Nat)) (fun _ v7 => 6 - (intOf v7).toNat)
  case atStart => exact ⟨0, by omega, rfl, by simp [Nm.val]⟩
  case round =>
    obtain ⟨t, ht, rfl, rfl⟩ := hrel
    by_cases hlt : t < 6
    · have hi := HI.out t (by rw [Hl.out]; exact hlt)
      have hv : Nm.val (l.take t) < 1099511627776 := Nat.lt_of_lt_of_le (HV.out t ht) (Nat.pow_le_pow_right (n := 256) (by omega) (show t ≤ 5 by omega))
      have Hs := Lib.hid (HS.out t hlt)
      have hb := (l.getD t 0).toNat_lt
      generalize Nm.val (l.take t) = m at *
      generalize (l.getD t 0).toNat = y at *
      have hor : bits .or .i64 ((m : Int) * 256) (y : Int) = (m : Int) * 256 + (y : Int) := by
        have h := or_i64 8 (m * 256) y (by omega) (by omega) (by omega)
        rw [show ((m * 256 : Nat) : Int) = (m : Int) * 256 by omega, show ((m * 256 + y : Nat) : Int) = (m : Int) * 256 + (y : Int) by omega] at h
        exact h
      go_wp2_with fail
      go_round
      case rel => exact ⟨t + 1, by omega, by first | rfl | exact congrArg (Value.int .i64) (by omega), by rw [Hs.out]; first | rfl | exact congrArg (Value.int .i64) (by omega)⟩
      case measure => simp [intOf]; omega
    · have ht6 : t = 6 := by omega
      subst ht6
      rw [Hfull.out]
      go_wp2_with fail
      go_ret
      exact ⟨rfl, rfl⟩

end Go.Proofs.YtpgmbpjjefecdaaDoor.Sl
