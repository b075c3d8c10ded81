/- Layer 1, contracts: the document's Size and Put. -/
import Derived.Test.YtpgmbpjjefecdaaDoorNm4
namespace Go.Proofs.YtpgmbpjjefecdaaDoor.Nm
open Go.RowKit Base Crc Txt Plain
set_option linter.unusedVariables false

def bnd (s : Nat) : Nat := 2 ^ s
set_option maxRecDepth 100000 in
theorem bound_any (s : Nat) (w : World) (h1 : 1 ≤ s) (h8 : s ≤ 8) :
    Calls Tryd.prog 108 #[.int .i64 s] w fun e w' => e = .returned (.int .u64 (bnd (7 * s) : Nat)) ∧ w = w' := by
  have hstep := Lib.hid (show ∀ i, bnd (i + 1) = bnd i * 2 from fun i => Nat.pow_succ 2 i)
  have hbd := Lib.hid (show ∀ i, i < 56 → bnd i < 72057594037927936 from fun i hi => Nat.pow_lt_pow_right (by omega) hi)
  generalize hN : 7 * s = n at *
  have hn : n ≤ 56 := by omega
  have hnI : (7 : Int) * (s : Int) = (n : Int) := by omega
  have HnI := Lib.hid hnI
  clear hN hnI
  go_enter Tryd.func108, Tryd.ntmps108
  go_wp2_with fail
  go_loop [3, 4] (fun v3 v4 => ∃ i : Nat, i ≤ n ∧ v3 = .int .u64 (bnd i : Nat) ∧ v4 = .int .i64 (i : Nat)) (fun _ v4 => n - (intOf v4).toNat)
  case atStart => exact ⟨0, Nat.zero_le _, rfl, rfl⟩
  case round =>
    obtain ⟨i, hi, rfl, rfl⟩ := hrel
    by_cases hlt : i < n
    · have hb := hbd.out i (by omega)
      have hs := Lib.hid (hstep.out i)
      have hltI : (i : Int) < 7 * (s : Int) := by rw [HnI.out]; omega
      generalize bnd i = p at *
      go_wp2_with fail
      go_round
      case rel => exact ⟨i + 1, by omega, by rw [hs.out]; first | rfl | exact congrArg (Value.int .u64) (by omega), by go_num⟩
      case measure => simp [intOf]; omega
    · have hie : i = n := by omega
      have hltI : ¬ (i : Int) < 7 * (s : Int) := by rw [HnI.out]; omega
      subst hie
      go_wp2_with fail
      go_ret
      exact ⟨rfl, rfl⟩
theorem nsize_iff (n k : Nat) (h1 : 1 ≤ k) (h8 : k ≤ 8) : (bnd (7 * k) ≤ n) ↔ k < nsize n := by
  unfold bnd
  have hk : k = 1 ∨ k = 2 ∨ k = 3 ∨ k = 4 ∨ k = 5 ∨ k = 6 ∨ k = 7 ∨ k = 8 := by omega
  unfold nsize
  rcases hk with rfl | rfl | rfl | rfl | rfl | rfl | rfl | rfl <;> simp only [Nat.reduceMul, Nat.reducePow] <;> (repeat (first | omega | split))

set_option maxHeartbeats 400000 in
theorem rsize_any (n : Nat) (w : World) (hn : n < 18446744073709551616) :
    Calls Tryd.prog 97 #[.int .u64 n] w fun e w' => e = .returned (.int .i64 (nsize n : Nat)) ∧ w = w' := by
  have Hn := Lib.hid hn
  have hb := nsize_bd n
  have hiff := Lib.hid (fun k h1 h8 => nsize_iff n k h1 h8)
  clear hn
  generalize nsize n = S at *
  go_enter Tryd.func97, Tryd.ntmps97
  go_wp2_with fail
  go_loop [3] (fun v => ∃ k : Nat, 1 ≤ k ∧ k ≤ S ∧ v = .int .i64 (k : Nat)) (fun v => 9 - (intOf v).toNat)
  case atStart => exact ⟨1, Nat.le_refl _, hb.1, rfl⟩
  case round =>
    obtain ⟨k, h1, h2, rfl⟩ := hrel
    by_cases h9 : k < 9
    · have HB := Lib.hid (fun w => bound_any k w h1 (by omega))
      have hf := hiff.out k h1 (by omega)
      generalize bnd (7 * k) = p at *
      by_cases hlt : k < S
      · have hle := hf.2 hlt
        have hleI : (p : Int) ≤ (n : Int) := by omega
        clear hf hle
        go_wp2_with fail
        refine (HB.out _).mono ?_
        rintro e w' ⟨rfl, rfl⟩
        go_wp2_with fail
        go_round
        case rel => exact ⟨k + 1, by omega, by omega, by go_num⟩
        case measure => simp [intOf]; omega
      · have hkS : k = S := by omega
        subst hkS
        have hleI : ¬ (p : Int) ≤ (n : Int) := by intro hh; have := hf.1 (by omega); omega
        clear hf hlt
        go_wp2_with fail
        refine (HB.out _).mono ?_
        rintro e w' ⟨rfl, rfl⟩
        go_wp2_with fail
        go_ret
        exact ⟨rfl, rfl⟩
    · have hkS : k = S := by omega
      subst hkS
      go_wp2_with fail
      go_ret
      exact ⟨rfl, rfl⟩

theorem lead_step (i : Nat) (h1 : 1 ≤ i) (h8 : i ≤ 8) : lead (i + 1) = lead i + 256 / 2 ^ i ∧ 256 / 2 ^ (i + 1) = 256 / 2 ^ i / 2 ∧ lead i < 256 ∧ 256 / 2 ^ i ≤ 128 := by
  have key : ∀ i : Fin 9, 1 ≤ i.val → lead (i.val + 1) = lead i.val + 256 / 2 ^ i.val ∧ 256 / 2 ^ (i.val + 1) = 256 / 2 ^ i.val / 2 ∧ lead i.val < 256 ∧ 256 / 2 ^ i.val ≤ 128 := by decide +kernel
  exact key ⟨i, by omega⟩ h1
set_option maxHeartbeats 400000 in
theorem rlead_any (s : Nat) (w : World) (h1 : 1 ≤ s) (h9 : s ≤ 9) :
    Calls Tryd.prog 98 #[.int .i64 s] w fun e w' => e = .returned (.int .i64 (lead s : Nat)) ∧ w = w' := by
  go_enter Tryd.func98, Tryd.ntmps98
  go_wp2_with fail
  go_loop [3, 4, 5] (fun v3 v4 v5 => ∃ i : Nat, 1 ≤ i ∧ i ≤ s ∧ v3 = .int .i64 (lead i : Nat) ∧ v4 = .int .i64 (256 / 2 ^ i : Nat) ∧ v5 = .int .i64 (i : Nat)) (fun _ _ v5 => s - (intOf v5).toNat)
  case atStart => exact ⟨1, Nat.le_refl _, h1, rfl, rfl, rfl⟩
  case round =>
    obtain ⟨i, hi1, hi2, rfl, rfl, rfl⟩ := hrel
    by_cases hlt : i < s
    · obtain ⟨q1, q2, q3, q4⟩ := lead_step i hi1 (by omega)
      have Q1 := Lib.hid q1
      have Q2 := Lib.hid q2
      clear q1 q2
      generalize lead i = L at *
      generalize 256 / 2 ^ i = b at *
      go_wp2_with fail
      go_round
      case rel => exact ⟨i + 1, by omega, by omega, by rw [Q1.out]; first | rfl | exact congrArg (Value.int .i64) (by omega), by rw [Q2.out]; first | rfl | exact congrArg (Value.int .i64) (by omega), by go_num⟩
      case measure => simp [intOf]; omega
    · have hie : i = s := by omega
      subst hie
      go_wp2_with fail
      go_ret
      exact ⟨rfl, rfl⟩

theorem byte0 (n s : Nat) (hs : s = nsize n) (h : n < 18446744073709551616) : lead s + n / 256 ^ (s - 1) ≤ 255 := by
  have hb := nsize_bd n
  have hk : s = 1 ∨ s = 2 ∨ s = 3 ∨ s = 4 ∨ s = 5 ∨ s = 6 ∨ s = 7 ∨ s = 8 ∨ s = 9 := by omega
  unfold nsize at hs
  rcases hk with rfl | rfl | rfl | rfl | rfl | rfl | rfl | rfl | rfl <;> simp [lead] at hs ⊢ <;> (repeat (first | omega | split at hs))

set_option maxRecDepth 100000 in
set_option maxHeartbeats 1000000 in
theorem rput_any (n : Nat) (w : World) (hn : n < 18446744073709551616) :
    Calls Tryd.prog 81 #[.int .u64 n] w fun e w' => e = .returned (.string (str (nput n))) ∧ Below w.heap.size w w' := by
  have HSz := Lib.hid (fun w => rsize_any n w hn)
  have hbd := nsize_bd n
  have hb0 := byte0 n (nsize n) rfl hn
  have HL := Lib.hid (fun w => rlead_any (nsize n) w hbd.1 hbd.2)
  have hdv := Lib.hid (show ∀ t, n / 256 ^ t < 18446744073709551616 from fun t => Nat.lt_of_le_of_lt (Nat.div_le_self _ _) hn)
  have hstep := Lib.hid (show ∀ t, n / 256 ^ (t + 1) = n / 256 ^ t / 256 from fun t => by rw [Nat.pow_succ, Nat.div_div_eq_div_mul])
  have hput := Lib.hid (show nput n = byt (lead (nsize n) + n / 256 ^ (nsize n - 1)) :: be (nsize n - 1) n from rfl)
  have hcv := fun w x => conv_one w x
  clear hn
  generalize nsize n = S at *
  go_enter Tryd.func81, Tryd.ntmps81
  go_wp2_with fail
  refine (HSz.out _).mono ?_
  rintro e w' ⟨rfl, rfl⟩
  go_wp2_with fail
  go_loopw [0, 4, 5] (fun v0 v4 v5 wr => ∃ t : Nat, t + 1 ≤ S ∧ v5 = .int .i64 ((t : Int) + 1) ∧ v0 = .int .u64 (n / 256 ^ t : Nat) ∧ v4 = .string (str (be t n)) ∧ Below w.heap.size w wr) (fun _ _ v5 _ => 10 - (intOf v5).toNat)
  case atStart => exact ⟨0, by omega, rfl, by simp, rfl, Below.refl _ _⟩
  case round =>
    obtain ⟨t, ht, rfl, rfl, rfl, hbe⟩ := hrel
    have hdt := hdv.out t
    have Hst := Lib.hid (hstep.out t)
    have hbl : (str (be t n)).size ≤ 9 := by rw [str_size, be_len]; omega
    by_cases hlt : t + 1 < S
    · have Hbe1 := Lib.hid (show be (t + 1) n = byt (n / 256 ^ t) :: be t n from rfl)
      clear hcv
      generalize n / 256 ^ t = m at *
      have Hcat := Lib.hid (show str [byt ((m : Int) % 256).toNat] ++ str (be t n) = str (be (t + 1) n) by
        rw [str_app, byt_mod, Hbe1.out]
        rfl)
      have hcv1 := fun W => conv_one W ((m : Int) % 256) (by omega) (by omega)
      have hz1 : (str [byt ((m : Int) % 256).toNat]).size ≤ 1 := Nat.le_refl _
      generalize str (be t n) = X at *
      generalize str [byt ((m : Int) % 256).toNat] = Y at *
      go_wp2_with fail
      go_roundw
      case rel => exact ⟨t + 1, by omega, by first | rfl | exact congrArg (Value.int .i64) (by omega), by rw [Hst.out]; first | rfl | exact congrArg (Value.int .u64) (by omega), by rw [Hcat.out], hbe.alloc hbe.size _⟩
      case measure => simp [intOf]; omega
    · have htS : S - 1 = t := by omega
      rw [htS] at hput hb0
      have hSt : S = t + 1 := by omega
      subst hSt
      have hL : ∀ w, Calls Tryd.prog 98 #[.int .i64 ((t : Int) + 1)] w fun e w' => e = .returned (.int .i64 (lead (t + 1) : Nat)) ∧ w = w' := HL.out
      have HL' := Lib.hid hL
      have Hput := Lib.hid hput.out
      clear hcv hput htS hL
      generalize n / 256 ^ t = m at *
      generalize lead (t + 1) = L at *
      have Hcat := Lib.hid (show str [byt ((L : Int) + (m : Int)).toNat] ++ str (be t n) = str (nput n) by
        rw [str_app, Hput.out]
        rfl)
      have hcv1 := fun W => conv_one W ((L : Int) + (m : Int)) (by omega) (by omega)
      have hz1 : (str [byt ((L : Int) + (m : Int)).toNat]).size ≤ 1 := Nat.le_refl _
      generalize str (be t n) = X at *
      generalize str [byt ((L : Int) + (m : Int)).toNat] = Y at *
      go_wp2_with fail
      refine (HL'.out _).mono ?_
      rintro e w' ⟨rfl, rfl⟩
      go_wp2_with fail
      go_ret
      exact ⟨by rw [← Hcat.out]; rfl, hbe.alloc hbe.size _⟩

end Go.Proofs.YtpgmbpjjefecdaaDoor.Nm
