/- Layer 2, plain: a closed text of which bits within 32 in a row are other ones is none. -/
import Derived.Test.YtlmgmojicpdbeaaCrc5
namespace Go.Proofs.Ytlmgmojicpdbeaa.Crc

/-- bytes as one number, the lowest first -/
def val : List UInt8 → Nat
  | [] => 0
  | b :: l => b.toNat ^^^ val l * 256
theorem xor_mul (a b k : Nat) : (a ^^^ b) * 2 ^ k = a * 2 ^ k ^^^ b * 2 ^ k := by
  rw [← Nat.shiftLeft_eq, ← Nat.shiftLeft_eq, ← Nat.shiftLeft_eq, Nat.shiftLeft_xor_distrib]
theorem run_val (x : Nat) (l : List UInt8) : run x l = steps (8 * l.length) (x ^^^ val l) := by
  induction l generalizing x with
  | nil => simp [run, steps, val]
  | cons b l ih =>
    show run (one x b) l = _
    rw [ih, List.length_cons, show 8 * (l.length + 1) = 8 + 8 * l.length by omega, steps_add]
    have e : x ^^^ val (b :: l) = (x ^^^ b.toNat) ^^^ val l * 2 ^ 8 := by
      simp only [val]
      rw [Nat.xor_assoc]
    rw [e, steps_xor 8 (x ^^^ b.toNat), steps_shift]
    unfold one
    rfl
theorem byt_toNat (n : Nat) : (byt n).toNat = n % 256 := by
  unfold byt
  rw [UInt8.toNat_ofNat']
theorem low_xor (n : Nat) : n % 256 ^^^ n / 256 * 256 = n := by
  have h := Nat.two_pow_add_eq_or_of_lt (i := 8) (b := n % 256) (Nat.mod_lt _ (by decide)) (n / 256)
  have hx : n % 256 ^^^ (n / 256) * 256 = 2 ^ 8 * (n / 256) ||| n % 256 := by
    apply Nat.eq_of_testBit_eq
    intro i
    rw [Nat.testBit_xor, Nat.testBit_or, Nat.mul_comm, show (256 : Nat) = 2 ^ 8 by rfl, Nat.testBit_two_pow_mul]
    by_cases hi : 8 ≤ i
    · have : (n % 2 ^ 8).testBit i = false := Nat.testBit_lt_two_pow (Nat.lt_of_lt_of_le (Nat.mod_lt _ (by decide)) (Nat.pow_le_pow_right (n := 2) (by decide) hi))
      simp [hi, this]
    · simp [hi]
  rw [hx, ← h]
  omega
theorem val_tail (n : Nat) (h : n < 4294967296) : val (tail4 n) = n := by
  unfold tail4
  simp only [val, byt_toNat]
  have e3 : n / 16777216 % 256 ^^^ 0 * 256 = n / 16777216 := by simp; omega
  rw [e3]
  have e2 : n / 65536 % 256 ^^^ n / 16777216 * 256 = n / 65536 := by
    have := low_xor (n / 65536)
    rw [Nat.div_div_eq_div_mul] at this
    exact this
  rw [e2]
  have e1 : n / 256 % 256 ^^^ n / 65536 * 256 = n / 256 := by
    have := low_xor (n / 256)
    rw [Nat.div_div_eq_div_mul] at this
    exact this
  rw [e1]
  exact low_xor n
theorem inv_xor (n : Nat) (h : n < 4294967296) : n ^^^ inv n = 4294967295 := by
  have h2 := inv_bits n h
  have h3 := xor32 4294967295 n (by decide) h
  have hm : IntKind.u32.max = ((4294967295 : Nat) : Int) := by rfl
  rw [hm, h3] at h2
  have h4 : 4294967295 ^^^ n = inv n := by exact_mod_cast h2
  rw [← h4, Nat.xor_comm n, Nat.xor_assoc, Nat.xor_self, Nat.xor_zero]
/-- whatever is closed leads to one and the same number -/
theorem run_closed (l : List UInt8) : run (inv 0) (closed l) = steps 32 4294967295 := by
  unfold closed
  rw [run_append, run_val _ (tail4 _), val_tail _ (more_lt 0 l)]
  have hl : (tail4 (more 0 l)).length = 4 := rfl
  rw [hl]
  unfold more
  rw [inv_xor _ (run_lt l (inv_lt 0))]
theorem val_set (l : List UInt8) (j c : Nat) (b : UInt8) (hj : j < l.length) (hb : b.toNat = (l[j]).toNat ^^^ c) : val (l.set j b) = val l ^^^ c * 2 ^ (8 * j) := by
  induction l generalizing j with
  | nil => simp at hj
  | cons a l ih =>
    cases j with
    | zero =>
      simp only [List.set_cons_zero, val, List.getElem_cons_zero] at hb ⊢
      rw [hb]
      simp only [Nat.mul_zero, Nat.pow_zero, Nat.mul_one]
      ac_rfl
    | succ j =>
      simp only [List.set_cons_succ, val, List.getElem_cons_succ] at hb ⊢
      have hj' : j < l.length := by simpa using hj
      rw [ih j hj' hb]
      have := xor_mul (val l) (c * 2 ^ (8 * j)) 8
      rw [show (256 : Nat) = 2 ^ 8 by rfl, this, show 8 * (j + 1) = 8 * j + 8 by omega, Nat.pow_add, ← Nat.mul_assoc]
      ac_rfl
/-- THE LAW -/
theorem burst (a : List UInt8) (m : List UInt8) (at_ turn : Nat) (hlen : m.length = (closed a).length) (hat : at_ ≤ 8 * m.length) (ht : turn < 4294967296) (h0 : turn ≠ 0)
    (hv : val m = val (closed a) ^^^ turn * 2 ^ at_) : isClosed m = false := by
  rcases hc : isClosed m with _ | _
  · rfl
  · exfalso
    have h1 := ((isClosed_iff m).1 hc).2
    have r1 := run_closed (front m)
    rw [h1, run_val, hv, ← Nat.xor_assoc, steps_xor, hlen, ← run_val, run_closed] at r1
    have r2 : steps (8 * (closed a).length) (turn * 2 ^ at_) = 0 := by
      have h3 : steps 32 4294967295 ^^^ (steps 32 4294967295 ^^^ steps (8 * (closed a).length) (turn * 2 ^ at_)) = 0 := by rw [r1, Nat.xor_self]
      rw [← Nat.xor_assoc, Nat.xor_self, Nat.zero_xor] at h3
      exact h3
    rw [hlen] at hat
    rw [show 8 * (closed a).length = at_ + (8 * (closed a).length - at_) by omega, steps_add, steps_shift] at r2
    exact steps_ne _ ht h0 r2

end Go.Proofs.Ytlmgmojicpdbeaa.Crc
