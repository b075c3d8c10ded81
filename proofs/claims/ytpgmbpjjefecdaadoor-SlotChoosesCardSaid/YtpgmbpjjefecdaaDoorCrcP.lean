/- Layer 2, plain: the sum of 32 bits, bit by bit, in natural numbers; it is linear, each step can be undone, and a burst of at most 32 bits is seen. -/
import Derived.Test.YtpgmbpjjefecdaaDoorRows
namespace Go.Proofs.YtpgmbpjjefecdaaDoor.Crc

def poly : Nat := 2197175160
/-- one bit -/
def step (n : Nat) : Nat := n / 2 ^^^ (n % 2) * poly
def steps : Nat → Nat → Nat
  | 0, n => n
  | k + 1, n => steps k (step n)

theorem lt32 {a b : Nat} (ha : a < 4294967296) (hb : b < 4294967296) : a ^^^ b < 4294967296 := Nat.xor_lt_two_pow (n := 32) ha hb
theorem step_lt {n : Nat} (h : n < 4294967296) : step n < 4294967296 := by
  refine lt32 (by omega) ?_
  have : n % 2 < 2 := Nat.mod_lt _ (by decide)
  unfold poly
  omega
theorem steps_lt (k : Nat) {n : Nat} (h : n < 4294967296) : steps k n < 4294967296 := by
  induction k generalizing n with
  | zero => exact h
  | succ k ih => exact ih (step_lt h)
theorem steps_add (j k n : Nat) : steps (j + k) n = steps k (steps j n) := by
  induction j generalizing n with
  | zero => simp [steps]
  | succ j ih => rw [Nat.add_right_comm]; exact ih (step n)
theorem xor_div (a b : Nat) : (a ^^^ b) / 2 = a / 2 ^^^ b / 2 := Nat.xor_div_two_pow (n := 1)
theorem xor_mod (a b : Nat) : (a ^^^ b) % 2 = a % 2 ^^^ b % 2 := Nat.xor_mod_two_pow (n := 1)
theorem mul_xor (a b : Nat) (ha : a < 2) (hb : b < 2) : (a ^^^ b) * poly = a * poly ^^^ b * poly := by
  have h0 : a = 0 ∨ a = 1 := by omega
  have h1 : b = 0 ∨ b = 1 := by omega
  rcases h0 with rfl | rfl <;> rcases h1 with rfl | rfl <;> simp
theorem step_xor (a b : Nat) : step (a ^^^ b) = step a ^^^ step b := by
  unfold step
  rw [xor_div, xor_mod, mul_xor _ _ (Nat.mod_lt _ (by decide)) (Nat.mod_lt _ (by decide))]
  ac_rfl
theorem steps_xor (k a b : Nat) : steps k (a ^^^ b) = steps k a ^^^ steps k b := by
  induction k generalizing a b with
  | zero => rfl
  | succ k ih => simp only [steps, step_xor, ih]
theorem step_zero : step 0 = 0 := by simp [step]
theorem steps_zero (k : Nat) : steps k 0 = 0 := by
  induction k with
  | zero => rfl
  | succ k ih => simp only [steps, step_zero, ih]
theorem step_even (m : Nat) : step (m * 2) = m := by
  unfold step
  rw [Nat.mul_div_cancel _ (by decide), Nat.mul_mod_left]
  simp
theorem steps_shift (k m : Nat) : steps k (m * 2 ^ k) = m := by
  induction k generalizing m with
  | zero => simp [steps]
  | succ k ih =>
    simp only [steps]
    rw [Nat.pow_succ, ← Nat.mul_assoc, step_even]
    exact ih m
/-- no step loses anything: poly has its highest bit set -/
theorem step_ne {n : Nat} (h : n < 4294967296) (hn : n ≠ 0) : step n ≠ 0 := by
  unfold step
  have h2 : n % 2 = 0 ∨ n % 2 = 1 := by omega
  rcases h2 with h2 | h2
  · rw [h2]
    simp
    omega
  · rw [h2]
    intro he
    have hx : n / 2 = 1 * poly := by
      have h3 : (n / 2 ^^^ 1 * poly) ^^^ (1 * poly) = 1 * poly := by rw [he]; simp
      rw [Nat.xor_assoc, Nat.xor_self, Nat.xor_zero] at h3
      exact h3
    unfold poly at hx
    omega
theorem steps_ne (k : Nat) {n : Nat} (h : n < 4294967296) (hn : n ≠ 0) : steps k n ≠ 0 := by
  induction k generalizing n with
  | zero => exact hn
  | succ k ih => exact ih (step_lt h) (step_ne h hn)

/-! ### a byte -/
theorem split_low (n : Nat) : n = (n / 16) * 2 ^ 4 ^^^ n % 16 := by
  have h := Nat.two_pow_add_eq_or_of_lt (i := 4) (b := n % 16) (Nat.mod_lt _ (by decide)) (n / 16)
  have hx : (n / 16) * 2 ^ 4 ^^^ n % 16 = 2 ^ 4 * (n / 16) ||| n % 16 := by
    apply Nat.eq_of_testBit_eq
    intro i
    rw [Nat.testBit_xor, Nat.testBit_or, Nat.mul_comm, Nat.testBit_two_pow_mul]
    by_cases hi : 4 ≤ i
    · have : (n % 16).testBit i = false := Nat.testBit_lt_two_pow (Nat.lt_of_lt_of_le (Nat.mod_lt _ (by decide)) (Nat.pow_le_pow_right (n := 2) (by decide) hi))
      simp [hi, this]
    · simp [hi]
  rw [hx, ← h]
  omega
/-- four bits at once, by a table of sixteen -/
theorem half_step (n : Nat) : n / 16 ^^^ steps 4 (n % 16) = steps 4 n := by
  conv => rhs; rw [split_low n]
  rw [steps_xor, steps_shift]

def one (n : Nat) (b : UInt8) : Nat := steps 8 (n ^^^ b.toNat)
def run (n : Nat) (l : List UInt8) : Nat := l.foldl one n
def inv (n : Nat) : Nat := 4294967295 - n
/-- the sum goes on over bytes -/
def more (sum : Nat) (l : List UInt8) : Nat := inv (run (inv sum) l)

theorem byte_lt (b : UInt8) : b.toNat < 256 := b.toNat_lt
theorem one_lt {n : Nat} (b : UInt8) (h : n < 4294967296) : one n b < 4294967296 := steps_lt 8 (lt32 h (by have := byte_lt b; omega))
theorem run_lt {n : Nat} (l : List UInt8) (h : n < 4294967296) : run n l < 4294967296 := by
  induction l generalizing n with
  | nil => exact h
  | cons b l ih => exact ih (one_lt b h)
theorem inv_lt (n : Nat) : inv n < 4294967296 := by unfold inv; omega
theorem inv_inv {n : Nat} (h : n < 4294967296) : inv (inv n) = n := by unfold inv; omega
theorem more_lt (s : Nat) (l : List UInt8) : more s l < 4294967296 := inv_lt _
theorem run_append (n : Nat) (a b : List UInt8) : run n (a ++ b) = run (run n a) b := by simp [run]
theorem more_append (s : Nat) (a b : List UInt8) : more (more s a) b = more s (a ++ b) := by
  unfold more
  rw [inv_inv (run_lt a (inv_lt s)), run_append]
theorem run_snoc (n : Nat) (l : List UInt8) (b : UInt8) : run n (l ++ [b]) = one (run n l) b := by simp [run]

/-! ### the reference's way: the sum and the byte are halved side by side -/
def rstep (n v : Nat) : Nat × Nat := (n / 2 ^^^ (if n % 2 = v % 2 then 0 else poly), v / 2)
theorem rstep_xor (n v : Nat) : (rstep n v).1 ^^^ (rstep n v).2 = step (n ^^^ v) := by
  unfold rstep step
  simp only
  rw [xor_div, xor_mod]
  have h0 : n % 2 = 0 ∨ n % 2 = 1 := by omega
  have h1 : v % 2 = 0 ∨ v % 2 = 1 := by omega
  rcases h0 with h0 | h0 <;> rcases h1 with h1 | h1 <;> simp [h0, h1] <;> ac_rfl

end Go.Proofs.YtpgmbpjjefecdaaDoor.Crc
