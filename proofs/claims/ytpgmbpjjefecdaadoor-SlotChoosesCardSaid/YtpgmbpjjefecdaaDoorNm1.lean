/- Layer 1 in plain Lean: numbers as bytes whose order is the numbers'. -/
import Derived.Test.YtpgmbpjjefecdaaDoorTxt
namespace Go.Proofs.YtpgmbpjjefecdaaDoor.Nm
open Go.RowKit Base Crc
set_option linter.unusedVariables false

def nsize (n : Nat) : Nat :=
  if n < 128 then 1 else if n < 16384 then 2 else if n < 2097152 then 3 else if n < 268435456 then 4 else if n < 34359738368 then 5
  else if n < 4398046511104 then 6 else if n < 562949953421312 then 7 else if n < 72057594037927936 then 8 else 9
theorem nsize_bd (n : Nat) : 1 ≤ nsize n ∧ nsize n ≤ 9 := by unfold nsize; repeat (first | omega | split)
def lead (s : Nat) : Nat := 256 - 2 ^ (9 - s)
/-- the t lowest bytes of a number, the highest first -/
def be : Nat → Nat → List UInt8
  | 0, _ => []
  | t + 1, n => byt (n / 256 ^ t) :: be t n
theorem be_len (t n : Nat) : (be t n).length = t := by
  induction t with
  | zero => rfl
  | succ t ih => simp [be, ih]
/-- the number of bytes, the highest first -/
def val (l : List UInt8) : Nat := l.foldl (fun n b => n * 256 + b.toNat) 0
theorem foldl_val (l : List UInt8) (a : Nat) : l.foldl (fun n b => n * 256 + b.toNat) a = a * 256 ^ l.length + val l := by
  unfold val
  induction l generalizing a with
  | nil => simp
  | cons b l ih =>
    rw [List.foldl_cons, List.foldl_cons, ih, ih (0 * 256 + b.toNat), List.length_cons, Nat.pow_succ]
    simp only [Nat.zero_mul, Nat.zero_add]
    rw [Nat.add_mul, Nat.mul_assoc, Nat.mul_comm 256 (256 ^ l.length), Nat.add_assoc]
theorem val_cons (b : UInt8) (l : List UInt8) : val (b :: l) = b.toNat * 256 ^ l.length + val l := by
  have := foldl_val l (0 * 256 + b.toNat)
  rw [Nat.zero_mul, Nat.zero_add] at this
  unfold val at this ⊢
  rw [List.foldl_cons, Nat.zero_mul, Nat.zero_add]
  exact this
theorem val_snoc (l : List UInt8) (b : UInt8) : val (l ++ [b]) = val l * 256 + b.toNat := by
  unfold val
  rw [List.foldl_append]
  rfl
theorem val_lt (l : List UInt8) : val l < 256 ^ l.length := by
  induction l with
  | nil => simp [val]
  | cons b l ih =>
    rw [val_cons, List.length_cons, Nat.pow_succ]
    have := b.toNat_lt
    have h1 : b.toNat * 256 ^ l.length ≤ 255 * 256 ^ l.length := Nat.mul_le_mul_right _ (by omega)
    omega
theorem byt_of (b : UInt8) (n : Nat) (h : n % 256 = b.toNat) : byt n = b := by
  unfold byt
  apply UInt8.toNat_inj.1
  rw [UInt8.toNat_ofNat']
  omega
theorem be_val (l : List UInt8) (a : Nat) : be l.length (a * 256 ^ l.length + val l) = l := by
  induction l generalizing a with
  | nil => rfl
  | cons b l ih =>
    rw [List.length_cons, be, val_cons, Nat.pow_succ]
    have hlt := val_lt l
    have hp : 0 < 256 ^ l.length := Nat.pow_pos (by omega)
    have e : a * (256 ^ l.length * 256) + (b.toNat * 256 ^ l.length + val l) = (a * 256 + b.toNat) * 256 ^ l.length + val l := by
      rw [Nat.add_mul, Nat.mul_assoc, Nat.mul_comm 256, Nat.add_assoc]
    rw [e, ih (a * 256 + b.toNat)]
    congr 1
    apply byt_of
    rw [Nat.add_comm, Nat.add_mul_div_right _ _ hp, Nat.div_eq_of_lt hlt]
    have := b.toNat_lt
    omega
theorem val_be (t n : Nat) : val (be t n) = n % 256 ^ t := by
  induction t with
  | zero => simp [be, val, Nat.mod_one]
  | succ t ih =>
    rw [be, val_cons, be_len, ih, Nat.pow_succ, Nat.mod_mul]
    have : (byt (n / 256 ^ t)).toNat = n / 256 ^ t % 256 := by unfold byt; rw [UInt8.toNat_ofNat']
    rw [this, Nat.mul_comm, Nat.add_comm]
/-- a number's bytes -/
def nput (n : Nat) : List UInt8 := byt (lead (nsize n) + n / 256 ^ (nsize n - 1)) :: be (nsize n - 1) n
theorem nput_len (n : Nat) : (nput n).length = nsize n := by
  unfold nput
  rw [List.length_cons, be_len]
  have := nsize_bd n
  omega
def ones (x : Nat) : Nat := if x < 128 then 0 else if x < 192 then 1 else if x < 224 then 2 else if x < 240 then 3 else if x < 248 then 4 else if x < 252 then 5 else if x < 254 then 6 else if x < 255 then 7 else 8
theorem ones_bd (x : Nat) : ones x ≤ 8 := by unfold ones; repeat (first | omega | split)
theorem ones_next (x : Nat) (h : 128 ≤ x) (h2 : x < 256) : ones x = ones (x * 2 % 256) + 1 := by
  have key : ∀ x : Fin 256, 128 ≤ x.val → ones x.val = ones (x.val * 2 % 256) + 1 := by decide +kernel
  exact key ⟨x, h2⟩ h
/-- the number that the form of the first s bytes tells -/
def nval (l : List UInt8) (s : Nat) : Nat := (if s = 9 then 0 else (l.getD 0 0).toNat - lead s) * 256 ^ (s - 1) + val ((l.drop 1).take (s - 1))
def ntake (l : List UInt8) : Option (Nat × Nat) :=
  if l = [] then none else if l.length < ones (l.getD 0 0).toNat + 1 then none
  else if nsize (nval l (ones (l.getD 0 0).toNat + 1)) = ones (l.getD 0 0).toNat + 1 then some (nval l (ones (l.getD 0 0).toNat + 1), ones (l.getD 0 0).toNat + 1) else none
theorem lead_ones (x : Nat) (h : x < 256) : lead (ones x + 1) ≤ x ∧ (ones x + 1 < 9 → x < lead (ones x + 2)) := by
  have key : ∀ x : Fin 256, lead (ones x.val + 1) ≤ x.val ∧ (ones x.val + 1 < 9 → x.val < lead (ones x.val + 2)) := by decide +kernel
  exact key ⟨x, h⟩
theorem ones_lead (s : Nat) (x : Nat) (h : x < 256) (h1 : 1 ≤ s) (h9 : s ≤ 9) (hl : lead s ≤ x) (hu : s < 9 → x < lead (s + 1)) : ones x + 1 = s := by
  have key : ∀ s : Fin 10, ∀ x : Fin 256, 1 ≤ s.val → lead s.val ≤ x.val → (s.val < 9 → x.val < lead (s.val + 1)) → ones x.val + 1 = s.val := by decide +kernel
  exact key ⟨s, by omega⟩ ⟨x, h⟩ h1 hl hu
theorem nval_lt (l : List UInt8) (s : Nat) (hs : s = ones (l.getD 0 0).toNat + 1) (hl : s ≤ l.length) : nval l s < 18446744073709551616 := by
  have hx := (l.getD 0 0).toNat_lt
  have hb := ones_bd (l.getD 0 0).toNat
  have hl1 := lead_ones _ hx
  rw [← hs] at hl1
  have hv := val_lt ((l.drop 1).take (s - 1))
  rw [List.length_take, List.length_drop, Nat.min_eq_left (by omega)] at hv
  unfold nval
  generalize val ((l.drop 1).take (s - 1)) = v at *
  generalize (l.getD 0 0).toNat = x at *
  have h9 : s = 1 ∨ s = 2 ∨ s = 3 ∨ s = 4 ∨ s = 5 ∨ s = 6 ∨ s = 7 ∨ s = 8 ∨ s = 9 := by omega
  clear hs
  rcases h9 with rfl | rfl | rfl | rfl | rfl | rfl | rfl | rfl | rfl <;> simp [lead] at * <;> omega
/-- where the form fits, the bytes are the number's -/
theorem nput_nval (l : List UInt8) (s : Nat) (hne : l ≠ []) (hs : s = ones (l.getD 0 0).toNat + 1) (hl : s ≤ l.length) (hn : nsize (nval l s) = s) : nput (nval l s) = l.take s := by
  obtain ⟨b, r, rfl⟩ := List.exists_cons_of_ne_nil hne
  have hx := b.toNat_lt
  have hb := ones_bd b.toNat
  have hl1 := lead_ones _ hx
  simp only [List.getD_cons_zero] at hs
  rw [← hs] at hl1
  have hr : (r.take (s - 1)).length = s - 1 := by rw [List.length_take]; simp at hl; omega
  have hv := val_lt (r.take (s - 1))
  rw [hr] at hv
  unfold nput
  rw [hn]
  have hval : nval (b :: r) s = (if s = 9 then 0 else b.toNat - lead s) * 256 ^ (s - 1) + val (r.take (s - 1)) := by
    unfold nval
    simp
  have h1 := be_val (r.take (s - 1)) (if s = 9 then 0 else b.toNat - lead s)
  rw [hr, ← hval] at h1
  rw [h1]
  have hs1 : s = (s - 1) + 1 := by omega
  conv => rhs; rw [hs1, List.take_succ_cons]
  congr 1
  have hp : 0 < 256 ^ (s - 1) := Nat.pow_pos (by omega)
  rw [hval, Nat.add_comm (_ * _), Nat.add_mul_div_right _ _ hp, Nat.div_eq_of_lt hv, Nat.zero_add]
  apply byt_of
  by_cases h9 : s = 9
  · subst h9
    rw [if_pos rfl]
    have : lead 9 = 255 := by decide
    rw [this] at hl1 ⊢
    omega
  · rw [if_neg h9]
    omega

end Go.Proofs.YtpgmbpjjefecdaaDoor.Nm
