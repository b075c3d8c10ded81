/- The walk of ExactTotals: its eight ways together. -/
import Derived.Test.YtlmgmojicpdbeaaExTotA
import Derived.Test.YtlmgmojicpdbeaaExTotB
import Derived.Test.YtlmgmojicpdbeaaExTotC
import Derived.Test.YtlmgmojicpdbeaaExTotD
namespace Go.Proofs.Ytlmgmojicpdbeaa.exactTotals
open Go.ChangeShapes Go.WideShapes Go.ChangeAt Go.RowKit Base Ex
set_option linter.unusedVariables false

theorem fit_of {a : Int} (h : (Lit.int .i64 a).wf = true) : fit a := by
  have := bounds_i64 h
  unfold fit; omega

/-- a total with a value more, whatever comes -/
theorem grow_all (p n x : Int) (hp : fit p) (hn : fit n) (hx : fit x) :
    ∃ (v0 v1 u0 u1 : Int) (ok : Bool),
      (x < 0 → v0 = p ∧ ∀ w, Calls Try.prog 15 #[.int .i64 n, .int .i64 x] w fun e w' => e = .returned (.tuple #[.int .i64 v1, .bool ok]) ∧ w = w') ∧
      (¬ x < 0 → v1 = n ∧ ∀ w, Calls Try.prog 15 #[.int .i64 p, .int .i64 x] w fun e w' => e = .returned (.tuple #[.int .i64 v0, .bool ok]) ∧ w = w') ∧
      (ok = true → u0 = v0 ∧ u1 = v1) ∧ (ok = false → u0 = 0 ∧ u1 = 0) ∧
      (∀ w, Calls Try.prog 23 #[.agg #[.int .i64 p, .int .i64 n], .int .i64 x] w fun e w' => e = .returned (.tuple #[.agg #[.int .i64 u0, .int .i64 u1], .bool ok]) ∧ Below w.heap.size w w') := by
  by_cases h : x < 0
  · by_cases hf : fit (n + x)
    · exact ⟨p, n + x, p, n + x, true, fun _ => ⟨rfl, fun w => radd_yes n x w hn hx hf⟩, fun k => absurd h k, fun _ => ⟨rfl, rfl⟩, (by simp), fun w => grow_yes p n x p (n + x) w hp hn hx (by simp [grow, h, hf])⟩
    · exact ⟨p, 0, 0, 0, false, fun _ => ⟨rfl, fun w => radd_no n x w hn hx hf⟩, fun k => absurd h k, (by simp), fun _ => ⟨rfl, rfl⟩, fun w => grow_no p n x w hp hn hx (by simp [grow, h, hf])⟩
  · by_cases hf : fit (p + x)
    · exact ⟨p + x, n, p + x, n, true, fun k => absurd k h, fun _ => ⟨rfl, fun w => radd_yes p x w hp hx hf⟩, fun _ => ⟨rfl, rfl⟩, (by simp), fun w => grow_yes p n x (p + x) n w hp hn hx (by simp [grow, h, hf])⟩
    · exact ⟨0, n, 0, 0, false, fun k => absurd k h, fun _ => ⟨rfl, fun w => radd_no p x w hp hx hf⟩, (by simp), fun _ => ⟨rfl, rfl⟩, fun w => grow_no p n x w hp hn hx (by simp [grow, h, hf])⟩

theorem join_all (p n q m : Int) (hp : fit p) (hn : fit n) (hq : fit q) (hm : fit m) :
    ∃ (c1 c2 j0 j1 : Int) (up down : Bool),
      (∀ w, Calls Try.prog 15 #[.int .i64 p, .int .i64 q] w fun e w' => e = .returned (.tuple #[.int .i64 c1, .bool up]) ∧ w = w') ∧
      (∀ w, Calls Try.prog 15 #[.int .i64 n, .int .i64 m] w fun e w' => e = .returned (.tuple #[.int .i64 c2, .bool down]) ∧ w = w') ∧
      (∀ w, Calls Try.prog 24 #[.agg #[.int .i64 p, .int .i64 n], .agg #[.int .i64 q, .int .i64 m]] w fun e w' => e = .returned (.tuple #[.agg #[.int .i64 j0, .int .i64 j1], .bool (up && down)]) ∧ Below w.heap.size w w') ∧
      ((up && down) = true → j0 = c1 ∧ j1 = c2) ∧ ((up && down) = false → j0 = 0 ∧ j1 = 0) := by
  refine ⟨cap (p + q), cap (n + m), if fits (p + q) && fits (n + m) then p + q else 0, if fits (p + q) && fits (n + m) then n + m else 0, fits (p + q), fits (n + m), fun w => radd_any p q w hp hq, fun w => radd_any n m w hn hm, fun w => join_any p n q m w hp hn hq hm _ rfl, ?_, ?_⟩
  · intro h
    rw [if_pos h, if_pos h]
    rw [Bool.and_eq_true] at h
    simp only [fits, decide_eq_true_eq] at h
    exact ⟨(cap_yes h.1).symm, (cap_yes h.2).symm⟩
  · intro h
    rw [if_neg (by simp [h]), if_neg (by simp [h])]
    exact ⟨rfl, rfl⟩

theorem walk (p n q m x : Int) (w : World) (w0 : (Lit.int .i64 p).wf = true) (z0 : (Lit.int .i64 n).wf = true) (w1 : (Lit.int .i64 q).wf = true) (z1 : (Lit.int .i64 m).wf = true) (w2 : (Lit.int .i64 x).wf = true) :
    Calls Try.prog 5 #[.agg #[.int .i64 p, .int .i64 n], .agg #[.int .i64 q, .int .i64 m], .int .i64 x] w fun e w' => e = .returned (.bool true) ∧ Below w.heap.size w w' := by
  obtain ⟨v0, v1, u0, u1, ok, hN, hP, hu1, hu0, hG⟩ := grow_all p n x (fit_of w0) (fit_of z0) (fit_of w2)
  obtain ⟨c1, c2, j0, j1, up, down, hU, hD, hJ, hj1, hj0⟩ := join_all p n q m (fit_of w0) (fit_of z0) (fit_of w1) (fit_of z1)
  cases up
  · simp only [Bool.false_and] at hJ hj1 hj0
    by_cases hA : n ≤ x
    · by_cases hB : 0 ≤ p
      · exact way_011 p n q m x v0 v1 u0 u1 c1 c2 j0 j1 ok down w (by simpa using hA) (by simpa using hB) hN hP hu1 hu0 hG hU hD hJ hj1 (fun _ => hj0 trivial)
      · exact way_010 p n q m x v0 v1 u0 u1 c1 c2 j0 j1 ok down w (by simpa using hA) (by simpa using hB) hN hP hu1 hu0 hG hU hD hJ hj1 (fun _ => hj0 trivial)
    · by_cases hB : 0 ≤ p
      · exact way_001 p n q m x v0 v1 u0 u1 c1 c2 j0 j1 ok down w (by simpa using hA) (by simpa using hB) hN hP hu1 hu0 hG hU hD hJ hj1 (fun _ => hj0 trivial)
      · exact way_000 p n q m x v0 v1 u0 u1 c1 c2 j0 j1 ok down w (by simpa using hA) (by simpa using hB) hN hP hu1 hu0 hG hU hD hJ hj1 (fun _ => hj0 trivial)
  · simp only [Bool.true_and] at hJ hj1 hj0
    by_cases hA : n ≤ x
    · by_cases hB : 0 ≤ p
      · exact way_111 p n q m x v0 v1 u0 u1 c1 c2 j0 j1 ok down w (by simpa using hA) (by simpa using hB) hN hP hu1 hu0 hG hU hD hJ hj1 hj0
      · exact way_110 p n q m x v0 v1 u0 u1 c1 c2 j0 j1 ok down w (by simpa using hA) (by simpa using hB) hN hP hu1 hu0 hG hU hD hJ hj1 hj0
    · by_cases hB : 0 ≤ p
      · exact way_101 p n q m x v0 v1 u0 u1 c1 c2 j0 j1 ok down w (by simpa using hA) (by simpa using hB) hN hP hu1 hu0 hG hU hD hJ hj1 hj0
      · exact way_100 p n q m x v0 v1 u0 u1 c1 c2 j0 j1 ok down w (by simpa using hA) (by simpa using hB) hN hP hu1 hu0 hG hU hD hJ hj1 hj0

end Go.Proofs.Ytlmgmojicpdbeaa.exactTotals
