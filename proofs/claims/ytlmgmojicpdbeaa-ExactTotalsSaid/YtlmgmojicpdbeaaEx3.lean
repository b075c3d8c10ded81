/- The contracts of package exact and of its reference (layer 3), third part: totals. -/
import Derived.Test.YtlmgmojicpdbeaaEx2
namespace Go.Proofs.Ytlmgmojicpdbeaa.Ex
open Go.RowKit Base

/-- a total with a value more; none: it does not fit -/
def grow (p n x : Int) : Option (Int × Int) := if x < 0 then (if fit (n + x) then some (p, n + x) else none) else if fit (p + x) then some (p + x, n) else none

set_option maxHeartbeats 400000 in
theorem grow_yes (p n x p' n' : Int) (w : World) (hp : fit p) (hn : fit n) (hx : fit x) (h : grow p n x = some (p', n')) :
    Calls Try.prog 23 #[.agg #[.int .i64 p, .int .i64 n], .int .i64 x] w fun e w' => e = .returned (.tuple #[.agg #[.int .i64 p', .int .i64 n'], .bool true]) ∧ Below w.heap.size w w' := by
  have Hp := Lib.hid hp
  have Hn := Lib.hid hn
  have Hx := Lib.hid hx
  clear hp hn hx
  unfold grow at h
  by_cases h0 : x < 0
  · rw [if_pos h0] at h
    by_cases hf : fit (n + x)
    · rw [if_pos hf] at h
      injection h with h
      injection h with e1 e2
      subst e1 e2
      have Hf := Lib.hid hf
      clear hf
      go_enter Try.func23, Try.ntmps23
      go_wp2_with fail
      refine (add_yes _ _ _ Hn.out Hx.out Hf.out).mono ?_
      rintro e w' ⟨rfl, rfl⟩
      go_wp2_with fail
      exact bodyPost_ret (v := .tuple #[.agg #[.int .i64 p, .int .i64 (n + x)], .bool true]) (by simp [results, Try.results23, go_sem]) rfl ⟨rfl, (by repeat (first | exact Below.refl _ _ | assumption | refine Below.drew ?_ | (refine Below.alloc ?_ (by simp <;> omega) _) | (refine Below.setCell ?_ (by simp <;> omega) _)))⟩
    · rw [if_neg hf] at h; cases h
  · rw [if_neg h0] at h
    by_cases hf : fit (p + x)
    · rw [if_pos hf] at h
      injection h with h
      injection h with e1 e2
      subst e1 e2
      have Hf := Lib.hid hf
      clear hf
      go_enter Try.func23, Try.ntmps23
      go_wp2_with fail
      refine (add_yes _ _ _ Hp.out Hx.out Hf.out).mono ?_
      rintro e w' ⟨rfl, rfl⟩
      go_wp2_with fail
      exact bodyPost_ret (v := .tuple #[.agg #[.int .i64 (p + x), .int .i64 n], .bool true]) (by simp [results, Try.results23, go_sem]) rfl ⟨rfl, (by repeat (first | exact Below.refl _ _ | assumption | refine Below.drew ?_ | (refine Below.alloc ?_ (by simp <;> omega) _) | (refine Below.setCell ?_ (by simp <;> omega) _)))⟩
    · rw [if_neg hf] at h; cases h

set_option maxHeartbeats 400000 in
theorem grow_no (p n x : Int) (w : World) (hp : fit p) (hn : fit n) (hx : fit x) (h : grow p n x = none) :
    Calls Try.prog 23 #[.agg #[.int .i64 p, .int .i64 n], .int .i64 x] w fun e w' => e = .returned (.tuple #[.agg #[.int .i64 0, .int .i64 0], .bool false]) ∧ Below w.heap.size w w' := by
  have Hp := Lib.hid hp
  have Hn := Lib.hid hn
  have Hx := Lib.hid hx
  clear hp hn hx
  unfold grow at h
  by_cases h0 : x < 0
  · rw [if_pos h0] at h
    by_cases hf : fit (n + x)
    · rw [if_pos hf] at h; cases h
    · have Hf := Lib.hid hf
      clear hf h
      go_enter Try.func23, Try.ntmps23
      go_wp2_with fail
      refine (add_no _ _ _ Hn.out Hx.out Hf.out).mono ?_
      rintro e w' ⟨rfl, rfl⟩
      go_wp2_with fail
      exact bodyPost_ret (v := .tuple #[.agg #[.int .i64 0, .int .i64 0], .bool false]) (by simp [results, Try.results23, go_sem]) rfl ⟨rfl, (by repeat (first | exact Below.refl _ _ | assumption | refine Below.drew ?_ | (refine Below.alloc ?_ (by simp <;> omega) _) | (refine Below.setCell ?_ (by simp <;> omega) _)))⟩
  · rw [if_neg h0] at h
    by_cases hf : fit (p + x)
    · rw [if_pos hf] at h; cases h
    · have Hf := Lib.hid hf
      clear hf h
      go_enter Try.func23, Try.ntmps23
      go_wp2_with fail
      refine (add_no _ _ _ Hp.out Hx.out Hf.out).mono ?_
      rintro e w' ⟨rfl, rfl⟩
      go_wp2_with fail
      exact bodyPost_ret (v := .tuple #[.agg #[.int .i64 0, .int .i64 0], .bool false]) (by simp [results, Try.results23, go_sem]) rfl ⟨rfl, (by repeat (first | exact Below.refl _ _ | assumption | refine Below.drew ?_ | (refine Below.alloc ?_ (by simp <;> omega) _) | (refine Below.setCell ?_ (by simp <;> omega) _)))⟩

set_option maxHeartbeats 400000 in
theorem join_any (p n q m : Int) (w : World) (hp : fit p) (hn : fit n) (hq : fit q) (hm : fit m) (f : Bool) (hf : f = (fits (p + q) && fits (n + m))) :
    Calls Try.prog 24 #[.agg #[.int .i64 p, .int .i64 n], .agg #[.int .i64 q, .int .i64 m]] w fun e w' => e = .returned (.tuple #[.agg #[.int .i64 (if f then p + q else 0), .int .i64 (if f then n + m else 0)], .bool f]) ∧ Below w.heap.size w w' := by
  subst hf
  have Hp := Lib.hid hp
  have Hn := Lib.hid hn
  have Hq := Lib.hid hq
  have Hm := Lib.hid hm
  clear hp hn hq hm
  by_cases h1 : fit (p + q) <;> by_cases h2 : fit (n + m)
  · rw [fits_yes h1, fits_yes h2]
    have H1 := Lib.hid h1
    have H2 := Lib.hid h2
    clear h1 h2
    go_enter Try.func24, Try.ntmps24
    go_wp2_with fail
    refine (add_yes _ _ _ Hp.out Hq.out H1.out).mono ?_
    rintro e w' ⟨rfl, rfl⟩
    go_wp2_with fail
    refine (add_yes _ _ _ Hn.out Hm.out H2.out).mono ?_
    rintro e w' ⟨rfl, rfl⟩
    go_wp2_with fail
    exact bodyPost_ret (v := .tuple #[.agg #[.int .i64 (p + q), .int .i64 (n + m)], .bool true]) (by simp [results, Try.results24, go_sem]) rfl ⟨by simp, (by repeat (first | exact Below.refl _ _ | assumption | refine Below.drew ?_ | (refine Below.alloc ?_ (by simp <;> omega) _) | (refine Below.setCell ?_ (by simp <;> omega) _)))⟩
  · rw [fits_yes h1, fits_no h2]
    have H1 := Lib.hid h1
    have H2 := Lib.hid h2
    clear h1 h2
    go_enter Try.func24, Try.ntmps24
    go_wp2_with fail
    refine (add_yes _ _ _ Hp.out Hq.out H1.out).mono ?_
    rintro e w' ⟨rfl, rfl⟩
    go_wp2_with fail
    refine (add_no _ _ _ Hn.out Hm.out H2.out).mono ?_
    rintro e w' ⟨rfl, rfl⟩
    go_wp2_with fail
    exact bodyPost_ret (v := .tuple #[.agg #[.int .i64 0, .int .i64 0], .bool false]) (by simp [results, Try.results24, go_sem]) rfl ⟨by simp, (by repeat (first | exact Below.refl _ _ | assumption | refine Below.drew ?_ | (refine Below.alloc ?_ (by simp <;> omega) _) | (refine Below.setCell ?_ (by simp <;> omega) _)))⟩
  · rw [fits_no h1, fits_yes h2]
    have H1 := Lib.hid h1
    have H2 := Lib.hid h2
    clear h1 h2
    go_enter Try.func24, Try.ntmps24
    go_wp2_with fail
    refine (add_no _ _ _ Hp.out Hq.out H1.out).mono ?_
    rintro e w' ⟨rfl, rfl⟩
    go_wp2_with fail
    refine (add_yes _ _ _ Hn.out Hm.out H2.out).mono ?_
    rintro e w' ⟨rfl, rfl⟩
    go_wp2_with fail
    exact bodyPost_ret (v := .tuple #[.agg #[.int .i64 0, .int .i64 0], .bool false]) (by simp [results, Try.results24, go_sem]) rfl ⟨by simp, (by repeat (first | exact Below.refl _ _ | assumption | refine Below.drew ?_ | (refine Below.alloc ?_ (by simp <;> omega) _) | (refine Below.setCell ?_ (by simp <;> omega) _)))⟩
  · rw [fits_no h1, fits_no h2]
    have H1 := Lib.hid h1
    have H2 := Lib.hid h2
    clear h1 h2
    go_enter Try.func24, Try.ntmps24
    go_wp2_with fail
    refine (add_no _ _ _ Hp.out Hq.out H1.out).mono ?_
    rintro e w' ⟨rfl, rfl⟩
    go_wp2_with fail
    refine (add_no _ _ _ Hn.out Hm.out H2.out).mono ?_
    rintro e w' ⟨rfl, rfl⟩
    go_wp2_with fail
    exact bodyPost_ret (v := .tuple #[.agg #[.int .i64 0, .int .i64 0], .bool false]) (by simp [results, Try.results24, go_sem]) rfl ⟨by simp, (by repeat (first | exact Below.refl _ _ | assumption | refine Below.drew ?_ | (refine Below.alloc ?_ (by simp <;> omega) _) | (refine Below.setCell ?_ (by simp <;> omega) _)))⟩

theorem holds_any (p n x : Int) (w : World) :
    Calls Try.prog 25 #[.agg #[.int .i64 p, .int .i64 n], .int .i64 x] w fun e w' => e = .returned (.bool (decide (n ≤ x) && decide (x ≤ p))) ∧ Below w.heap.size w w' := by
  by_cases h1 : n ≤ x
  · by_cases h2 : x ≤ p
    · go_enter Try.func25, Try.ntmps25
      go_wp2
      go_ret
      exact ⟨by simp <;> omega, (by repeat (first | exact Below.refl _ _ | assumption | refine Below.drew ?_ | (refine Below.alloc ?_ (by simp <;> omega) _) | (refine Below.setCell ?_ (by simp <;> omega) _)))⟩
    · go_enter Try.func25, Try.ntmps25
      go_wp2
      go_ret
      exact ⟨by simp <;> omega, (by repeat (first | exact Below.refl _ _ | assumption | refine Below.drew ?_ | (refine Below.alloc ?_ (by simp <;> omega) _) | (refine Below.setCell ?_ (by simp <;> omega) _)))⟩
  · go_enter Try.func25, Try.ntmps25
    go_wp2
    go_ret
    exact ⟨by simp <;> omega, (by repeat (first | exact Below.refl _ _ | assumption | refine Below.drew ?_ | (refine Below.alloc ?_ (by simp <;> omega) _) | (refine Below.setCell ?_ (by simp <;> omega) _)))⟩

theorem may_any (p n : Int) (w : World) :
    Calls Try.prog 26 #[.agg #[.int .i64 p, .int .i64 n]] w fun e w' => e = .returned (.bool (decide (0 ≤ p) && decide (n ≤ 0))) ∧ Below w.heap.size w w' := by
  by_cases h1 : 0 ≤ p
  · by_cases h2 : n ≤ 0
    · go_enter Try.func26, Try.ntmps26
      go_wp2
      go_ret
      exact ⟨by simp <;> omega, (by repeat (first | exact Below.refl _ _ | assumption | refine Below.drew ?_ | (refine Below.alloc ?_ (by simp <;> omega) _) | (refine Below.setCell ?_ (by simp <;> omega) _)))⟩
    · go_enter Try.func26, Try.ntmps26
      go_wp2
      go_ret
      exact ⟨by simp <;> omega, (by repeat (first | exact Below.refl _ _ | assumption | refine Below.drew ?_ | (refine Below.alloc ?_ (by simp <;> omega) _) | (refine Below.setCell ?_ (by simp <;> omega) _)))⟩
  · go_enter Try.func26, Try.ntmps26
    go_wp2
    go_ret
    exact ⟨by simp <;> omega, (by repeat (first | exact Below.refl _ _ | assumption | refine Below.drew ?_ | (refine Below.alloc ?_ (by simp <;> omega) _) | (refine Below.setCell ?_ (by simp <;> omega) _)))⟩

/-- the total of values; none: it does not fit -/
def ofFrom (p n : Int) : List Int → Option (Int × Int)
  | [] => some (p, n)
  | x :: l => match grow p n x with
    | some t => ofFrom t.1 t.2 l
    | none => none

theorem ofFrom_step {l : List Int} {k : Nat} (hk : k < l.length) (p n : Int) : ofFrom p n (l.drop k) = match grow p n l[k] with | some t => ofFrom t.1 t.2 (l.drop (k + 1)) | none => none := by
  rw [List.drop_eq_getElem_cons hk]
  rfl

theorem grow_fit {p n x p' n' : Int} (hp : fit p) (hn : fit n) (h : grow p n x = some (p', n')) : fit p' ∧ fit n' := by
  unfold grow at h
  split at h <;> split at h
  · injection h with h; injection h with e1 e2; subst e1 e2; exact ⟨hp, by assumption⟩
  · cases h
  · injection h with h; injection h with e1 e2; subst e1 e2; exact ⟨by assumption, hn⟩
  · cases h

end Go.Proofs.Ytlmgmojicpdbeaa.Ex
