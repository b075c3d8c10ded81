/- Layer 3, plain: if the total of values fits, then so does the sum of any of them, and the total holds it. -/
import Derived.Test.YtlmgmojicpdbeaaEx6
namespace Go.Proofs.Ytlmgmojicpdbeaa.Ex
open Go.RowKit Base

/-- the numbers of l whose mark in t is set -/
def pick : List Int → List Bool → List Int
  | x :: l, b :: t => if b then x :: pick l t else pick l t
  | _, _ => []
theorem pick_nil (t : List Bool) : pick [] t = [] := rfl
theorem pick_snoc (l : List Int) (t : List Bool) (x : Int) : pick (l ++ [x]) t = if t.getD l.length false then pick l t ++ [x] else pick l t := by
  induction l generalizing t with
  | nil =>
    rcases t with _ | ⟨b, t⟩
    · rfl
    · cases b <;> cases t <;> rfl
  | cons y l ih =>
    rcases t with _ | ⟨b, t⟩
    · rfl
    · have := ih t
      simp only [List.cons_append, pick, List.length_cons, List.getD_cons_succ]
      rw [this]
      cases b <;> simp <;> split <;> rfl
theorem pick_le (l : List Int) (t : List Bool) : (pick l t).length ≤ l.length := by
  induction l generalizing t with
  | nil => simp [pick_nil]
  | cons y l ih =>
    rcases t with _ | ⟨b, t⟩
    · simp [pick]
    · have := ih t
      simp only [pick]
      split <;> simp <;> omega
theorem pick_mem (l : List Int) (t : List Bool) : ∀ x ∈ pick l t, x ∈ l := by
  induction l generalizing t with
  | nil => simp [pick_nil]
  | cons y l ih =>
    rcases t with _ | ⟨b, t⟩
    · simp [pick]
    · intro x hx
      simp only [pick] at hx
      split at hx
      · simp at hx
        rcases hx with rfl | hx
        · simp
        · exact List.mem_cons_of_mem _ (ih t x hx)
      · exact List.mem_cons_of_mem _ (ih t x hx)

def posSum : List Int → Int
  | [] => 0
  | x :: l => (if x < 0 then 0 else x) + posSum l
def negSum : List Int → Int
  | [] => 0
  | x :: l => (if x < 0 then x else 0) + negSum l
def allSum : List Int → Int
  | [] => 0
  | x :: l => x + allSum l
theorem pos_ge (l : List Int) : 0 ≤ posSum l := by
  induction l with
  | nil => simp [posSum]
  | cons x l ih => simp only [posSum]; split <;> omega
theorem neg_le (l : List Int) : negSum l ≤ 0 := by
  induction l with
  | nil => simp [negSum]
  | cons x l ih => simp only [negSum]; split <;> omega
theorem pos_neg (l : List Int) : posSum l + negSum l = allSum l := by
  induction l with
  | nil => rfl
  | cons x l ih => simp only [posSum, negSum, allSum]; split <;> omega
theorem of_val (p n : Int) (l : List Int) (P N : Int) (h : ofFrom p n l = some (P, N)) (hp : fit p) (hn : fit n) : P = p + posSum l ∧ N = n + negSum l ∧ fit P ∧ fit N := by
  induction l generalizing p n with
  | nil =>
    simp [ofFrom] at h
    simp only [posSum, negSum]
    obtain ⟨rfl, rfl⟩ := h
    exact ⟨by omega, by omega, hp, hn⟩
  | cons x l ih =>
    simp only [ofFrom] at h
    rcases hg : grow p n x with _ | ⟨p', n'⟩
    · rw [hg] at h; cases h
    · rw [hg] at h
      have hf := grow_fit hp hn hg
      have := ih p' n' h hf.1 hf.2
      unfold grow at hg
      simp only [posSum, negSum]
      obtain ⟨a1, a2, a3, a4⟩ := this
      by_cases hx : x < 0
      · rw [if_pos hx] at hg ⊢
        rw [if_pos hx]
        split at hg
        · injection hg with hg; injection hg with e1 e2; exact ⟨by omega, by omega, a3, a4⟩
        · cases hg
      · rw [if_neg hx] at hg ⊢
        rw [if_neg hx]
        split at hg
        · injection hg with hg; injection hg with e1 e2; exact ⟨by omega, by omega, a3, a4⟩
        · cases hg
theorem sumFrom_ok (lo hi : Int) (hlo : fit lo) (hhi : fit hi) (m : List Int) : ∀ s, lo ≤ s + negSum m → s + posSum m ≤ hi → sumFrom s m = some (s + allSum m) := by
  induction m with
  | nil => intro s _ _; simp [sumFrom, allSum]
  | cons x m ih =>
    intro s h1 h2
    have hp := pos_ge m
    have hn := neg_le m
    simp only [negSum, posSum] at h1 h2
    unfold fit at hlo hhi
    have hf : fit (s + x) := by unfold fit; split at h1 <;> split at h2 <;> omega
    simp only [sumFrom, hf, if_true, allSum]
    rw [ih (s + x) (by split at h1 <;> omega) (by split at h2 <;> omega)]
    congr 1
    omega
theorem pick_pos (l : List Int) (t : List Bool) : posSum (pick l t) ≤ posSum l := by
  induction l generalizing t with
  | nil => simp [pick_nil]
  | cons y l ih =>
    rcases t with _ | ⟨b, t⟩
    · have := pos_ge (y :: l); simpa [pick, posSum] using this
    · have h1 := ih t
      simp only [pick]
      split <;> simp only [posSum] <;> split <;> omega
theorem pick_neg (l : List Int) (t : List Bool) : negSum l ≤ negSum (pick l t) := by
  induction l generalizing t with
  | nil => simp [pick_nil]
  | cons y l ih =>
    rcases t with _ | ⟨b, t⟩
    · have := neg_le (y :: l); simpa [pick, negSum] using this
    · have h1 := ih t
      simp only [pick]
      split <;> simp only [negSum] <;> split <;> omega
theorem pos_app (a b : List Int) : posSum (a ++ b) = posSum a + posSum b := by
  induction a with
  | nil => simp [posSum]
  | cons x a ih => simp only [List.cons_append, posSum, ih]; omega
theorem neg_app (a b : List Int) : negSum (a ++ b) = negSum a + negSum b := by
  induction a with
  | nil => simp [negSum]
  | cons x a ih => simp only [List.cons_append, negSum, ih]; omega
theorem pos_rev (a : List Int) : posSum a.reverse = posSum a := by
  induction a with
  | nil => rfl
  | cons x a ih => rw [List.reverse_cons, pos_app, ih]; simp only [posSum]; omega
theorem neg_rev (a : List Int) : negSum a.reverse = negSum a := by
  induction a with
  | nil => rfl
  | cons x a ih => rw [List.reverse_cons, neg_app, ih]; simp only [negSum]; omega

/-- THE LAW: the sums of the picked numbers, forward and backward, fit, are one, and lie within the total. -/
theorem any_law (l : List Int) (t : List Bool) (P N : Int) (h : ofFrom 0 0 l = some (P, N)) :
    ∃ n, sumFrom 0 (pick l t) = some n ∧ sumFrom 0 (pick l t).reverse = some n ∧ N ≤ n ∧ n ≤ P ∧ 0 ≤ P ∧ N ≤ 0 := by
  obtain ⟨h1, h2, h3, h4⟩ := of_val 0 0 l P N h (by decide) (by decide)
  have a1 := pick_pos l t
  have a2 := pick_neg l t
  have b1 := pos_ge l
  have b2 := neg_le l
  have c1 := pos_ge (pick l t)
  have c2 := neg_le (pick l t)
  have d1 := pos_neg (pick l t)
  have d2 := pos_neg (pick l t).reverse
  rw [pos_rev, neg_rev] at d2
  have e1 := sumFrom_ok N P h4 h3 (pick l t) 0 (by omega) (by omega)
  have e2 := sumFrom_ok N P h4 h3 (pick l t).reverse 0 (by rw [neg_rev]; omega) (by rw [pos_rev]; omega)
  refine ⟨0 + allSum (pick l t), e1, ?_, ?_, ?_, ?_, ?_⟩
  · rw [e2]; congr 1; omega
  all_goals omega

end Go.Proofs.Ytlmgmojicpdbeaa.Ex
