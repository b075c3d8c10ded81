/- Parts of a proof: A region that draws its order: loads taken first under a condition on the world that need not hold any more behind ONE operation, for which all others are waited. A region that draws its order: a condition on the world held until ONE operation has come up; what waits for it, at however many steps, is taken first; so is what looks at no world. Steps through a region that draws its order, their side conditions met by themselves. Layer 17: a row's places, as the document has them; layer 20: a batch that may be. -/
import Derived.Test.YthmbgbmcdbdecaaGreatG01
import Derived.Test.YthmbgbmcdbdecaaGreatG04
import Derived.OrdersHeld
import Derived.Deep.RegionHeld3
import Derived.StillTail
namespace Go.Proofs.YthmbgbmcdbdecaaGreat.Base
open Go.RowKit
set_option linter.unusedVariables false
section
variable {P : Program} {ops : Array Oper} {Q : Exit → Act → World → Prop} {md : Region.Mode} {S : World → Prop} {t : Nat}
def wpAnyT (P : Program) (md : Region.Mode) (ops : Array Oper) (Q : Exit → Act → World → Prop) (S : World → Prop) (t : Nat) : Nat → Array Bool → Act → World → Prop
 | 0, listed, a, w => Region.ready md ops listed = [] ∧ Q .normal a w
 | fuel + 1, listed, a, w =>
  (Region.ready md ops listed = [] → Q .normal a w) ∧
  ∀ i ∈ Region.ready md ops listed, wpOp P ops Q i (fun a' w' => (i ≠ t → S w') ∧ wpAnyT P md ops Q S t fuel (listed.setIfInBounds i true) a' w') a w
theorem wpAny_of_T : ∀ (fuel : Nat) (listed : Array Bool) (a : Act) (w : World), wpAnyT P md ops Q S t fuel listed a w → wpAny P md ops Q fuel listed a w
 | 0, _, _, _, h => h
 | fuel + 1, _, _, _, h => ⟨h.1, fun i hi => wpOp_mono (fun a' w' h' => wpAny_of_T fuel _ a' w' h'.2) (h.2 i hi)⟩
theorem wpAnyT_first {i : Nat} {oi : Oper} {v : Value} (hi : ops[i]? = some oi) (hsel : ∀ (j : Nat) (o : Oper) cs b, ops[j]? = some o → o.op ≠ .select cs b)
 (hQ : ∀ c a w, Q (.panic c) (a.put oi.dst v) w → Q (.panic c) a w) (hwt : (decide (ops.size ≤ t) || Region.waitsFor md ops t i) = true) :
 ∀ (fuel : Nat) (listed : Array Bool) (a : Act) (w : World),
  (∀ j oj, ops[j]? = some oj → j ≠ i → listed.getD j true = false → (∀ e ∈ oj.after, Region.binds md e = true → e.on ≠ i) → oi.apart ops oj = true) →
  i ∈ Region.ready md ops listed → YieldsIf P ops S oi v a → S w →
  wpAnyT P md ops Q S t fuel (listed.setIfInBounds i true) (a.put oi.dst v) w → wpAnyT P md ops Q S t (fuel + 1) listed a w := by
 intro fuel
 induction fuel with
 | zero =>
  intro listed a w _ hr hy hS H
  refine ⟨fun h => (by rw [h] at hr; cases hr), fun j hj => ?_⟩
  by_cases hji : j = i
  ·subst hji; exact hy.wpOp hi hS ⟨fun _ => hS, H⟩
  ·have hm := ready_mono hj hji
   rw [H.1] at hm
   cases hm
 | succ fuel ih =>
  intro listed a w hfree hr hy hS H
  refine ⟨fun h => (by rw [h] at hr; cases hr), fun j hj => ?_⟩
  by_cases hji : j = i
  ·subst hji; exact hy.wpOp hi hS ⟨fun _ => hS, H⟩
  ·have h1 := H.2 j (ready_mono hj hji)
   obtain ⟨hjun, oj, hoj, hall⟩ := mem_ready.1 hj
   have hnot : ∀ e ∈ oj.after, Region.binds md e = true → e.on ≠ i := fun e he hb heq => by
    have g1 := hall e he hb
    have g0 := (mem_ready.1 hr).1
    rw [heq] at g1
    rcases Nat.lt_or_ge i listed.size with h' | h'
    ·simp [h'] at g0 g1; rw [g0] at g1; cases g1
    ·simp [Array.getElem?_eq_none h'] at g1
   have hjt : j ≠ t := by
    rintro rfl
    rcases (Bool.or_eq_true _ _).mp hwt with hl | hwt
    ·have hl := of_decide_eq_true hl
     have := (Array.getElem?_eq_some_iff.1 hoj).1
     omega
    ·obtain ⟨ot, hot, et, het, hbt, hont⟩ := Region.waitsFor_spec hwt
     rw [hot] at hoj
     injection hoj with hoj
     subst hoj
     exact hnot et het hbt hont
   have h2 := wpOp_putIf hoj (hfree j oj hoj hji hjun hnot) (fun cs b => hsel i oi cs b hi) (fun cs b => hsel j oj cs b hoj) hQ hy h1
   have hfree' : ∀ k ok, ops[k]? = some ok → k ≠ i → (listed.setIfInBounds j true).getD k true = false →
    (∀ e ∈ ok.after, Region.binds md e = true → e.on ≠ i) → oi.apart ops ok = true := fun k ok hk hki hun hno => by
    refine hfree k ok hk hki ?_ hno
    by_cases hjk : j = k
    ·subst hjk; exact hjun
    ·rw [getD_set_ne true hjk] at hun; exact hun
   refine wpOp_mono (fun a' w' h3 => ⟨fun _ => h3.2.1 hjt, ih (listed.setIfInBounds j true) a' w' hfree' (ready_mono hr (Ne.symm hji)) h3.1 (h3.2.1 hjt) ?_⟩) h2
   rw [Array.setIfInBounds_comm _ _ hji]
   exact h3.2.2
theorem wpAnyT_take {i : Nat} {oi : Oper} {v : Value} {fuel : Nat} {listed : Array Bool} {a : Act} {w : World} (hi : ops[i]? = some oi)
 (hs : Region.noSelect ops = true) (hwt : (decide (ops.size ≤ t) || Region.waitsFor md ops t i) = true) (hf : Region.free md ops listed i = true) (hr : (Region.ready md ops listed).contains i = true)
 (hQ : ∀ c a w, Q (.panic c) (a.put oi.dst v) w → Q (.panic c) a w) (hy : YieldsIf P ops S oi v a) (hS : S w)
 (h : wpAnyT P md ops Q S t fuel (listed.setIfInBounds i true) (a.put oi.dst v) w) : wpAnyT P md ops Q S t (fuel + 1) listed a w :=
 wpAnyT_first hi (Region.noSelect_spec hs) hQ hwt fuel listed a w (Region.free_spec hi hf) (by simpa using hr) hy hS h
theorem wpAnyT_one {i : Nat} {o : Oper} {fuel : Nat} {listed : Array Bool} {a : Act} {w : World} (hr : Region.ready md ops listed = [i]) (ho : ops[i]? = some o) (hit : i ≠ t)
 (h : ∀ K' : Act → World → Prop, Shut (∀ a w, S w → (S w → wpAnyT P md ops Q S t fuel (listed.setIfInBounds i true) a w) → K' a w) → if Region.wanted o (yielded ops a.tmps) = true then Oper.wp P o a w K' Q else K' (a.put o.dst undef) w) :
 wpAnyT P md ops Q S t (fuel + 1) listed a w := by
 refine ⟨fun h0 => (by rw [hr] at h0; cases h0), fun j hj => ?_⟩
 rw [hr] at hj
 obtain rfl : j = i := by simpa using hj
 exact wpOp_step ho (fun K' hK => h K' (fun a w hS hW => hK a w ⟨fun _ => hS, hW hS⟩))
theorem wpAnyT_last {o : Oper} {fuel : Nat} {listed : Array Bool} {a : Act} {w : World} (hr : Region.ready md ops listed = [t]) (ho : ops[t]? = some o) (hend : Region.ready md ops (listed.setIfInBounds t true) = [])
 (h : ∀ K' : Act → World → Prop, Shut (∀ a w, Q .normal a w → K' a w) → if Region.wanted o (yielded ops a.tmps) = true then Oper.wp P o a w K' Q else K' (a.put o.dst undef) w) :
 wpAnyT P md ops Q S t (fuel + 1) listed a w := by
 refine ⟨fun h0 => (by rw [hr] at h0; cases h0), fun j hj => ?_⟩
 rw [hr] at hj
 obtain rfl : j = t := by simpa using hj
 refine wpOp_step ho (fun K' hK => h K' (fun a w hq => hK a w ⟨fun hn => absurd rfl hn, ?_⟩))
 cases fuel with
 | zero => exact ⟨hend, hq⟩
 | succ fuel => exact ⟨fun _ => hq, by rw [hend]; simp⟩
theorem wpAnyT_done {listed : Array Bool} {a : Act} {w : World} (hr : Region.ready md ops listed = []) (h : Q .normal a w) :
 ∀ fuel, wpAnyT P md ops Q S t fuel listed a w
 | 0 => ⟨hr, h⟩
 | _ + 1 => ⟨fun _ => h, by rw [hr]; simp⟩
theorem wp_region_T {id : Nat} {a : Act} {w : World} (hm : P.follows .mixedOrders = true) (hS : S w.drew)
 (h : S w.drew → wpAnyT P .any ops Q S t ops.size (Array.replicate ops.size false) a w.drew) : (Code.region id ops true).wp P Q a w :=
 wp_region_any hm (wpAny_of_T _ _ _ _ (h hS))
def closedB (md : Region.Mode) (ops : Array Oper) (listed : Array Bool) : Bool :=
 (List.range ops.size).all fun j => !listed.getD j false || match ops[j]? with
   | some oj => oj.after.all fun e => !Region.binds md e || listed.getD e.on false
   | none => true
theorem closedB_spec {listed : Array Bool} (h : closedB md ops listed = true) {j : Nat} {oj : Oper} (hj : ops[j]? = some oj) (hl : listed.getD j false = true) : ∀ e ∈ oj.after, Region.binds md e = true → listed.getD e.on false = true := by
 intro e he hb
 unfold closedB at h
 have h1 := List.all_eq_true.1 h j (List.mem_range.2 (Array.getElem?_eq_some_iff.1 hj).1)
 rw [hl, hj] at h1
 simp only [Bool.not_true, Bool.false_or] at h1
 have h2 := Array.all_eq_true_iff_forall_mem.1 h1 e he
 rw [hb] at h2
 simpa using h2
theorem closed_set {listed : Array Bool} (h : ∀ (j : Nat) (oj : Oper), ops[j]? = some oj → listed.getD j false = true → ∀ e ∈ oj.after, Region.binds md e = true → listed.getD e.on false = true) {i : Nat} (hi : i ∈ Region.ready md ops listed) :
 ∀ (j : Nat) (oj : Oper), ops[j]? = some oj → (listed.setIfInBounds i true).getD j false = true → ∀ e ∈ oj.after, Region.binds md e = true → (listed.setIfInBounds i true).getD e.on false = true := by
 intro j oj hj hl e he hb
 by_cases e1 : i = j
 ·subst e1
  obtain ⟨_, o, ho, hall⟩ := mem_ready.1 hi
  rw [hj] at ho
  injection ho with ho
  subst ho
  exact getD_set_true (hall e he hb)
 ·rw [getD_set_ne false e1] at hl
  exact getD_set_true (h j oj hj hl e he hb)
def waits2 (md : Region.Mode) (ops : Array Oper) (t i : Nat) : Bool := Region.waitsFor md ops t i || (List.range ops.size).any fun j => Region.waitsFor md ops t j && Region.waitsFor md ops j i
theorem waits2_spec {i : Nat} (h : waits2 md ops t i = true) {listed : Array Bool} (hc : ∀ (j : Nat) (oj : Oper), ops[j]? = some oj → listed.getD j false = true → ∀ e ∈ oj.after, Region.binds md e = true → listed.getD e.on false = true) (ht : t ∈ Region.ready md ops listed) : listed.getD i false = true := by
 obtain ⟨_, ot, hot, hall⟩ := mem_ready.1 ht
 have one : ∀ j, Region.waitsFor md ops t j = true → listed.getD j false = true := fun j hj => by
  obtain ⟨o, ho, e, he, hb, hon⟩ := Region.waitsFor_spec hj
  rw [hot] at ho
  injection ho with ho
  subst ho
  rw [← hon]
  exact hall e he hb
 rcases (Bool.or_eq_true _ _).mp h with h | h
 ·exact one i h
 ·obtain ⟨j, _, hj⟩ := List.any_eq_true.1 h
  obtain ⟨h1, h2⟩ := (Bool.and_eq_true _ _).mp hj
  obtain ⟨o, ho, e, he, hb, hon⟩ := Region.waitsFor_spec h2
  rw [← hon]
  exact hc j o ho (one j h1) e he hb
theorem wpAnyT_first2 {i : Nat} {oi : Oper} {v : Value} (hi : ops[i]? = some oi) (hsel : ∀ (j : Nat) (o : Oper) cs b, ops[j]? = some o → o.op ≠ .select cs b)
 (hQ : ∀ c a w, Q (.panic c) (a.put oi.dst v) w → Q (.panic c) a w) (hwt : waits2 md ops t i = true) :
 ∀ (fuel : Nat) (listed : Array Bool) (a : Act) (w : World),
  (∀ (j : Nat) (oj : Oper), ops[j]? = some oj → listed.getD j false = true → ∀ e ∈ oj.after, Region.binds md e = true → listed.getD e.on false = true) →
  (∀ j oj, ops[j]? = some oj → j ≠ i → listed.getD j true = false → (∀ e ∈ oj.after, Region.binds md e = true → e.on ≠ i) → oi.apart ops oj = true) →
  i ∈ Region.ready md ops listed → YieldsIf P ops S oi v a → S w →
  wpAnyT P md ops Q S t fuel (listed.setIfInBounds i true) (a.put oi.dst v) w → wpAnyT P md ops Q S t (fuel + 1) listed a w := by
 intro fuel
 induction fuel with
 | zero =>
  intro listed a w _ _ hr hy hS H
  refine ⟨fun h => (by rw [h] at hr; cases hr), fun j hj => ?_⟩
  by_cases hji : j = i
  ·subst hji; exact hy.wpOp hi hS ⟨fun _ => hS, H⟩
  ·have hm := ready_mono hj hji
   rw [H.1] at hm
   cases hm
 | succ fuel ih =>
  intro listed a w hc hfree hr hy hS H
  refine ⟨fun h => (by rw [h] at hr; cases hr), fun j hj => ?_⟩
  by_cases hji : j = i
  ·subst hji; exact hy.wpOp hi hS ⟨fun _ => hS, H⟩
  ·have h1 := H.2 j (ready_mono hj hji)
   obtain ⟨hjun, oj, hoj, hall⟩ := mem_ready.1 hj
   have hun : listed.getD i false = false := by
    have g0 := (mem_ready.1 hr).1
    rcases Nat.lt_or_ge i listed.size with h' | h'
    ·simp [h'] at g0 ⊢; exact g0
    ·simp [Array.getElem?_eq_none h']
   have hnot : ∀ e ∈ oj.after, Region.binds md e = true → e.on ≠ i := fun e he hb heq => by
    have g1 := hall e he hb
    rw [heq, hun] at g1
    cases g1
   have hjt : j ≠ t := by
    rintro rfl
    have := waits2_spec hwt hc hj
    rw [hun] at this
    cases this
   have h2 := wpOp_putIf hoj (hfree j oj hoj hji hjun hnot) (fun cs b => hsel i oi cs b hi) (fun cs b => hsel j oj cs b hoj) hQ hy h1
   have hfree' : ∀ k ok, ops[k]? = some ok → k ≠ i → (listed.setIfInBounds j true).getD k true = false →
    (∀ e ∈ ok.after, Region.binds md e = true → e.on ≠ i) → oi.apart ops ok = true := fun k ok hk hki hun hno => by
    refine hfree k ok hk hki ?_ hno
    by_cases hjk : j = k
    ·subst hjk; exact hjun
    ·rw [getD_set_ne true hjk] at hun; exact hun
   refine wpOp_mono (fun a' w' h3 => ⟨fun _ => h3.2.1 hjt, ih (listed.setIfInBounds j true) a' w' (closed_set hc hj) hfree' (ready_mono hr (Ne.symm hji)) h3.1 (h3.2.1 hjt) ?_⟩) h2
   rw [Array.setIfInBounds_comm _ _ hji]
   exact h3.2.2
theorem wpAnyT_far {i : Nat} {oi : Oper} {v : Value} {fuel : Nat} {listed : Array Bool} {a : Act} {w : World} (hi : ops[i]? = some oi)
 (hs : Region.noSelect ops = true) (hwt : (closedB md ops listed && waits2 md ops t i) = true) (hf : Region.free md ops listed i = true) (hr : (Region.ready md ops listed).contains i = true)
 (hQ : ∀ c a w, Q (.panic c) (a.put oi.dst v) w → Q (.panic c) a w) (hy : YieldsIf P ops S oi v a) (hS : S w)
 (h : wpAnyT P md ops Q S t fuel (listed.setIfInBounds i true) (a.put oi.dst v) w) : wpAnyT P md ops Q S t (fuel + 1) listed a w :=
 wpAnyT_first2 hi (Region.noSelect_spec hs) hQ ((Bool.and_eq_true _ _).mp hwt).2 fuel listed a w (fun j oj hj hl => closedB_spec ((Bool.and_eq_true _ _).mp hwt).1 hj hl) (Region.free_spec hi hf) (by simpa using hr) hy hS h
end
section
variable {P : Program} {ops : Array Oper} {Q : Exit → Act → World → Prop} {md : Region.Mode} {S : World → Prop} {t : Nat}
def wpAnyU (P : Program) (md : Region.Mode) (ops : Array Oper) (Q : Exit → Act → World → Prop) (S : World → Prop) (t : Nat) : Nat → Array Bool → Act → World → Prop
 | 0, listed, a, w => Region.ready md ops listed = [] ∧ Q .normal a w
 | fuel + 1, listed, a, w =>
  (Region.ready md ops listed = [] → Q .normal a w) ∧
  ∀ i ∈ Region.ready md ops listed, wpOp P ops Q i (fun a' w' => ((listed.setIfInBounds i true).getD t false = false → S w') ∧ wpAnyU P md ops Q S t fuel (listed.setIfInBounds i true) a' w') a w
theorem wpAny_of_U : ∀ (fuel : Nat) (listed : Array Bool) (a : Act) (w : World), wpAnyU P md ops Q S t fuel listed a w → wpAny P md ops Q fuel listed a w
 | 0, _, _, _, h => h
 | fuel + 1, _, _, _, h => ⟨h.1, fun i hi => wpOp_mono (fun a' w' h' => wpAny_of_U fuel _ a' w' h'.2) (h.2 i hi)⟩
def reaches (md : Region.Mode) (ops : Array Oper) : Nat → Nat → Nat → Bool
 | 0, t, i => t == i
 | n + 1, t, i => t == i || (List.range ops.size).any fun j => Region.waitsFor md ops t j && reaches md ops n j i
def Closed (md : Region.Mode) (ops : Array Oper) (listed : Array Bool) : Prop := ∀ (j : Nat) (oj : Oper), ops[j]? = some oj → listed.getD j false = true → ∀ e ∈ oj.after, Region.binds md e = true → listed.getD e.on false = true
theorem waits_listed {listed : Array Bool} (hc : Closed md ops listed) {t j : Nat} (hw : Region.waitsFor md ops t j = true) (ht : listed.getD t false = true) : listed.getD j false = true := by
 obtain ⟨o, ho, e, he, hb, hon⟩ := Region.waitsFor_spec hw
 rw [← hon]
 exact hc t o ho ht e he hb
theorem reaches_listed {listed : Array Bool} (hc : Closed md ops listed) : ∀ (n t i : Nat), reaches md ops n t i = true → listed.getD t false = true → listed.getD i false = true
 | 0, t, i, h, ht => by
  have : t = i := by simpa [reaches] using h
  rw [← this]; exact ht
 | n + 1, t, i, h, ht => by
  unfold reaches at h
  rcases (Bool.or_eq_true _ _).mp h with h | h
  ·have : t = i := by simpa using h
   rw [← this]; exact ht
  ·obtain ⟨j, _, hj⟩ := List.any_eq_true.1 h
   obtain ⟨h1, h2⟩ := (Bool.and_eq_true _ _).mp hj
   exact reaches_listed hc n j i h2 (waits_listed hc h1 ht)
theorem ready_waits {listed : Array Bool} {t j : Nat} (hr : t ∈ Region.ready md ops listed) (hw : Region.waitsFor md ops t j = true) : listed.getD j false = true := by
 obtain ⟨_, ot, hot, hall⟩ := mem_ready.1 hr
 obtain ⟨o, ho, e, he, hb, hon⟩ := Region.waitsFor_spec hw
 rw [hot] at ho
 injection ho with ho
 subst ho
 rw [← hon]
 exact hall e he hb
theorem ready_reaches {listed : Array Bool} (hc : Closed md ops listed) {n t i : Nat} (h : reaches md ops n t i = true) (hti : t ≠ i) (hr : t ∈ Region.ready md ops listed) : listed.getD i false = true := by
 cases n with
 | zero => exact absurd (by simpa [reaches] using h) hti
 | succ n =>
  unfold reaches at h
  rcases (Bool.or_eq_true _ _).mp h with h | h
  ·exact absurd (by simpa using h) hti
  ·obtain ⟨j, _, hj⟩ := List.any_eq_true.1 h
   obtain ⟨h1, h2⟩ := (Bool.and_eq_true _ _).mp hj
   exact reaches_listed hc n j i h2 (ready_waits hr h1)
theorem un_of_ready {listed : Array Bool} {i : Nat} (hr : i ∈ Region.ready md ops listed) : listed.getD i false = false := by
 have g0 := (mem_ready.1 hr).1
 rcases Nat.lt_or_ge i listed.size with h' | h'
 ·simp [h'] at g0 ⊢; exact g0
 ·simp [Array.getElem?_eq_none h']
theorem wpAnyU_first {i n : Nat} {oi : Oper} {v : Value} (hi : ops[i]? = some oi) (hsel : ∀ (j : Nat) (o : Oper) cs b, ops[j]? = some o → o.op ≠ .select cs b)
 (hQ : ∀ c a w, Q (.panic c) (a.put oi.dst v) w → Q (.panic c) a w) (hwt : reaches md ops n t i = true) (hti : t ≠ i) :
 ∀ (fuel : Nat) (listed : Array Bool) (a : Act) (w : World),
  Closed md ops listed →
  (∀ j oj, ops[j]? = some oj → j ≠ i → listed.getD j true = false → (∀ e ∈ oj.after, Region.binds md e = true → e.on ≠ i) → oi.apart ops oj = true) →
  i ∈ Region.ready md ops listed → YieldsIf P ops S oi v a → S w →
  wpAnyU P md ops Q S t fuel (listed.setIfInBounds i true) (a.put oi.dst v) w → wpAnyU P md ops Q S t (fuel + 1) listed a w := by
 intro fuel
 induction fuel with
 | zero =>
  intro listed a w _ _ hr hy hS H
  refine ⟨fun h => (by rw [h] at hr; cases hr), fun j hj => ?_⟩
  by_cases hji : j = i
  ·subst hji; exact hy.wpOp hi hS ⟨fun _ => hS, H⟩
  ·have hm := ready_mono hj hji
   rw [H.1] at hm
   cases hm
 | succ fuel ih =>
  intro listed a w hc hfree hr hy hS H
  refine ⟨fun h => (by rw [h] at hr; cases hr), fun j hj => ?_⟩
  by_cases hji : j = i
  ·subst hji; exact hy.wpOp hi hS ⟨fun _ => hS, H⟩
  ·have h1 := H.2 j (ready_mono hj hji)
   obtain ⟨hjun, oj, hoj, hall⟩ := mem_ready.1 hj
   have hun := un_of_ready hr
   have hnot : ∀ e ∈ oj.after, Region.binds md e = true → e.on ≠ i := fun e he hb heq => by
    have g1 := hall e he hb
    rw [heq, hun] at g1
    cases g1
   have hjt : j ≠ t := by
    rintro rfl
    have := ready_reaches hc hwt hti hj
    rw [hun] at this
    cases this
   have htu : listed.getD t false = false := by
    rcases hb : listed.getD t false with _ | _
    ·rfl
    ·have := reaches_listed hc n t i hwt hb
     rw [hun] at this
     cases this
   have htu2 : ((listed.setIfInBounds i true).setIfInBounds j true).getD t false = false := by
    rw [getD_set_ne false hjt, getD_set_ne false (Ne.symm hti)]; exact htu
   have h2 := wpOp_putIf hoj (hfree j oj hoj hji hjun hnot) (fun cs b => hsel i oi cs b hi) (fun cs b => hsel j oj cs b hoj) hQ hy h1
   have hfree' : ∀ k ok, ops[k]? = some ok → k ≠ i → (listed.setIfInBounds j true).getD k true = false →
    (∀ e ∈ ok.after, Region.binds md e = true → e.on ≠ i) → oi.apart ops ok = true := fun k ok hk hki hun hno => by
    refine hfree k ok hk hki ?_ hno
    by_cases hjk : j = k
    ·subst hjk; exact hjun
    ·rw [getD_set_ne true hjk] at hun; exact hun
   refine wpOp_mono (fun a' w' h3 => ⟨fun _ => h3.2.1 htu2, ih (listed.setIfInBounds j true) a' w' (closed_set hc hj) hfree' (ready_mono hr (Ne.symm hji)) h3.1 (h3.2.1 htu2) ?_⟩) h2
   rw [Array.setIfInBounds_comm _ _ hji]
   exact h3.2.2
theorem wpAnyU_take {i n : Nat} {oi : Oper} {v : Value} {fuel : Nat} {listed : Array Bool} {a : Act} {w : World} (hi : ops[i]? = some oi)
 (hs : Region.noSelect ops = true) (hwt : (closedB md ops listed && reaches md ops n t i && t != i) = true) (hf : Region.free md ops listed i = true) (hr : (Region.ready md ops listed).contains i = true)
 (hQ : ∀ c a w, Q (.panic c) (a.put oi.dst v) w → Q (.panic c) a w) (hy : YieldsIf P ops S oi v a) (hS : S w)
 (h : wpAnyU P md ops Q S t fuel (listed.setIfInBounds i true) (a.put oi.dst v) w) : wpAnyU P md ops Q S t (fuel + 1) listed a w := by
 obtain ⟨h12, h3⟩ := (Bool.and_eq_true _ _).mp hwt
 obtain ⟨h1, h2⟩ := (Bool.and_eq_true _ _).mp h12
 exact wpAnyU_first hi (Region.noSelect_spec hs) hQ h2 (by simpa using h3) fuel listed a w (fun j oj hj hl => closedB_spec h1 hj hl) (Region.free_spec hi hf) (by simpa using hr) hy hS h
theorem wpAnyU_pure {i : Nat} {oi : Oper} {v : Value} (hi : ops[i]? = some oi) (hsel : ∀ (j : Nat) (o : Oper) cs b, ops[j]? = some o → o.op ≠ .select cs b)
 (hQ : ∀ c a w, Q (.panic c) (a.put oi.dst v) w → Q (.panic c) a w) (hti : t ≠ i) :
 ∀ (fuel : Nat) (listed : Array Bool) (a : Act) (w : World),
  (∀ j oj, ops[j]? = some oj → j ≠ i → listed.getD j true = false → (∀ e ∈ oj.after, Region.binds md e = true → e.on ≠ i) → oi.apart ops oj = true) →
  i ∈ Region.ready md ops listed → YieldsIf P ops (fun _ => True) oi v a → (listed.getD t false = false → S w) →
  wpAnyU P md ops Q S t fuel (listed.setIfInBounds i true) (a.put oi.dst v) w → wpAnyU P md ops Q S t (fuel + 1) listed a w := by
 intro fuel
 induction fuel with
 | zero =>
  intro listed a w _ hr hy hS H
  refine ⟨fun h => (by rw [h] at hr; cases hr), fun j hj => ?_⟩
  by_cases hji : j = i
  ·subst hji; exact hy.wpOp hi trivial ⟨fun h => hS (by rw [getD_set_ne false (Ne.symm hti)] at h; exact h), H⟩
  ·have hm := ready_mono hj hji
   rw [H.1] at hm
   cases hm
 | succ fuel ih =>
  intro listed a w hfree hr hy hS H
  refine ⟨fun h => (by rw [h] at hr; cases hr), fun j hj => ?_⟩
  by_cases hji : j = i
  ·subst hji; exact hy.wpOp hi trivial ⟨fun h => hS (by rw [getD_set_ne false (Ne.symm hti)] at h; exact h), H⟩
  ·have h1 := H.2 j (ready_mono hj hji)
   obtain ⟨hjun, oj, hoj, hall⟩ := mem_ready.1 hj
   have hun := un_of_ready hr
   have hnot : ∀ e ∈ oj.after, Region.binds md e = true → e.on ≠ i := fun e he hb heq => by
    have g1 := hall e he hb
    rw [heq, hun] at g1
    cases g1
   have h2 := wpOp_putIf hoj (hfree j oj hoj hji hjun hnot) (fun cs b => hsel i oi cs b hi) (fun cs b => hsel j oj cs b hoj) hQ hy h1
   have hfree' : ∀ k ok, ops[k]? = some ok → k ≠ i → (listed.setIfInBounds j true).getD k true = false →
    (∀ e ∈ ok.after, Region.binds md e = true → e.on ≠ i) → oi.apart ops ok = true := fun k ok hk hki hun hno => by
    refine hfree k ok hk hki ?_ hno
    by_cases hjk : j = k
    ·subst hjk; exact hjun
    ·rw [getD_set_ne true hjk] at hun; exact hun
   have hcm : ∀ x : Array Bool, ((listed.setIfInBounds i true).setIfInBounds j true).getD t false = ((listed.setIfInBounds j true)).getD t false := fun _ => by
    rw [Array.setIfInBounds_comm _ _ (Ne.symm hji), getD_set_ne false (Ne.symm hti)]
   refine wpOp_mono (fun a' w' h3 => ⟨fun h => h3.2.1 ((hcm listed).trans h), ih (listed.setIfInBounds j true) a' w' hfree' (ready_mono hr (Ne.symm hji)) h3.1 (fun h => h3.2.1 ((hcm listed).trans h)) ?_⟩) h2
   rw [Array.setIfInBounds_comm _ _ hji]
   exact h3.2.2
theorem wpAnyU_free {i : Nat} {oi : Oper} {v : Value} {fuel : Nat} {listed : Array Bool} {a : Act} {w : World} (hi : ops[i]? = some oi)
 (hs : Region.noSelect ops = true) (hti : (t != i) = true) (hf : Region.free md ops listed i = true) (hr : (Region.ready md ops listed).contains i = true)
 (hQ : ∀ c a w, Q (.panic c) (a.put oi.dst v) w → Q (.panic c) a w) (hy : YieldsIf P ops (fun _ => True) oi v a) (hS : S w)
 (h : wpAnyU P md ops Q S t fuel (listed.setIfInBounds i true) (a.put oi.dst v) w) : wpAnyU P md ops Q S t (fuel + 1) listed a w :=
 wpAnyU_pure hi (Region.noSelect_spec hs) hQ (by simpa using hti) fuel listed a w (Region.free_spec hi hf) (by simpa using hr) hy (fun _ => hS) h
theorem wpAnyU_one {i : Nat} {o : Oper} {fuel : Nat} {listed : Array Bool} {a : Act} {w : World} (hr : Region.ready md ops listed = [i]) (ho : ops[i]? = some o) (hit : i ≠ t)
 (h : ∀ K' : Act → World → Prop, Shut (∀ a w, S w → (S w → wpAnyU P md ops Q S t fuel (listed.setIfInBounds i true) a w) → K' a w) → if Region.wanted o (yielded ops a.tmps) = true then Oper.wp P o a w K' Q else K' (a.put o.dst undef) w) :
 wpAnyU P md ops Q S t (fuel + 1) listed a w := by
 refine ⟨fun h0 => (by rw [hr] at h0; cases h0), fun j hj => ?_⟩
 rw [hr] at hj
 obtain rfl : j = i := by simpa using hj
 exact wpOp_step ho (fun K' hK => h K' (fun a w hS hW => hK a w ⟨fun _ => hS, hW hS⟩))
theorem wpAnyU_last {o : Oper} {fuel : Nat} {listed : Array Bool} {a : Act} {w : World} (hr : Region.ready md ops listed = [t]) (ho : ops[t]? = some o) (hend : Region.ready md ops (listed.setIfInBounds t true) = [] ∧ (listed.setIfInBounds t true).getD t false = true)
 (h : ∀ K' : Act → World → Prop, Shut (∀ a w, Q .normal a w → K' a w) → if Region.wanted o (yielded ops a.tmps) = true then Oper.wp P o a w K' Q else K' (a.put o.dst undef) w) :
 wpAnyU P md ops Q S t (fuel + 1) listed a w := by
 refine ⟨fun h0 => (by rw [hr] at h0; cases h0), fun j hj => ?_⟩
 rw [hr] at hj
 obtain rfl : j = t := by simpa using hj
 refine wpOp_step ho (fun K' hK => h K' (fun a w hq => hK a w ⟨fun hn => (by rw [hend.2] at hn; cases hn), ?_⟩))
 cases fuel with
 | zero => exact ⟨hend.1, hq⟩
 | succ fuel => exact ⟨fun _ => hq, by rw [hend.1]; simp⟩
theorem wpAnyU_mid {o : Oper} {fuel : Nat} {listed : Array Bool} {a : Act} {w : World} (hr : Region.ready md ops listed = [t]) (ho : ops[t]? = some o) (hend : (listed.setIfInBounds t true).getD t false = true)
 (h : ∀ K' : Act → World → Prop, Shut (∀ a w, wpAnyU P md ops Q S t fuel (listed.setIfInBounds t true) a w → K' a w) → if Region.wanted o (yielded ops a.tmps) = true then Oper.wp P o a w K' Q else K' (a.put o.dst undef) w) :
 wpAnyU P md ops Q S t (fuel + 1) listed a w := by
 refine ⟨fun h0 => (by rw [hr] at h0; cases h0), fun j hj => ?_⟩
 rw [hr] at hj
 obtain rfl : j = t := by simpa using hj
 exact wpOp_step ho (fun K' hK => h K' (fun a w hq => hK a w ⟨fun hn => (by rw [hend] at hn; cases hn), hq⟩))
theorem wpAnyU_rest {i : Nat} {oi : Oper} {v : Value} {fuel : Nat} {listed : Array Bool} {a : Act} {w : World} (hi : ops[i]? = some oi)
 (hs : Region.noSelect ops = true) (hti : (t != i && listed.getD t false) = true) (hf : Region.free md ops listed i = true) (hr : (Region.ready md ops listed).contains i = true)
 (hQ : ∀ c a w, Q (.panic c) (a.put oi.dst v) w → Q (.panic c) a w) (hy : YieldsIf P ops (fun _ => True) oi v a)
 (h : wpAnyU P md ops Q S t fuel (listed.setIfInBounds i true) (a.put oi.dst v) w) : wpAnyU P md ops Q S t (fuel + 1) listed a w := by
 obtain ⟨h1, h2⟩ := (Bool.and_eq_true _ _).mp hti
 exact wpAnyU_pure hi (Region.noSelect_spec hs) hQ (by simpa using h1) fuel listed a w (Region.free_spec hi hf) (by simpa using hr) hy (fun hh => by rw [h2] at hh; cases hh) h
theorem wpAnyU_done {listed : Array Bool} {a : Act} {w : World} (hr : Region.ready md ops listed = []) (h : Q .normal a w) :
 ∀ fuel, wpAnyU P md ops Q S t fuel listed a w
 | 0 => ⟨hr, h⟩
 | _ + 1 => ⟨fun _ => h, by rw [hr]; simp⟩
theorem wp_region_U {id : Nat} {a : Act} {w : World} (hm : P.follows .mixedOrders = true) (hS : S w.drew)
 (h : S w.drew → wpAnyU P .any ops Q S t ops.size (Array.replicate ops.size false) a w.drew) : (Code.region id ops true).wp P Q a w :=
 wp_region_any hm (wpAny_of_U _ _ _ _ (h hS))
end
section
variable {P : Program} {ops : Array Oper} {Q : Exit → Act → World → Prop} {md : Region.Mode} {S : World → Prop} {t : Nat}
theorem tk (i : Nat) {oi : Oper} {v : Value} {fuel : Nat} {listed l' : Array Bool} {a a' : Act} {w : World} (hS : S w) (h : wpAnyT P md ops Q S t fuel l' a' w)
 (hi : ops[i]? = some oi := by (simp only [List.getElem?_toArray, List.getElem?_cons_succ, List.getElem?_cons_zero]; exact rfl))
 (hs : Region.noSelect ops = true := by kernel_rfl) (hwt : (decide (ops.size ≤ t) || Region.waitsFor md ops t i) = true := by kernel_rfl) (hf : Region.free md ops listed i = true := by kernel_rfl) (hr : (Region.ready md ops listed).contains i = true := by kernel_rfl)
 (hQ : ∀ c a w, Q (.panic c) (a.put oi.dst v) w → Q (.panic c) a w := by exact fun _ _ _ h => h)
 (hy : YieldsIf P ops S oi v a := by (refine Or.inl ⟨by rfl, ?_⟩; intro w hSw; (try dsimp only at hSw); go_simp; try exact rfl))
 (hl : listed.setIfInBounds i true = l' := by first | (simp only [List.setIfInBounds_toArray, List.set_cons_zero, List.set_cons_succ]; exact rfl) | exact rfl)
 (ha : a.put oi.dst v = a' := by first | (simp only [Act.put, List.setIfInBounds_toArray, List.set_cons_zero, List.set_cons_succ]; exact rfl) | exact rfl) : wpAnyT P md ops Q S t (fuel + 1) listed a w := by
 subst hl ha
 exact wpAnyT_take hi hs hwt hf hr hQ hy hS h
theorem sk (i : Nat) {oi : Oper} {fuel : Nat} {listed l' : Array Bool} {a a' : Act} {w : World} (hS : S w) (h : wpAnyT P md ops Q S t fuel l' a' w)
 (hi : ops[i]? = some oi := by (simp only [List.getElem?_toArray, List.getElem?_cons_succ, List.getElem?_cons_zero]; exact rfl))
 (hs : Region.noSelect ops = true := by kernel_rfl) (hwt : (decide (ops.size ≤ t) || Region.waitsFor md ops t i) = true := by kernel_rfl) (hf : Region.free md ops listed i = true := by kernel_rfl) (hr : (Region.ready md ops listed).contains i = true := by kernel_rfl)
 (hQ : ∀ c a w, Q (.panic c) (a.put oi.dst undef) w → Q (.panic c) a w := by exact fun _ _ _ h => h)
 (hy : YieldsIf P ops S oi undef a := by exact Or.inr ⟨by rfl, rfl⟩)
 (hl : listed.setIfInBounds i true = l' := by first | (simp only [List.setIfInBounds_toArray, List.set_cons_zero, List.set_cons_succ]; exact rfl) | exact rfl)
 (ha : a.put oi.dst undef = a' := by first | (simp only [Act.put, List.setIfInBounds_toArray, List.set_cons_zero, List.set_cons_succ]; exact rfl) | exact rfl) : wpAnyT P md ops Q S t (fuel + 1) listed a w := by
 subst hl ha
 exact wpAnyT_take hi hs hwt hf hr hQ hy hS h
theorem tu (i : Nat) {oi : Oper} {v : Value} {fuel : Nat} {listed l' : Array Bool} {a a' : Act} {w : World} (hS : S w) (h : wpAnyU P md ops Q S t fuel l' a' w)
 (hi : ops[i]? = some oi := by (simp only [List.getElem?_toArray, List.getElem?_cons_succ, List.getElem?_cons_zero]; exact rfl))
 (hs : Region.noSelect ops = true := by kernel_rfl) (hwt : (closedB md ops listed && reaches md ops 12 t i && t != i) = true := by kernel_rfl) (hf : Region.free md ops listed i = true := by kernel_rfl) (hr : (Region.ready md ops listed).contains i = true := by kernel_rfl)
 (hQ : ∀ c a w, Q (.panic c) (a.put oi.dst v) w → Q (.panic c) a w := by exact fun _ _ _ h => h)
 (hy : YieldsIf P ops S oi v a := by (refine Or.inl ⟨by rfl, ?_⟩; intro w hSw; (try dsimp only at hSw); go_simp; try exact rfl))
 (hl : listed.setIfInBounds i true = l' := by first | (simp only [List.setIfInBounds_toArray, List.set_cons_zero, List.set_cons_succ]; exact rfl) | exact rfl)
 (ha : a.put oi.dst v = a' := by first | (simp only [Act.put, List.setIfInBounds_toArray, List.set_cons_zero, List.set_cons_succ]; exact rfl) | exact rfl) : wpAnyU P md ops Q S t (fuel + 1) listed a w := by
 subst hl ha
 exact wpAnyU_take hi hs hwt hf hr hQ hy hS h
end
end Go.Proofs.YthmbgbmcdbdecaaGreat.Base
namespace Go.Proofs.YthmbgbmcdbdecaaGreat.Tc
open Go.RowKit Base
set_option linter.unusedVariables false
set_option linter.unusedSimpArgs false
theorem info_int : (Tryz.prog.info? 3).map (fun i => (i.zero, i.size, i.bytes)) = some (some (.int .i64 0), 1, 8) := by kernel_rfl
def natV (l : List Nat) : List Value := l.map fun (k : Nat) => .int .i64 (k : Int)
theorem natV_snoc (l : List Nat) (k : Nat) : natV (l ++ [k]) = natV l ++ [.int .i64 (k : Int)] := by unfold natV; simp
theorem natV_len (l : List Nat) : (natV l).length = l.length := by unfold natV; simp
theorem own_base {w : World} {base base' : Nat} {e : TypeId} {size : Nat} {v : Value} {n : Nat} {xs : List Value} (h : w.ownsRow base e size v n xs) (hb : base' ≤ base) : w.ownsRow base' e size v n xs := by
 obtain ⟨h1, h2⟩ := h
 refine ⟨h1, ?_⟩
 rcases h2 with h2 | ⟨g, cap, cur, r1, r2, r3⟩
 ·exact .inl h2
 ·exact .inr ⟨g, cap, cur, r1, by omega, r3⟩
theorem own_nil (w : World) (base : Nat) (e : TypeId) (size : Nat) : w.ownsRow base e size (.slice none 0 0) 0 [] := ⟨by simp, .inl ⟨rfl, rfl⟩⟩
theorem own_below {w w' : World} {base : Nat} {e : TypeId} {size : Nat} {v : Value} {n : Nat} {xs : List Value} (h : w.ownsRow base e size v n xs) (hb : Below w.heap.size w w') : w'.ownsRow base e size v n xs := by
 obtain ⟨h1, h2⟩ := h
 refine ⟨h1, ?_⟩
 rcases h2 with h2 | ⟨g, cap, cur, r1, r2, r3, r4⟩
 ·exact .inl h2
 ·have hlt : g < w.heap.size := by
   rcases Nat.lt_or_ge g w.heap.size with hh | hh
   ·exact hh
   ·rw [Array.getElem?_eq_none hh] at r3; cases r3
  exact .inr ⟨g, cap, cur, r1, r2, (hb.block g hlt).trans r3, r4⟩
def RowRet (s : Sch) (r : Rw) (w : World) (e : Ending) (w' : World) : Prop := ∃ (v : Value) (n : Int), e = .returned (.tuple #[v, .int .i64 n]) ∧ (n = 0 → ∃ keys, RowKeys s r keys ∧ w'.ownsRow w.heap.size 3 1 v keys.length (natV keys)) ∧ ((∃ keys, RowKeys s r keys) → n = 0) ∧ Below w.heap.size w w'
abbrev rwC (r : Rw) : Array Value := #[.slice r.A r.terms.length r.c, .slice r.Av r.vals.length r.cv]
def KeysTo (s : Sch) (r : Rw) (k : Nat) (keys : List Nat) : Prop := keys.length = k ∧ ∀ (i : Nat) (d : Dim) (t : ByteArray) (q : Nat), i < k → s.dims[i]? = some d → r.terms[i]? = some t → keys[i]? = some q → (fin d)[q]? = some t
theorem KeysTo.next {s : Sch} {r : Rw} {k : Nat} {keys : List Nat} (h : KeysTo s r k keys) {q : Nat} {d : Dim} {t : ByteArray} (hd : s.dims[k]? = some d) (ht : r.terms[k]? = some t) (hq : (fin d)[q]? = some t) : KeysTo s r (k + 1) (keys ++ [q]) := by
 refine ⟨by rw [List.length_append, h.1]; rfl, fun i d' t' q' hi hd' ht' hq' => ?_⟩
 by_cases e : i = k
 ·subst e
  rw [hd] at hd'
  rw [ht] at ht'
  injection hd' with hd'
  injection ht' with ht'
  rw [List.getElem?_append_right (by rw [h.1]; exact Nat.le_refl _), h.1] at hq'
  simp at hq'
  rw [← hd', ← ht', ← hq']
  exact hq
 ·rw [List.getElem?_append_left (by rw [h.1]; omega)] at hq'
  exact h.2 i d' t' q' (by omega) hd' ht' hq'
set_option maxRecDepth 100000 in
set_option maxHeartbeats 2000000 in
theorem r17row_any (s : Sch) (r : Rw) (w : World) (h : SchAt w w.heap.size s) (hr : RwAt w w.heap.size r) (ho : SchOk s) : Calls Tryz.prog 23 #[.agg (schC s), .agg (rwC r)] w (RowRet s r w) := by
 have HNo := kp (show ∀ (n : Int) w', n ≠ 0 → (∀ keys, ¬ RowKeys s r keys) → Below w.heap.size w w' → RowRet s r w (.returned (.tuple #[.slice none 0 0, .int .i64 n])) w' from fun n w' hn hk hb => ⟨_, n, rfl, fun e => absurd e hn, fun ⟨keys, h⟩ => absurd h (hk keys), hb⟩)
 have HYes := kp (show ∀ v keys w', RowKeys s r keys → w'.ownsRow w.heap.size 3 1 v keys.length (natV keys) → Below w.heap.size w w' → RowRet s r w (.returned (.tuple #[v, .int .i64 0])) w' from fun v keys w' h1 h2 hb => ⟨v, 0, rfl, fun _ => ⟨keys, h1, h2⟩, fun _ => rfl, hb⟩)
 have hb1 := (Below.refl w.heap.size w).alloc (Nat.le_refl _) (.cells (schC s) 25)
 have hb0 := hb1.alloc hb1.size (.cells (rwC r) 73)
 have Hb0 := kp hb0
 have HB2 := kp ((Box.new w 25 (schC s)).alloc (.cells (rwC r) 73))
 have HB3 := kp (Box.lay (w := w.alloc (.cells (schC s) 25)) (g := w.heap.size + 1) (t := 73) (cs := rwC r) (by simp))
 have H0 := kp ((h.below hb0).more hb0.size)
 have HR0 := kp ((hr.below hb0).more hb0.size)
 have Hsz := kp (show ((w.alloc (.cells (schC s) 25)).alloc (.cells (rwC r) 73)).heap.size = w.heap.size + 2 by simp)
 have hn := h.n
 have hnm := h.nm
 have hnt := hr.n
 have hnv := hr.nv
 have Ho := kp ho
 have HAt := kp rat_any
 obtain ⟨i0, ti0, tz0, tz1, tz2⟩ := info_parts info_int
 unfold maxLen at hn hnm hnt hnv
 clear h hr ho hb0 hb1
 generalize hQ : RowRet s r w = Q at *
 clear hQ
 unfold schC rwC at *
 go_enter Tryz.func23, Tryz.ntmps23
 by_cases hne1 : r.terms.length = s.dims.length
 ·by_cases hne2 : r.vals.length = s.meas.length
  ·have Hne := kp (And.intro hne1 hne2)
   have e1 : ((r.terms.length : Int) != (s.dims.length : Int)) = false := by simp; omega
   have e2 : ((r.vals.length : Int) != (s.meas.length : Int)) = false := by simp; omega
   have hle1 : r.terms.length ≤ s.dims.length := by omega
   clear hne1 hne2
   go_wp2_with fail
   clear e1 e2
   generalize (w.alloc (.cells #[.slice s.A s.dims.length s.c, .slice s.Am s.meas.length s.cm] 25)).alloc (.cells #[.slice r.A r.terms.length r.c, .slice r.Av r.vals.length r.cv] 73) = W0 at *
   go_loopw [6, 28] (fun v6 v28 wr => ∃ (k : Nat) (keys : List Nat) (A : Option Addr) (c : Nat), k ≤ r.terms.length ∧ v28 = .int .i64 k ∧ v6 = .slice A k c ∧ KeysTo s r k keys ∧ wr.ownsRow W0.heap.size 3 1 (.slice A k c) k (natV keys) ∧ Below W0.heap.size W0 wr) (fun _ v28 _ => r.terms.length - (intOf v28).toNat)
   case atStart => exact ⟨0, [], none, 0, Nat.zero_le _, rfl, rfl, ⟨rfl, fun i _ _ _ h => by omega⟩, own_nil _ _ _ _, Below.refl _ _⟩
   case round =>
    obtain ⟨k, keys, A, c, hk, rfl, rfl, hto, hown, hbe⟩ := hrel
    have Hto := kp hto
    have Hown := kp hown
    have Hbe := kp hbe
    obtain ⟨b0, b1, _, _⟩ := (HB2.out.under hbe).two
    obtain ⟨q0, q1, _, _⟩ := (HB3.out.under hbe).two
    clear hto hown hbe
    by_cases hlt : k < r.terms.length
    ·have hkd : k < s.dims.length := by omega
     have hs := (H0.out.below Hbe.out).more Hbe.out.size
     have hrr := (HR0.out.below Hbe.out).more Hbe.out.size
     obtain ⟨b, off, hA, hb, c0, c1⟩ := hs.dim k hkd
     obtain ⟨bt, ot, hAt, hbt, t0⟩ := Row.at_ hrr.terms (k := k) (by rw [List.length_map]; exact hlt)
     rw [List.getElem_map] at t0
     rw [hA] at b0
     rw [hAt] at q0
     have hdim := Ho.out.dims k hkd
     obtain ⟨_, tr, htr, hfin⟩ := hdim.fin_ok
     have hda := hs.dims _ (List.getElem_mem hkd)
     have h0t : 0 < (s.dims[k]'hkd).tiers.length := hdim.n1
     obtain ⟨bd, od, hAd, hbd, d0, d1, d2⟩ := hda.tier 0 h0t
     have hte : (s.dims[k]'hkd).tiers[0]'h0t = tr := by rw [List.getElem?_eq_getElem h0t] at htr; injection htr
     rw [hte] at d0 d1 d2
     have hta := hda.tiers tr (List.mem_of_getElem? htr)
     rw [hAd] at c1
     rw [Nat.zero_mul, Nat.add_zero] at d1
     have HAk := kp (show ∀ W, Below wr.heap.size wr W → Calls Tryz.prog 55 #[.slice tr.At tr.terms.length tr.ct, .string (r.terms[k]'hlt)] W (RetI (AtP tr.terms (r.terms[k]'hlt)) W) from fun W hW => HAt.out tr.At tr.terms tr.ct (r.terms[k]'hlt) W hta.nt ((hta.terms.below hW).more hW.size))
     have Hnx := kp (show ∀ i : Nat, tr.terms[i]? = some (r.terms[k]'hlt) → KeysTo s r (k + 1) (keys ++ [i]) from fun i hi => Hto.out.next (List.getElem?_eq_getElem hkd) (List.getElem?_eq_getElem hlt) (by rw [hfin]; exact hi))
     have Hnk := kp (show (∀ i : Nat, tr.terms[i]? ≠ some (r.terms[k]'hlt)) → ∀ keys, ¬ RowKeys s r keys from fun h keys hkk => by
      have hkl : k < keys.length := by rw [hkk.n]; exact hkd
      have := hkk.at_ k _ _ _ (List.getElem?_eq_getElem hkd) (List.getElem?_eq_getElem hlt) (List.getElem?_eq_getElem hkl)
      rw [hfin] at this
      exact h _ this)
     have h2 := hdim.n2
     have e3 : (((s.dims[k]'hkd).tiers.length : Int) == 0) = false := by rw [beq_eq_false_iff_ne]; omega
     have hi0 : (0 : Int) ≤ (k : Int) := by omega
     have hi1 : (k : Int) < (s.dims.length : Int) := by omega
     have hi2 : (k : Int) < (r.terms.length : Int) := by omega
     have hi3 : (0 : Int) < ((s.dims[k]'hkd).tiers.length : Int) := by omega
     clear hs hrr hA hAt hdim htr hfin hda hAd hte hta d0 d2 c0 b1 q1
     generalize (s.dims[k]'hkd).tiers.length = nd at *
     generalize (s.dims[k]'hkd).c = cd at *
     generalize (r.terms[k]'hlt) = x at *
     go_wp2_with fail
     refine wp_region_noPanic ?_
     refine wp_region_T (t := 99) (S := (fun w' => w'.cell? ⟨w.heap.size, 0, none⟩ = some (.slice (some ⟨b, off, none⟩) s.dims.length s.c) ∧ w'.cell? ⟨w.heap.size + 1, 0, none⟩ = some (.slice (some ⟨bt, ot, none⟩) r.terms.length r.c) ∧ w'.cell? ⟨b, off + k * 2 + 1, none⟩ = some (.slice (some ⟨bd, od, none⟩) nd cd) ∧ w'.cell? ⟨bd, od + 1, none⟩ = some (.slice tr.At tr.terms.length tr.ct) ∧ w'.cell? ⟨bt, ot + k, none⟩ = some (.string x))) (by kernel_rfl) ⟨b0, q0, c1, d1, t0⟩ (fun hHeld => ?_)
     refine tk 0 hHeld ?_
     refine tk 1 hHeld ?_
     refine tk 2 hHeld ?_
     refine tk 3 hHeld ?_
     refine tk 4 hHeld ?_
     refine tk 5 hHeld ?_
     refine tk 6 hHeld ?_
     refine tk 7 hHeld ?_
     refine tk 8 hHeld ?_
     refine tk 9 hHeld ?_
     refine tk 10 hHeld ?_
     refine tk 11 hHeld ?_
     refine tk 12 hHeld ?_
     refine tk 13 hHeld ?_
     refine wpAnyT_one (i := 14) (o := ?op14) (by kernel_rfl) ?ap14 (by decide) (fun K hK => ?bp14)
     case ap14 => (simp only [List.getElem?_toArray, List.getElem?_cons_succ, List.getElem?_cons_zero]; exact rfl)
     go_simp
     refine (HAk.out _ (Below.refl _ _).drew).mono ?_
     rintro e w1 ⟨n, rfl, hn1, hb1⟩
     have Hb1 := kp (show Below wr.heap.size wr w1 from (Below.refl _ _).drew.trans hb1)
     have Hn1 := kp hn1
     clear hb1 hn1
     refine hK.out _ _ ?_ (fun hHeld2 => ?_)
     ·exact ⟨cell_keep Hb1.out b0, cell_keep Hb1.out q0, cell_keep Hb1.out c1, cell_keep Hb1.out d1, cell_keep Hb1.out t0⟩
     clear hK K hHeld
     have hHeld := hHeld2
     clear hHeld2
     try simp only [Act.put, List.setIfInBounds_toArray, List.set_cons_zero, List.set_cons_succ]
     refine tk 15 hHeld ?_
     refine wpAnyT_done (by kernel_rfl) ?_ _
     try clear hHeld
     refine NoPanic.normal ?_
     have Hb2 := kp (Hbe.out.trans (Hb1.out.mono Hbe.out.size))
     have Hown1 := kp (own_below Hown.out Hb1.out)
     clear b0 q0 c1 d1 t0 HAk
     by_cases hneg : n < 0
     ·have hneg' : n < 0 := hneg
      have Hnk2 := kp (Hnk.out (Hn1.out.2 hneg))
      go_wp2_with fail
      exact HNo.out _ _ (by decide) Hnk2.out (Hb0.out.trans (Hb2.out.mono Hb0.out.size))
     ·obtain ⟨i, hi, hti⟩ := Hn1.out.1 (by omega)
      subst hi
      have Hk2 := kp (Hnx.out i hti)
      have hneg' : ¬ (i : Int) < 0 := by omega
      have Hs2 := kp Hb2.out.size
      have hk1 : k < 1048576 * 64 := by have := Ho.out.n2; omega
      clear hneg hti
      go_wp2_with (at_builtin; refine wpList_append1 rfl (.tmp 56) (.tmp 58) 41 rfl W0.heap.size 3 i0 (.int .i64 0) 8 Tryz.underlying41 ti0 tz0 tz1 tz2 rfl w1 (.int .i64 (i : Int)) rfl (.slice A k c) k (natV keys) rfl Hown1.out rfl hk1 (by decide) Hs2.out ?_; intro v5 w5 hown5 happ5; obtain ⟨A5, c5, h5⟩ := own_form hown5; subst h5; have Hown5 := kp hown5; have Hb5 := kp (happ5.below Hb2.out Hown1.out (Nat.le_refl _) Hs2.out); clear hown5 happ5)
      exact ⟨⟨k + 1, keys ++ [i], A5, c5, by omega, by go_num, rfl, Hk2.out, by rw [natV_snoc]; exact Hown5.out, Hb5.out⟩, by simp [intOf]; omega⟩
    ·obtain rfl : k = r.terms.length := by omega
     have Hkeys := kp (show RowKeys s r keys from ⟨by rw [Hto.out.1]; exact Hne.out.1, Hne.out.1, Hne.out.2, fun i d t q h1 h2 h3 => Hto.out.2 i d t q (by have := (List.getElem?_eq_some_iff.1 h2).1; omega) h1 h2 h3⟩)
     have Hkl := kp Hto.out.1
     have Hw0 := kp Hb0.out.size
     go_wp2_with fail
     exact HYes.out _ keys _ Hkeys.out (by rw [Hkl.out]; exact own_base Hown.out Hw0.out) (Hb0.out.trans (Hbe.out.mono Hb0.out.size))
  ·have e1 : ((r.terms.length : Int) != (s.dims.length : Int)) = false := by simp; omega
   have e2 : ((r.vals.length : Int) != (s.meas.length : Int)) = true := by simp; omega
   have Hnk := kp (show ∀ keys, ¬ RowKeys s r keys from fun keys hk => hne2 hk.nv)
   clear hne1 hne2
   go_wp2_with fail
   exact HNo.out _ _ (by decide) Hnk.out Hb0.out
 ·have e1 : ((r.terms.length : Int) != (s.dims.length : Int)) = true := by simp; omega
  have Hnk := kp (show ∀ keys, ¬ RowKeys s r keys from fun keys hk => hne1 hk.nt)
  go_wp2_with fail
  exact HNo.out _ _ (by decide) Hnk.out Hb0.out
end Go.Proofs.YthmbgbmcdbdecaaGreat.Tc
