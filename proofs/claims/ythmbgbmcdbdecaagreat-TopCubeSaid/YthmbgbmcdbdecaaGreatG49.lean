/- Parts of a proof: The whole cube in plain words: it is whole. The whole cube in plain words: its tuples, its tree. The whole cube in plain words: its tree has no fewer cells. -/
import Derived.Test.YthmbgbmcdbdecaaGreatG39
import Derived.Test.YthmbgbmcdbdecaaGreatG40
import Derived.Test.YthmbgbmcdbdecaaGreatG42
import Derived.Test.YthmbgbmcdbdecaaGreatG48
namespace Go.Proofs.YthmbgbmcdbdecaaGreat.Tc
open Go.RowKit Base
set_option linter.unusedVariables false
set_option linter.unusedSimpArgs false
def Lead (nd : Nat) (st : St) (j : Nat) : Prop := ∃ (i : Nat) (n : PNode) (c : Cl), st.nodes[i]? = some n ∧ n.dim + 1 < nd ∧ c ∈ cellsP n ∧ c.child = j
theorem Lead.ext {nd : Nat} {a b : St} {j : Nat} (h : Lead nd a j) (he : Ext a b) : Lead nd b j := by
 obtain ⟨i, n, c, h1, h2⟩ := h
 exact ⟨i, n, c, he.node h1, h2⟩
structure New (nd : Nat) (f : Option Rec) (b st : St) (S : List Nat) : Prop where
 ext : Ext b st
 led : ∀ j, b.nodes.length ≤ j → j < st.nodes.length → j ∈ S ∨ Lead nd st j
 none : f = none → st = b
def RecNew (nd : Nat) (g : Rec) : Prop := ∀ part st r, g part st = some r → Ext st r.1 ∧ ∀ j, st.nodes.length ≤ j → j < r.1.nodes.length → j = r.2 ∨ Lead nd r.1 j
section
variable {ps : List (List Nat × Ag)} {nd : Nat} {f : Option Rec} (hf : ∀ g, f = some g → RecNew nd g)
include hf
theorem cellV_new {b : St} {S : List Nat} {key : Nat} {part : List Nat} {st : St} {r : St × Cl} (h : cellV ps f key part st = some r) (hn : New nd f b st S) : New nd f b r.1 (S ++ [r.2.child]) := by
 unfold cellV at h
 split at h
 ·injection h with h
  subst h
  refine ⟨hn.ext, fun j h1 h2 => ?_, fun _ => hn.none rfl⟩
  rw [hn.none rfl] at h2
  exact absurd h2 (Nat.not_lt.2 h1)
 ·rename_i g
  obtain ⟨q, hq, rfl⟩ := Option.map_eq_some_iff.1 h
  obtain ⟨k1, k2⟩ := hf g rfl part st q hq
  refine ⟨hn.ext.trans k1, fun j h1 h2 => ?_, fun e => by cases e⟩
  by_cases hj : j < st.nodes.length
  ·rcases hn.led j h1 hj with h3 | h3
   ·exact .inl (List.mem_append_left _ h3)
   ·exact .inr (h3.ext k1)
  ·rcases k2 j (by omega) h2 with h3 | h3
   ·exact .inl (List.mem_append_right _ (by rw [h3]; exact List.mem_cons_self))
   ·exact .inr h3
theorem rowV_new {b : St} : ∀ (gs : List (Nat × List Nat)) (s r : St × List Cl) (S : List Nat), rowV ps f gs s = some r → New nd f b s.1 (S ++ s.2.map Cl.child) → New nd f b r.1 (S ++ r.2.map Cl.child)
 | [], s, r, S, h, hn => by injection h with h; subst h; exact hn
 | g :: gs, s, r, S, h, hn => by
  unfold rowV at h
  obtain ⟨q, hq, h⟩ := Option.bind_eq_some_iff.1 h
  have h1 := cellV_new hf hq hn
  refine rowV_new gs _ r S h ?_
  rw [List.map_append, ← List.append_assoc]
  exact h1
theorem listsV_new {b : St} {at_ : Nat} {part : List Nat} : ∀ (ls : List (List Nat)) (s r : St × List (List Cl)), listsV ps f at_ part ls s = some r → New nd f b s.1 (s.2.flatten.map Cl.child) → New nd f b r.1 (r.2.flatten.map Cl.child)
 | [], s, r, h, hn => by injection h with h; subst h; exact hn
 | l :: ls, s, r, h, hn => by
  unfold listsV at h
  obtain ⟨q, hq, h⟩ := Option.bind_eq_some_iff.1 h
  have h1 := rowV_new hf _ (s.1, []) q (s.2.flatten.map Cl.child) hq (by simpa using hn)
  refine listsV_new ls _ r h ?_
  rw [List.flatten_append, List.map_append]
  simpa using h1
theorem nodeV_new {at_ most : Nat} {lifts : List (List (List Nat))} (hat : ∀ g, f = some g → at_ + 1 < nd) : RecNew nd (nodeV ps lifts most f at_) := by
 intro part st r h
 unfold nodeV at h
 split at h
 ·injection h with h
  subst h
  exact ⟨Ext.refl _, fun j h1 h2 => by dsimp only at h2; omega⟩
 ·obtain ⟨q, hq, h⟩ := Option.bind_eq_some_iff.1 h
  obtain ⟨x, hx, h⟩ := Option.bind_eq_some_iff.1 h
  split at h
  ·injection h with h
   subst h
   have h1 := listsV_new hf _ (st, []) q hq ⟨Ext.refl _, fun j h1 h2 => absurd h2 (Nat.not_lt.2 h1), fun _ => rfl⟩
   have h2 := cellV_new hf hx h1
   have hE : Ext x.1 ⟨x.1.nodes ++ [⟨at_, q.2, x.2⟩], x.1.parts ++ [(at_, part)]⟩ := ⟨_, _, rfl, rfl⟩
   refine ⟨h2.ext.trans hE, fun j h3 h4 => ?_⟩
   dsimp only at h4 ⊢
   rw [List.length_append] at h4
   simp only [List.length_cons, List.length_nil] at h4
   by_cases hj : j = x.1.nodes.length
   ·exact .inl hj
   ·rcases h2.led j h3 (by omega) with h5 | h5
    ·right
     cases hfe : f with
     | none =>
      have := h2.none hfe
      rw [this] at hj h4
      exact absurd (Nat.lt_of_le_of_ne (Nat.le_of_lt_succ h4) hj) (Nat.not_lt.2 h3)
     | some g =>
      have hc : ∃ c ∈ cellsP ⟨at_, q.2, x.2⟩, c.child = j := by
       rcases List.mem_append.1 h5 with h6 | h6
       ·obtain ⟨c, hc, e⟩ := List.mem_map.1 h6
        exact ⟨c, List.mem_append_left _ hc, e⟩
       ·exact ⟨x.2, List.mem_append_right _ List.mem_cons_self, (List.mem_singleton.1 h6).symm⟩
      obtain ⟨c, hc, e⟩ := hc
      exact ⟨x.1.nodes.length, _, c, by rw [List.getElem?_append_right (Nat.le_refl _), Nat.sub_self]; rfl, hat g hfe, hc, e⟩
    ·exact .inr (h5.ext hE)
  ·cases h
end
theorem visit_new {ps : List (List Nat × Ag)} {lifts : List (List (List Nat))} {most nd : Nat} : ∀ {d : Nat}, d < nd → RecNew nd (visit ps lifts most nd d)
 | 0, h => nodeV_new (f := none) (fun g e => by cases e) (fun g e => by cases e)
 | d + 1, h => nodeV_new (f := some (visit ps lifts most nd d)) (fun g e => by injection e with e; subst e; exact visit_new (by omega)) (fun g _ => by omega)
theorem visit_top {ps : List (List Nat × Ag)} {lifts : List (List (List Nat))} {most nd d : Nat} {part : List Nat} {r : St × Nat} (h : visit ps lifts most nd d part ⟨[], []⟩ = some r) : r.2 + 1 = r.1.nodes.length := by
 have H : ∀ (f : Option Rec) (a : Nat), nodeV ps lifts most f a part ⟨[], []⟩ = some r → r.2 + 1 = r.1.nodes.length := fun f a h => by
  unfold nodeV at h
  have e : findP a part ([] : List (Nat × List Nat)) = none := rfl
  dsimp only at h
  rw [e] at h
  dsimp only at h
  obtain ⟨q, hq, h⟩ := Option.bind_eq_some_iff.1 h
  obtain ⟨x, hx, h⟩ := Option.bind_eq_some_iff.1 h
  split at h
  ·injection h with h
   subst h
   simp
  ·cases h
 cases d with
 | zero => exact H none _ h
 | succ d => exact H _ _ h
structure CubeS (s : Sch) (fs : List Fa) (st : St) : Prop where
 good : Good (pls fs) (s.dims.map liftsN) s.dims.length st
 top : st.parts[st.nodes.length - 1]? = some (0, List.range fs.length)
 pos : 0 < st.nodes.length
 led : ∀ j, j + 1 < st.nodes.length → Lead s.dims.length st j
theorem cube_state {s : Sch} {fs : List Fa} {most : Nat} {ns : List PNode} (hs : SchOk s) (hne : fs ≠ []) (h : cubeV s fs most = some ns) : ∃ st, st.nodes = ns ∧ CubeS s fs st := by
 unfold cubeV at h
 rw [if_neg hne] at h
 obtain ⟨r, hr, rfl⟩ := Option.map_eq_some_iff.1 h
 have hn := hs.n1
 have hpl : (pls fs).length = fs.length := by unfold pls; rw [List.length_map]
 obtain ⟨h1, h2, h3⟩ := visit_ok (by omega : s.dims.length - 1 < s.dims.length) (List.range fs.length) ⟨[], []⟩ r hr (Good.nil _ _ _) (by
  have := range_ok (ps := pls fs) (by unfold pls; simpa using hne)
  rw [hpl] at this
  exact this)
 obtain ⟨_, h4⟩ := visit_new (by omega : s.dims.length - 1 < s.dims.length) _ _ _ hr
 have ht := visit_top hr
 refine ⟨r.1, rfl, h1, ?_, by omega, fun j hj => ?_⟩
 ·rw [← ht, Nat.add_sub_cancel, h3, Nat.sub_self]
 ·rcases h4 j (Nat.zero_le _) (by omega) with h5 | h5
  ·omega
  ·exact h5
section
variable {s : Sch} {fs : List Fa} {st : St}
theorem CubeS.at_ (h : CubeS s fs st) {i : Nat} {n : PNode} (hn : st.nodes[i]? = some n) : ∃ p, st.parts[i]? = some p ∧ p.1 < s.dims.length ∧ PtOk (pls fs) p.2 ∧ RepN (pls fs) (s.dims.map liftsN) s.dims.length st p.1 p.2 n := by
 have hi := (List.getElem?_eq_some_iff.1 hn).1
 have hp := List.getElem?_eq_getElem (l := st.parts) (i := i) (by rw [h.good.len]; exact hi)
 obtain ⟨h1, h2⟩ := h.good.part i _ hp
 exact ⟨_, hp, h1, h2, h.good.rep i n _ hn hp⟩
theorem CubeS.whl (h : CubeS s fs st) : Whl s.dims.length st.nodes := by
 refine ⟨fun i n hn hd c hc => h.good.back i n hn (by omega) c hc, fun n hn => ?_, fun j hj => h.led j hj, fun n hn => ?_⟩
 ·obtain ⟨p, hp, _, _, hr⟩ := h.at_ hn
  rw [h.top] at hp
  injection hp with hp
  subst hp
  exact hr.dim
 ·obtain ⟨i, hi, rfl⟩ := List.getElem_of_mem hn
  obtain ⟨p, hp, h1, _, hr⟩ := h.at_ (List.getElem?_eq_getElem hi)
  rw [hr.dim]
  exact h1
theorem CubeS.lists (h : CubeS s fs st) (hs : SchOk s) {i : Nat} {n : PNode} (hn : st.nodes[i]? = some n) : n.lists ≠ [] ∧ n.lists.length ≤ 4 ∧ ∀ l ∈ n.lists, l.length ≤ 200 := by
 obtain ⟨p, hp, h1, h2, hr⟩ := h.at_ hn
 have hd : s.dims[p.1]? = some (s.dims[p.1]'h1) := List.getElem?_eq_getElem h1
 have hl : ((s.dims.map liftsN)[p.1]?).getD [] = liftsN (s.dims[p.1]'h1) := by rw [List.getElem?_map, hd]; rfl
 have ho := hs.dims _ h1
 have hr2 := hr.lists
 rw [hl] at hr2
 have hlen : (liftsN (s.dims[p.1]'h1)).length = (s.dims[p.1]'h1).tiers.length := by unfold liftsN; rw [List.length_map, List.length_range]
 have e := hr2.1
 rw [hlen] at e
 refine ⟨fun he => by have := ho.n1; rw [he, List.length_nil] at e; omega, by have := ho.n2; omega, fun l hl' => ?_⟩
 obtain ⟨k, hk, rfl⟩ := List.getElem_of_mem hl'
 obtain ⟨lift, hli, hrow⟩ := RepL.left hr2 (List.getElem?_eq_getElem hk)
 have e2 := hrow.1
 rw [← e2]
 unfold groupsP
 refine Nat.le_trans (List.length_filterMap_le _ _) ?_
 simp
end
theorem filter_lt_succ (key : Nat → Nat) (n : Nat) : ∀ part : List Nat, (part.filter fun i => decide (key i < n + 1)).length = (part.filter fun i => decide (key i < n)).length + (selP key part n).length
 | [] => rfl
 | x :: l => by
  have ih := filter_lt_succ key n l
  unfold selP at ih ⊢
  simp only [List.filter_cons]
  by_cases h1 : key x < n
  ·have h2 : key x < n + 1 := by omega
   have h3 : (key x == n) = false := by simp; omega
   simp only [h1, h2, h3, decide_true, if_true, List.length_cons]
   simp only [Bool.false_eq_true, if_false]
   omega
  ·by_cases h4 : key x = n
   ·have h2 : key x < n + 1 := by omega
    have h3 : (key x == n) = true := by simp [h4]
    simp only [h1, h2, h3, decide_true, decide_false, if_true, List.length_cons]
    simp only [Bool.false_eq_true, if_false]
    omega
   ·have h2 : ¬ key x < n + 1 := by omega
    have h3 : (key x == n) = false := by simp [h4]
    simp only [h1, h2, h3, decide_false]
    simp only [Bool.false_eq_true, if_false]
    exact ih
theorem groups_sum {key : Nat → Nat} {part : List Nat} (h : ∀ i ∈ part, key i < 200) : ((groupsP key part).map fun g => g.2.length).sum = part.length := by
 have H : ∀ n, (((List.range n).filterMap fun k => if selP key part k = [] then none else some (k, selP key part k)).map fun g => g.2.length).sum = (part.filter fun i => decide (key i < n)).length := by
  intro n
  induction n with
  | zero =>
   rw [List.filter_eq_nil_iff.2 (fun i _ => by simp)]
   rfl
  | succ n ih =>
   rw [List.range_succ, List.filterMap_append, List.map_append, List.sum_append, ih, filter_lt_succ]
   congr 1
   by_cases he : selP key part n = []
   ·simp [he]
   ·simp [he]
 unfold groupsP
 rw [H 200, List.filter_eq_self.2 (fun i hi => decide_eq_true (h i hi))]
section
variable {s : Sch} {fs : List Fa} {st : St}
theorem CubeS.node (h : CubeS s fs st) {i : Nat} {p : Nat × List Nat} (hp : st.parts[i]? = some p) : ∃ n, st.nodes[i]? = some n ∧ p.1 < s.dims.length ∧ PtOk (pls fs) p.2 ∧ RepN (pls fs) (s.dims.map liftsN) s.dims.length st p.1 p.2 n := by
 have hi := (List.getElem?_eq_some_iff.1 hp).1
 have hn := List.getElem?_eq_getElem (l := st.nodes) (i := i) (by rw [← h.good.len]; exact hi)
 obtain ⟨h1, h2⟩ := h.good.part i _ hp
 exact ⟨_, hn, h1, h2, h.good.rep i _ _ hn hp⟩
theorem lifts_of {d : Dim} (a : Nat) (hd : s.dims[a]? = some d) : ((s.dims.map liftsN)[a]?).getD [] = liftsN d := by rw [List.getElem?_map, hd]; rfl
theorem liftsN_get (d : Dim) (k : Nat) (hk : k < d.tiers.length) : (liftsN d)[k]? = some (mapN d k) := by
 unfold liftsN
 rw [List.getElem?_map, List.getElem?_range hk]
 rfl
theorem CubeS.row (h : CubeS s fs st) {a i : Nat} {part : List Nat} (hp : st.parts[i]? = some (a, part)) {d : Dim} (hd : s.dims[a]? = some d) {k : Nat} (hk : k < d.tiers.length) : ∃ n l, st.nodes[i]? = some n ∧ n.dim = a ∧ n.lists.length = d.tiers.length ∧ n.lists[k]? = some l ∧ RepRow (pls fs) (decide (a + 1 = s.dims.length)) st a (groupsP (keyL (pls fs) (mapN d k) a) part) l := by
 obtain ⟨n, hn, h1, h2, hr⟩ := h.node hp
 have hl := hr.lists
 dsimp only at hl h1
 rw [lifts_of a hd] at hl
 obtain ⟨l, h3, h4⟩ := RepL.right hl (liftsN_get d k hk)
 refine ⟨n, l, hn, hr.dim, ?_, h3, h4⟩
 rw [← hl.1]
 unfold liftsN
 rw [List.length_map, List.length_range]
theorem firstL_eq {nodes : List PNode} {i : Nat} {n : PNode} {l : List Cl} (hn : nodes[i]? = some n) (hl : n.lists[0]? = some l) : firstL nodes i = l := by unfold firstL; rw [hn]; show (n.lists[0]?).getD [] = l; rw [hl]; rfl
theorem CubeS.treeW (h : CubeS s fs st) (hs : SchOk s) : ∀ (d i a : Nat) (part : List Nat), st.parts[i]? = some (a, part) → a + d + 1 = s.dims.length → TreeW st.nodes d i
 | 0, i, a, part, hp, ha => by
  obtain ⟨n, hn, h1, h2, hr⟩ := h.node hp
  exact ⟨n, hn, (h.lists hs hn).1⟩
 | d + 1, i, a, part, hp, ha => by
  have had : a < s.dims.length := by omega
  have hd := List.getElem?_eq_getElem had
  obtain ⟨n, l, hn, _, _, h3, h4⟩ := h.row hp hd (k := 0) (hs.dims a had).n1
  refine ⟨n, hn, (h.lists hs hn).1, fun c hc => ?_⟩
  rw [firstL_eq hn h3] at hc
  obtain ⟨q, hq, rfl⟩ := List.getElem_of_mem hc
  obtain ⟨g, hg, hr⟩ := RepL.left h4 (List.getElem?_eq_getElem hq)
  have h5 := hr.2
  rw [if_neg (by simp; omega)] at h5
  exact h.treeW hs d _ (a + 1) g.2 h5.2 (by omega)
def keysI (fs : List Fa) (i : Nat) : List Nat := (((pls fs)[i]?).getD ([], agZero)).1
theorem keysI_len (h : FactsOk s fs) {i : Nat} (hi : i < fs.length) : (keysI fs i).length = s.dims.length ∧ KeyOk s (keysI fs i) := by
 unfold keysI pls
 rw [List.getElem?_map, List.getElem?_eq_getElem hi]
 have := h.keys _ (List.getElem_mem hi)
 exact ⟨this.len, this⟩
theorem keyF_at (h : FactsOk s fs) {i a : Nat} (hi : i < fs.length) (ha : a < s.dims.length) : (keysI fs i)[a]? = some (keyF (pls fs) a i) := by
 obtain ⟨h1, h2⟩ := keysI_len h hi
 unfold keyF
 show (keysI fs i)[a]? = some (((keysI fs i)[a]?).getD 0)
 rw [List.getElem?_eq_getElem (by rw [h1]; exact ha)]
 rfl
theorem keyF_lt (hs : SchOk s) (h : FactsOk s fs) {i a : Nat} (hi : i < fs.length) {d : Dim} (hd : s.dims[a]? = some d) : keyF (pls fs) a i < (fin d).length := by
 obtain ⟨ha, e⟩ := List.getElem?_eq_some_iff.1 hd
 have h0 := keyF_at h hi ha
 obtain ⟨h1, h2⟩ := keysI_len h hi
 obtain ⟨hk, e2⟩ := List.getElem?_eq_some_iff.1 h0
 have ho := dim_at hs hd
 subst e
 have h3 := h2.each a ha hk ho.n1
 rw [fin_len ho, ← e2]
 exact h3
theorem keyL_eq (hs : SchOk s) (h : FactsOk s fs) {i a : Nat} (hi : i < fs.length) {d : Dim} (hd : s.dims[a]? = some d) (k : Nat) : keyL (pls fs) (mapN d k) a i = liftN d k (keyF (pls fs) a i) := by
 unfold keyL
 rw [mapN_get d k (keyF_lt hs h hi hd)]
 rfl
theorem keyL_small (hs : SchOk s) (h : FactsOk s fs) {i a : Nat} (hi : i < fs.length) {d : Dim} (hd : s.dims[a]? = some d) {k : Nat} (hk : k < d.tiers.length) : keyL (pls fs) (mapN d k) a i < 200 := by
 rw [keyL_eq hs h hi hd]
 have ho := dim_at hs hd
 have h1 := keyF_lt hs h hi hd
 rw [fin_len ho] at h1
 have h2 := lift_lt ho hk h1
 have h3 := (ho.tiers k hk).n2
 omega
theorem CubeS.count (h : CubeS s fs st) (hs : SchOk s) (hf : FactsOk s fs) : ∀ (d i a : Nat) (part keys : List Nat), st.parts[i]? = some (a, part) → a + d + 1 = s.dims.length → (∀ x ∈ part, ∀ y ∈ part, (keysI fs x).drop a = (keysI fs y).drop a → x = y) → (tupP st.nodes d i keys).length = part.length := by
 have hpl : (pls fs).length = fs.length := by unfold pls; rw [List.length_map]
 intro d
 induction d with
 | zero =>
  intro i a part keys hp ha hx
  have had : a < s.dims.length := by omega
  have hd := List.getElem?_eq_getElem had
  obtain ⟨n, l, hn, _, _, h3, h4⟩ := h.row hp hd (k := 0) (hs.dims a had).n1
  obtain ⟨_, _, _, hpt, _⟩ := h.node hp
  have hlt : ∀ x ∈ part, x < fs.length := fun x hx => by have := hpt.lt x hx; rw [hpl] at this; exact this
  show (nodeT st.nodes none i keys).length = _
  unfold nodeT
  rw [firstL_eq hn h3, List.length_flatMap, ← groups_sum (key := keyL (pls fs) (mapN _ 0) a) (part := part) (fun x hx' => keyL_small hs hf (hlt x hx') hd (hs.dims a had).n1)]
  congr 1
  apply List.ext_getElem?
  intro q
  rw [List.getElem?_map, List.getElem?_map]
  by_cases hq : q < l.length
  ·obtain ⟨g, hg, _⟩ := RepL.left h4 (List.getElem?_eq_getElem hq)
   rw [hg, List.getElem?_eq_getElem hq]
   show some (cellT none keys _).length = some g.2.length
   have hgm := mem_groups.1 (List.mem_of_getElem? hg)
   have h1 : (cellT none keys l[q]).length = 1 := rfl
   rw [h1]
   congr 1
   rcases hg2 : g.2 with _ | ⟨x, xs⟩
   ·exact absurd hg2 hgm.2.2
   ·have hmem : ∀ z ∈ g.2, z ∈ part ∧ keyF (pls fs) a z = g.1 := fun z hz => by
     rw [hgm.2.1] at hz
     obtain ⟨h6, h7⟩ := List.mem_filter.1 hz
     have h8 := beq_iff_eq.1 h7
     rw [keyL_eq hs hf (hlt z h6) hd] at h8
     exact ⟨h6, h8⟩
    have hone : ∀ y ∈ xs, y = x := fun y hy => by
     obtain ⟨y1, y2⟩ := hmem y (by rw [hg2]; exact List.mem_cons_of_mem _ hy)
     obtain ⟨x1, x2⟩ := hmem x (by rw [hg2]; exact List.mem_cons_self)
     refine hx y y1 x x1 ?_
     have e : ∀ z, z ∈ part → (keysI fs z).drop a = [keyF (pls fs) a z] := fun z hz => by
      have h9 := (keysI_len hf (hlt z hz)).1
      obtain ⟨h10, h11⟩ := List.getElem?_eq_some_iff.1 (keyF_at hf (hlt z hz) had)
      rw [List.drop_eq_getElem_cons h10, h11, List.drop_of_length_le (by omega)]
     rw [e y y1, e x x1, y2, x2]
    have hnd : g.2.Nodup := (hpt.group (List.mem_of_getElem? hg)).nd
    rw [hg2] at hnd
    rcases hxs : xs with _ | ⟨y, ys⟩
    ·rfl
    ·exfalso
     have := hone y (by rw [hxs]; exact List.mem_cons_self)
     rw [hxs, this] at hnd
     exact (List.nodup_cons.1 hnd).1 List.mem_cons_self
  ·rw [List.getElem?_eq_none (by omega : l.length ≤ q), List.getElem?_eq_none (by have := h4.1; omega)]
   rfl
 | succ d ih =>
  intro i a part keys hp ha hx
  have had : a < s.dims.length := by omega
  have hd := List.getElem?_eq_getElem had
  obtain ⟨n, l, hn, _, _, h3, h4⟩ := h.row hp hd (k := 0) (hs.dims a had).n1
  obtain ⟨_, _, _, hpt, _⟩ := h.node hp
  have hlt : ∀ x ∈ part, x < fs.length := fun x hx => by have := hpt.lt x hx; rw [hpl] at this; exact this
  show (nodeT st.nodes (some (tupP st.nodes d)) i keys).length = _
  unfold nodeT
  rw [firstL_eq hn h3, List.length_flatMap, ← groups_sum (key := keyL (pls fs) (mapN _ 0) a) (part := part) (fun x hx' => keyL_small hs hf (hlt x hx') hd (hs.dims a had).n1)]
  congr 1
  apply List.ext_getElem?
  intro q
  rw [List.getElem?_map, List.getElem?_map]
  by_cases hq : q < l.length
  ·obtain ⟨g, hg, hr⟩ := RepL.left h4 (List.getElem?_eq_getElem hq)
   rw [hg, List.getElem?_eq_getElem hq]
   show some (tupP st.nodes d l[q].child (keys ++ [l[q].key])).length = some g.2.length
   have h5 := hr.2
   rw [if_neg (by simp; omega)] at h5
   have hgm := mem_groups.1 (List.mem_of_getElem? hg)
   congr 1
   refine ih _ (a + 1) g.2 _ h5.2 (by omega) (fun x hx' y hy' e => ?_)
   have hmem : ∀ z ∈ g.2, z ∈ part ∧ keyF (pls fs) a z = g.1 := fun z hz => by
    rw [hgm.2.1] at hz
    obtain ⟨h6, h7⟩ := List.mem_filter.1 hz
    have h8 := beq_iff_eq.1 h7
    rw [keyL_eq hs hf (hlt z h6) hd] at h8
    exact ⟨h6, h8⟩
   obtain ⟨x1, x2⟩ := hmem x hx'
   obtain ⟨y1, y2⟩ := hmem y hy'
   refine hx x x1 y y1 ?_
   have ed : ∀ z, z ∈ part → (keysI fs z).drop a = keyF (pls fs) a z :: (keysI fs z).drop (a + 1) := fun z hz => by
    obtain ⟨h10, h11⟩ := List.getElem?_eq_some_iff.1 (keyF_at hf (hlt z hz) had)
    rw [List.drop_eq_getElem_cons h10, h11]
   rw [ed x x1, ed y y1, x2, y2, e]
  ·rw [List.getElem?_eq_none (by omega : l.length ≤ q), List.getElem?_eq_none (by have := h4.1; omega)]
   rfl
theorem CubeS.tuples (h : CubeS s fs st) (hs : SchOk s) (hf : FactsOk s fs) : (factsT s.dims.length st.nodes).length = fs.length := by
 have hn := hs.n1
 have hpos := h.pos
 unfold factsT
 rw [if_neg (fun e => by rw [e] at hpos; simp at hpos), h.count hs hf (s.dims.length - 1) (st.nodes.length - 1) 0 (List.range fs.length) [] h.top (by omega) (fun x hx y hy e => ?_), List.length_range]
 rw [List.drop_zero, List.drop_zero] at e
 have hx' := List.mem_range.1 hx
 have hy' := List.mem_range.1 hy
 have ek : ∀ z (hz : z < fs.length), keysI fs z = fs[z].keys := fun z hz => by unfold keysI pls; rw [List.getElem?_map, List.getElem?_eq_getElem hz]; rfl
 rw [ek x hx', ek y hy'] at e
 have H : ∀ u v (hu : u < fs.length) (hv : v < fs.length), u < v → cmpN fs[u].keys fs[v].keys < 0 := by
  intro u v
  induction v with
  | zero => intro hu hv h; omega
  | succ v ih =>
   intro hu hv huv
   have h1 := hf.rise v hv
   by_cases hu' : u = v
   ·subst hu'; exact h1
   ·have h2 := ih hu (by omega) (by omega)
    have h3 := cmpN_trans (Int.le_of_lt h2) (Int.le_of_lt h1)
    rcases Int.lt_or_eq_of_le h3 with h4 | h4
    ·exact h4
    ·exfalso
     have h5 := cmpN_eq h4
     rw [← h5, cmpN_swap] at h1
     omega
 rcases Nat.lt_trichotomy x y with h1 | h1 | h1
 ·have := H x y hx' hy' h1
  rw [e, cmpN_refl] at this
  omega
 ·exact h1
 ·have := H y x hy' hx' h1
  rw [e, cmpN_refl] at this
  omega
end
theorem sum_split (t : Nat → Nat) (p q r : Nat → Bool) (h : ∀ j, (p j = true ↔ q j = true ∨ r j = true) ∧ ¬ (q j = true ∧ r j = true)) : ∀ l : List Nat, ((l.filter p).map t).sum = ((l.filter q).map t).sum + ((l.filter r).map t).sum
 | [] => rfl
 | x :: l => by
  have ih := sum_split t p q r h l
  obtain ⟨h1, h2⟩ := h x
  simp only [List.filter_cons]
  by_cases hq : q x = true
  ·have hp := h1.2 (.inl hq)
   have hr : ¬ r x = true := fun e => h2 ⟨hq, e⟩
   rw [if_pos hp, if_pos hq, if_neg hr, List.map_cons, List.map_cons, List.sum_cons, List.sum_cons, ih]
   omega
  ·by_cases hr : r x = true
   ·have hp := h1.2 (.inr hr)
    rw [if_pos hp, if_neg hq, if_pos hr, List.map_cons, List.map_cons, List.sum_cons, List.sum_cons, ih]
    omega
   ·have hp : ¬ p x = true := fun e => (h1.1 e).elim hq hr
    rw [if_neg hp, if_neg hq, if_neg hr, ih]
theorem sum_sub (t : Nat → Nat) : ∀ (J C : List Nat), J.Nodup → (∀ j ∈ J, j ∈ C) → (J.map t).sum ≤ (C.map t).sum
 | [], C, _, _ => Nat.zero_le _
 | x :: J, C, hn, hs => by
  obtain ⟨h1, h2⟩ := List.nodup_cons.1 hn
  obtain ⟨C1, C2, rfl⟩ := List.append_of_mem (hs x List.mem_cons_self)
  have ih := sum_sub t J (C1 ++ C2) h2 (fun j hj => by
   have hne : j ≠ x := fun e => h1 (e ▸ hj)
   rcases List.mem_append.1 (hs j (List.mem_cons_of_mem _ hj)) with h3 | h3
   ·exact List.mem_append_left _ h3
   ·rcases List.mem_cons.1 h3 with h4 | h4
    ·exact absurd h4 hne
    ·exact List.mem_append_right _ h4)
  rw [List.map_append, List.sum_append] at ih ⊢
  rw [List.map_cons, List.map_cons, List.sum_cons, List.sum_cons]
  omega
theorem fold_ge (acc : List Nat) : ∀ (cs : List Cl) (s : Nat), min (s + (cs.map fun c => (acc[c.child]?).getD 0).sum) 1125899906842624 ≤ cs.foldl (fun s c => capN s ((acc[c.child]?).getD 0)) s
 | [], s => by simp only [List.map_nil, List.sum_nil, List.foldl_nil]; omega
 | c :: cs, s => by
  have ih := fold_ge acc cs (capN s ((acc[c.child]?).getD 0))
  rw [List.foldl_cons, List.map_cons, List.sum_cons]
  refine Nat.le_trans ?_ ih
  unfold capN
  omega
theorem treesP_pre (nx : Nat) : ∀ (B A : List PNode), ∃ X, treesP nx (A ++ B) = treesP nx A ++ X
 | [], A => ⟨[], by rw [List.append_nil, List.append_nil]⟩
 | b :: B, A => by
  obtain ⟨X, hX⟩ := treesP_pre nx B (A ++ [b])
  rw [List.append_assoc, treesP_snoc] at hX
  exact ⟨[treeP nx (treesP nx A) b] ++ X, by rw [show A ++ b :: B = A ++ ([b] ++ B) from rfl, hX, List.append_assoc]⟩
theorem treesP_take (nx : Nat) (P : List PNode) (i : Nat) : treesP nx (P.take i) = (treesP nx P).take i := by
 obtain ⟨X, hX⟩ := treesP_pre nx (P.drop i) (P.take i)
 rw [List.take_append_drop] at hX
 rw [hX]
 by_cases hi : i ≤ P.length
 ·exact (List.take_left' (by rw [treesP_len, List.length_take]; omega)).symm
 ·rw [← hX, List.take_of_length_le (by omega), List.take_of_length_le (by rw [treesP_len]; omega)]
theorem treesP_get (nx : Nat) {P : List PNode} {i : Nat} {n : PNode} (h : P[i]? = some n) : (treesP nx P)[i]? = some (treeP nx ((treesP nx P).take i) n) := by
 obtain ⟨hi, e⟩ := List.getElem?_eq_some_iff.1 h
 have h1 : (treesP nx (P.take (i + 1)))[i]? = some (treeP nx (treesP nx (P.take i)) n) := by
  rw [List.take_succ_eq_append_getElem hi, e, treesP_snoc, List.getElem?_append_right (by rw [treesP_len, List.length_take]; omega), treesP_len, List.length_take, Nat.min_eq_left (by omega), Nat.sub_self]
  rfl
 rw [treesP_take, List.getElem?_take, if_pos (by omega), treesP_take] at h1
 exact h1
theorem tree_sum {nx : Nat} {P : List PNode} (hw : Whl nx P) (hne : 0 < P.length) (hc : sumC P ≤ 1125899906842624) : sumC P ≤ ((treesP nx P).getLast?).getD 0 := by
 obtain ⟨ow, how⟩ : ∃ ow : Nat → Nat, ∀ j, j + 1 < P.length → ∃ (n : PNode) (c : Cl), P[ow j]? = some n ∧ n.dim + 1 < nx ∧ c ∈ cellsP n ∧ c.child = j :=
  ⟨fun j => if h : j + 1 < P.length then Classical.choose (hw.led j h) else 0, fun j hj => by
   show ∃ n c, P[if h : j + 1 < P.length then Classical.choose (hw.led j h) else 0]? = some n ∧ n.dim + 1 < nx ∧ c ∈ cellsP n ∧ c.child = j
   rw [dif_pos hj]
   exact Classical.choose_spec (hw.led j hj)⟩
 obtain ⟨T, hT⟩ : ∃ T, treesP nx P = T := ⟨_, rfl⟩
 obtain ⟨t, ht⟩ : ∃ t : Nat → Nat, t = fun j => (T[j]?).getD 0 := ⟨_, rfl⟩
 have htl : T.length = P.length := by rw [← hT, treesP_len]
 let live : Nat → Nat → Bool := fun i j => decide (i ≤ ow j ∨ ¬ j + 1 < P.length)
 have hback : ∀ j, j + 1 < P.length → j < ow j := fun j hj => by
  obtain ⟨n, c, h1, h2, h3, h4⟩ := how j hj
  rw [← h4]
  have := hw.back _ n h1 h2 c h3
  rw [h4] at this ⊢
  exact this
 have H : ∀ i, i ≤ P.length → sumC (P.take i) ≤ (((List.range i).filter (live i)).map t).sum := by
  intro i
  induction i with
  | zero => intro _; exact Nat.zero_le _
  | succ i ih =>
   intro hi
   have ih := ih (by omega)
   have hn := List.getElem?_eq_getElem (l := P) (i := i) (by omega)
   have hti : t i = treeP nx (T.take i) P[i] := by
    have := treesP_get nx hn
    rw [hT] at this
    rw [ht]
    show (T[i]?).getD 0 = _
    rw [this]
    rfl
   have hs : sumC (P.take (i + 1)) = sumC (P.take i) + countP P[i] := by rw [List.take_succ_eq_append_getElem (by omega), sumC_snoc]
   have hcap : sumC (P.take (i + 1)) ≤ 1125899906842624 := by
    have h1 : sumC P = sumC (P.take (i + 1)) + sumC (P.drop (i + 1)) := by
     unfold sumC
     rw [← List.sum_append, ← List.map_append, List.take_append_drop]
    omega
   rw [List.range_succ, List.filter_append, List.map_append, List.sum_append]
   have hlast : ((([i].filter (live (i + 1)))).map t).sum = t i := by
    have : live (i + 1) i = true := by
     apply decide_eq_true
     by_cases h : i + 1 < P.length
     ·exact .inl (hback i h)
     ·exact .inr h
    rw [List.filter_cons_of_pos this]
    simp
   rw [hlast]
   have hsp := sum_split t (live i) (live (i + 1)) (fun j => decide (ow j = i ∧ j + 1 < P.length)) (fun j => by
    simp only [live, decide_eq_true_eq]
    omega) (List.range i)
   have hsub : (((List.range i).filter fun j => decide (ow j = i ∧ j + 1 < P.length)).map t).sum + countP P[i] ≤ t i ∨ 1125899906842624 ≤ t i := by
    rw [hti]
    unfold treeP
    by_cases hd : (P[i]).dim + 1 < nx
    ·rw [if_pos hd]
     have h1 := fold_ge (T.take i) (cellsP P[i]) (countP P[i])
     have h2 : ((cellsP P[i]).map fun c => ((T.take i)[c.child]?).getD 0) = ((cellsP P[i]).map Cl.child).map t := by
      rw [List.map_map]
      apply List.map_congr_left
      intro c hcm
      have h3 := hw.back i _ hn hd c hcm
      show ((T.take i)[c.child]?).getD 0 = t c.child
      rw [List.getElem?_take, if_pos h3, ht]
     rw [h2] at h1
     have h4 := sum_sub t ((List.range i).filter fun j => decide (ow j = i ∧ j + 1 < P.length)) ((cellsP P[i]).map Cl.child) (List.Pairwise.filter _ List.nodup_range) (fun j hj => by
      obtain ⟨h5, h6⟩ := List.mem_filter.1 hj
      obtain ⟨h7, h8⟩ := of_decide_eq_true h6
      obtain ⟨n, c, k1, k2, k3, k4⟩ := how j h8
      rw [h7, hn] at k1
      injection k1 with k1
      rw [k1]
      exact List.mem_map.2 ⟨c, k3, k4⟩)
     omega
    ·rw [if_neg hd]
     left
     have he : ((List.range i).filter fun j => decide (ow j = i ∧ j + 1 < P.length)) = [] := List.filter_eq_nil_iff.2 (fun j hj h6 => by
      obtain ⟨h7, h8⟩ := of_decide_eq_true h6
      obtain ⟨n, c, k1, k2, k3, k4⟩ := how j h8
      rw [h7, hn] at k1
      injection k1 with k1
      rw [k1] at hd
      exact hd k2)
     rw [he]
     simp
   omega
 have h1 := H P.length (Nat.le_refl _)
 rw [List.take_of_length_le (Nat.le_refl _)] at h1
 refine Nat.le_trans h1 ?_
 obtain ⟨m, hm⟩ : ∃ m, P.length = m + 1 := ⟨P.length - 1, by omega⟩
 have h2 : (List.range P.length).filter (live P.length) = [m] := by
  rw [hm, List.range_succ, List.filter_append]
  have e1 : (List.range m).filter (live (m + 1)) = [] := List.filter_eq_nil_iff.2 (fun j hj h6 => by
   have hj' := List.mem_range.1 hj
   have h7 := of_decide_eq_true h6
   have hjm : j + 1 < P.length := by omega
   rcases h7 with h7 | h7
   ·obtain ⟨n, c, k1, _⟩ := how j hjm
    have := (List.getElem?_eq_some_iff.1 k1).1
    omega
   ·exact h7 hjm)
  have e2 : live (m + 1) m = true := decide_eq_true (.inr (by omega))
  rw [e1, List.filter_cons_of_pos e2]
  rfl
 rw [h2, hT, List.getLast?_eq_getElem?, htl, hm, Nat.add_sub_cancel]
 simp [ht]
end Go.Proofs.YthmbgbmcdbdecaaGreat.Tc
