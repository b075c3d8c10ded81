/- Parts of a proof: Layer 26: groups in plain words; what a map of groups reads as. Layer 26: a part of the facts by the members of a tier. -/
import Derived.Test.YthmbgbmcdbdecaaGreatG05
import Derived.Test.YthmbgbmcdbdecaaGreatG08
import Derived.Test.YthmbgbmcdbdecaaGreatG26
import Derived.Maps.OwnRows
import Derived.Maps.RangeWalk
namespace Go.Proofs.YthmbgbmcdbdecaaGreat.Tc
open Go.RowKit Base Go.Maps Go.WideMaps
set_option linter.unusedVariables false
set_option linter.unusedSimpArgs false
def selP (key : Nat → Nat) (part : List Nat) (k : Nat) : List Nat := part.filter fun i => key i == k
def groupsP (key : Nat → Nat) (part : List Nat) : List (Nat × List Nat) := (List.range 200).filterMap fun k => if selP key part k = [] then none else some (k, selP key part k)
theorem mem_groups {key : Nat → Nat} {part : List Nat} {g : Nat × List Nat} : g ∈ groupsP key part ↔ g.1 < 200 ∧ g.2 = selP key part g.1 ∧ g.2 ≠ [] := by
 unfold groupsP
 rw [List.mem_filterMap]
 constructor
 ·rintro ⟨k, hk, h⟩
  split at h
  ·cases h
  ·rename_i hne
   injection h with h
   subst h
   exact ⟨List.mem_range.1 hk, rfl, hne⟩
 ·rintro ⟨h1, h2, h3⟩
  refine ⟨g.1, List.mem_range.2 h1, ?_⟩
  rw [← h2, if_neg h3]
theorem groups_rise (key : Nat → Nat) (part : List Nat) : (groupsP key part).Pairwise fun a b => a.1 < b.1 := by
 unfold groupsP
 rw [List.pairwise_filterMap]
 refine List.pairwise_lt_range.imp fun {a b} hab => ?_
 intro x hx y hy
 split at hx
 ·cases hx
 ·split at hy
  ·cases hy
  ·injection hx with hx
   injection hy with hy
   subst hx hy
   exact hab
theorem groups_eq {key : Nat → Nat} {part : List Nat} {l : List (Nat × List Nat)} (h1 : (l.map Prod.fst).Nodup) (h2 : l.Pairwise fun a b => a.1 ≤ b.1) (h3 : ∀ g, g ∈ l ↔ g.1 < 200 ∧ g.2 = selP key part g.1 ∧ g.2 ≠ []) : l = groupsP key part := by
 have hm : ∀ g, g ∈ l ↔ g ∈ groupsP key part := fun g => (h3 g).trans mem_groups.symm
 have hn : (groupsP key part).Nodup := by
  rw [List.nodup_iff_pairwise_ne]
  refine (groups_rise key part).imp fun {a b} h e => ?_
  rw [e] at h
  omega
 have hl : l.Nodup := by
  have := h1
  rw [List.nodup_iff_pairwise_ne, List.pairwise_map] at this
  rw [List.nodup_iff_pairwise_ne]
  exact this.imp fun h e => h (by rw [e])
 have hp : l.Perm (groupsP key part) := (List.perm_ext_iff_of_nodup hl hn).2 hm
 refine hp.eq_of_pairwise (le := fun a b : Nat × List Nat => a.1 ≤ b.1) (fun a b ha hb hab hba => ?_) h2 ((groups_rise key part).imp Nat.le_of_lt)
 have e : a.1 = b.1 := Nat.le_antisymm hab hba
 have h4 := ((h3 a).1 ha).2.1
 have h5 := (mem_groups.1 hb).2.1
 refine Prod.ext e ?_
 rw [h4, h5, e]
def selI (key : Nat → Nat) (pre : List Nat) (x : Int) : List Int := (pre.filter fun i => (key i : Int) == x).map fun i : Nat => (i : Int)
def gDat (zs : List Int) : DataW Unit := match zs with
 | [] => .nil
 | _ => .slice (Go.ChangeShapes.lits .i64 zs) []
structure AtG (D : DataW Unit) (key : Nat → Nat) (pre : List Nat) : Prop where
 map : IsMap D
 at_ : ∀ x : Int, D.atKey (.int .i64 x) .nil = gDat (selI key pre x)
 has : ∀ x : Int, Maps.has D (.int .i64 x) = !(selI key pre x).isEmpty
theorem AtG.nil (key : Nat → Nat) : AtG (.map [] : DataW Unit) key [] := ⟨isMap_empty, fun x => rfl, fun x => rfl⟩
theorem selI_snoc (key : Nat → Nat) (pre : List Nat) (i : Nat) (x : Int) : selI key (pre ++ [i]) x = if (key i : Int) = x then selI key pre x ++ [(i : Int)] else selI key pre x := by
 unfold selI
 rw [List.filter_append, List.map_append]
 by_cases h : (key i : Int) = x
 ·rw [if_pos h]; simp [h]
 ·rw [if_neg h]; simp [h]
theorem AtG.put {D : DataW Unit} {key : Nat → Nat} {pre : List Nat} (h : AtG D key pre) (i : Nat) : AtG (D.put (.int .i64 (key i : Int)) (gDat (selI key pre (key i : Int) ++ [(i : Int)]))) key (pre ++ [i]) := by
 have hk : WideAt.IsKeyLit (.int .i64 (key i : Int)) := trivial
 refine ⟨h.map.put _ _, fun x => ?_, fun x => ?_⟩
 ·rw [selI_snoc]
  by_cases e : (key i : Int) = x
  ·rw [if_pos e, ← e, atKey_put_same h.map hk]
  ·rw [if_neg e, atKey_put_other (fun hh => e (by injection hh with _ hh; exact hh.symm))]
   exact h.at_ x
 ·rw [selI_snoc]
  by_cases e : (key i : Int) = x
  ·rw [if_pos e, ← e, has_put_same h.map hk]
   simp
  ·rw [if_neg e, has_put_other (fun hh => e (by injection hh with _ hh; exact hh.symm))]
   exact h.has x
theorem lits_inj : ∀ {a b : List Int}, (Go.ChangeShapes.lits .i64 a : List (DataW Unit)) = Go.ChangeShapes.lits .i64 b → a = b
 | [], [], _ => rfl
 | [], _ :: _, h => by cases h
 | _ :: _, [], h => by cases h
 | a :: x, b :: y, h => by
  unfold Go.ChangeShapes.lits at h
  rw [List.map_cons, List.map_cons] at h
  injection h with h1 h2
  injection h1 with h1
  injection h1 with _ h1
  rw [h1, lits_inj h2]
theorem AtG.owned {D : DataW Unit} {key : Nat → Nat} {pre : List Nat} (h : AtG D key pre) {x : Int} {w : World} {base : Nat} {e : TypeId} {v : Value} {zs : List Int} (ho : w.ownsInts base e .i64 v zs) (hat : D.atKey (.int .i64 x) .nil = rowDatum .i64 v zs) : zs = selI key pre x := by
 rw [h.at_] at hat
 unfold gDat at hat
 rcases ho.datum (H := Unit) with ⟨h1, h2⟩ | h1
 ·rw [h1] at hat
  rw [h2]
  split at hat
  ·rename_i h0; rw [h0]
  ·cases hat
 ·rw [h1] at hat
  split at hat
  ·cases hat
  ·injection hat with hat
   exact (lits_inj hat).symm
theorem gDat_pos {w : World} {base : Nat} {e : TypeId} {v : Value} {zs : List Int} (ho : w.ownsInts base e .i64 v zs) (hne : zs ≠ []) : gDat zs = rowDatum (H := Unit) .i64 v zs := by
 rw [ho.datum_pos hne]
 unfold gDat
 split
 ·exact absurd rfl hne
 ·rfl
theorem selI_nat (key : Nat → Nat) (pre : List Nat) (k : Nat) : selI key pre (k : Int) = (selP key pre k).map fun i : Nat => (i : Int) := by
 unfold selI selP
 congr 1
 apply List.filter_congr
 intro i _
 rw [Bool.eq_iff_iff]
 simp only [beq_iff_eq]
 omega
theorem natV_ints (l : List Nat) : (l.map fun i : Nat => (i : Int)).map (Value.int .i64) = natV l := by
 unfold natV
 rw [List.map_map]
 rfl
theorem zeroInts (w : World) : (zeroValue 41).run Tryz.prog w = .ok (.slice none 0 0) w := by kernel_rfl
def plG (g : Gr) : Nat × List Nat := (g.key, g.part)
def GrsRet (ps : List (Nat × List Nat)) (w : World) (e : Ending) (w' : World) : Prop := ∃ (A : Option Addr) (c : Nat) (gs : List Gr), e = .returned (.slice A gs.length c) ∧ gs.map plG = ps ∧ w'.ownsRow w.heap.size 146 2 (.slice A gs.length c) gs.length (gs.flatMap grV) ∧ (∀ g ∈ gs, Row w' w'.heap.size g.A (natV g.part) ∧ From w.heap.size g.A (natV g.part)) ∧ Below w.heap.size w w'
structure KeyAt (w : World) (Af : Option Addr) (fs : List Fa) (Al : Option Addr) (rs : List Rn) (at_ tier : Nat) (r : Rn) (lf : Fa) (part : List Nat) (key : Nat → Nat) : Prop where
 facts : FasAt w w.heap.size Af fs
 lifts : LfsAt w w.heap.size Al rs
 dim : rs[at_]? = some r
 tier : r.fs[tier]? = some lf
 key : ∀ i ∈ part, ∃ f q z, fs[i]? = some f ∧ f.keys[at_]? = some q ∧ lf.keys[q]? = some z ∧ key i = z ∧ z < 200
 nf : fs.length ≤ 1000000
 nr : rs.length ≤ 1000000
 nt : r.fs.length ≤ 1000000
 nl : lf.keys.length ≤ 1000000
 nk : ∀ f ∈ fs, f.keys.length ≤ 1000000
theorem KeyAt.below {w w' : World} {Af Al : Option Addr} {fs : List Fa} {rs : List Rn} {at_ tier : Nat} {r : Rn} {lf : Fa} {part : List Nat} {key : Nat → Nat} (h : KeyAt w Af fs Al rs at_ tier r lf part key) (hb : Below w.heap.size w w') : KeyAt w' Af fs Al rs at_ tier r lf part key :=
 ⟨(h.facts.below hb).more hb.size, (h.lifts.below hb).more hb.size, h.dim, h.tier, h.key, h.nf, h.nr, h.nt, h.nl, h.nk⟩
structure ColG (w0 : World) (base : Nat) (D : DataW Unit) (left : Lit → Bool) (key : Nat → Nat) (part : List Nat) (gs : List Gr) : Prop where
 nodup : (gs.map Gr.key).Nodup
 mem : ∀ x : Int, (∃ g ∈ gs, (g.key : Int) = x) ↔ Maps.has D (.int .i64 x) = true ∧ left (.int .i64 x) = false
 each : ∀ g ∈ gs, g.key < 200 ∧ g.part = selP key part g.key ∧ g.part ≠ [] ∧ w0.ownsRow base 3 1 (.slice g.A g.part.length g.c) g.part.length (natV g.part)
theorem ColG.start (w0 : World) (base : Nat) (D : DataW Unit) (key : Nat → Nat) (part : List Nat) : ColG w0 base D (Maps.has D) key part [] :=
 ⟨List.nodup_nil, fun x => by cases Maps.has D (.int .i64 x) <;> simp, fun g hg => by cases hg⟩
theorem ColG.step {w0 : World} {base : Nat} {D : DataW Unit} {left : Lit → Bool} {key : Nat → Nat} {part : List Nat} {gs : List Gr} (h : ColG w0 base D left key part gs) {g : Gr} (hhas : Maps.has D (.int .i64 (g.key : Int)) = true) (hleft : left (.int .i64 (g.key : Int)) = true)
 (hg : g.key < 200 ∧ g.part = selP key part g.key ∧ g.part ≠ [] ∧ w0.ownsRow base 3 1 (.slice g.A g.part.length g.c) g.part.length (natV g.part)) :
 ColG w0 base D (fun z => left z && !z.sameKey (.int .i64 (g.key : Int))) key part (gs ++ [g]) := by
 refine ⟨?_, fun x => ?_, fun x hx => ?_⟩
 ·rw [List.map_append, List.nodup_append]
  refine ⟨h.nodup, by simp, ?_⟩
  intro a ha b hb
  obtain ⟨g', hg', rfl⟩ := List.mem_map.1 ha
  obtain rfl : b = g.key := by simpa using hb
  intro e
  have := ((h.mem (g'.key : Int)).1 ⟨g', hg', rfl⟩).2
  rw [e, hleft] at this
  cases this
 ·by_cases e : (g.key : Int) = x
  ·subst e
   constructor
   ·intro _
    exact ⟨hhas, by simp [Lit.sameKey]⟩
   ·intro _
    exact ⟨g, List.mem_append_right _ List.mem_cons_self, rfl⟩
  ·have hs : (Lit.int .i64 x).sameKey (.int .i64 (g.key : Int)) = false := sameKey_ne (fun hh => e (by injection hh with _ hh; exact hh.symm))
   rw [hs, Bool.not_false, Bool.and_true, ← h.mem x]
   constructor
   ·rintro ⟨g', hg', e'⟩
    rcases List.mem_append.1 hg' with hg' | hg'
    ·exact ⟨g', hg', e'⟩
    ·rw [List.mem_singleton.1 hg'] at e'
     exact absurd e' e
   ·rintro ⟨g', hg', e'⟩
    exact ⟨g', List.mem_append_left _ hg', e'⟩
 ·rcases List.mem_append.1 hx with hx | hx
  ·exact h.each x hx
  ·rw [List.mem_singleton.1 hx]; exact hg
theorem ColG.len {w0 : World} {base : Nat} {D : DataW Unit} {left : Lit → Bool} {key : Nat → Nat} {part : List Nat} {gs : List Gr} (h : ColG w0 base D left key part gs) : gs.length ≤ 200 := by
 have hp : (gs.map Gr.key).Perm ((List.range 200).filter fun k => decide (k ∈ gs.map Gr.key)) := by
  refine (List.perm_ext_iff_of_nodup h.nodup (List.Pairwise.filter _ List.nodup_range)).2 fun k => ?_
  rw [List.mem_filter, List.mem_range, decide_eq_true_eq]
  constructor
  ·intro hk
   obtain ⟨g, hg, rfl⟩ := List.mem_map.1 hk
   exact ⟨(h.each g hg).1, hk⟩
  ·exact fun h => h.2
 have h1 := hp.length_eq
 rw [List.length_map] at h1
 have h2 := List.length_filter_le (fun k => decide (k ∈ gs.map Gr.key)) (List.range 200)
 rw [List.length_range] at h2
 omega
theorem ColG.all {w0 : World} {base : Nat} {D : DataW Unit} {left : Lit → Bool} {key : Nat → Nat} {part : List Nat} {gs : List Gr} (h : ColG w0 base D left key part gs) (hD : AtG D key part) (hl : ∀ kl, left kl = false) :
 ∀ p : Nat × List Nat, p ∈ gs.map plG ↔ p.1 < 200 ∧ p.2 = selP key part p.1 ∧ p.2 ≠ [] := by
 intro p
 constructor
 ·intro hp
  obtain ⟨g, hg, rfl⟩ := List.mem_map.1 hp
  obtain ⟨h1, h2, h3, _⟩ := h.each g hg
  exact ⟨h1, h2, h3⟩
 ·rintro ⟨h1, h2, h3⟩
  have hhas : Maps.has D (.int .i64 (p.1 : Int)) = true := by
   rw [hD.has, selI_nat, ← h2]
   simp [h3]
  obtain ⟨g, hg, e⟩ := (h.mem (p.1 : Int)).2 ⟨hhas, hl _⟩
  have e' : g.key = p.1 := by omega
  refine List.mem_map.2 ⟨g, hg, ?_⟩
  unfold plG
  rw [(h.each g hg).2.1, e', ← h2]
theorem came {D : DataW Unit} {key : Nat → Nat} {part : List Nat} (hD : AtG D key part) (hlt : ∀ i ∈ part, key i < 200) {w0 : World} {base : Nat} {x : Int} {A : Option Addr} {l c : Nat} {y : DataW Unit × List MemPlace}
 (hR : rowElem (H := Unit) w0 base 3 .i64 (.slice A l c) = some y) (hat : ∀ zd, D.atKey (.int .i64 x) zd = y.1) :
 ∃ g : Gr, (g.key : Int) = x ∧ g.A = A ∧ g.part.length = l ∧ g.c = c ∧ Maps.has D (.int .i64 (g.key : Int)) = true ∧ (g.key < 200 ∧ g.part = selP key part g.key ∧ g.part ≠ [] ∧ w0.ownsRow base 3 1 (.slice g.A g.part.length g.c) g.part.length (natV g.part)) := by
 obtain ⟨zs, ho, rfl⟩ := rowElem_inv hR
 have hzs := hD.owned ho (hat .nil)
 have hhas : Maps.has D (.int .i64 x) = true := has_true_of_atKey hat
 have hne : selI key part x ≠ [] := by
  intro h0
  rw [hD.has, h0] at hhas
  cases hhas
 obtain ⟨z, hz⟩ := List.exists_mem_of_ne_nil _ hne
 unfold selI at hz
 obtain ⟨i, hi, _⟩ := List.mem_map.1 hz
 obtain ⟨hi1, hi2⟩ := List.mem_filter.1 hi
 have hx : (key i : Int) = x := by simpa using hi2
 subst hx
 rw [selI_nat] at hzs hne
 have hl := own_len ho.1
 obtain ⟨A', c', e⟩ := own_form ho.1
 injection e with e1 e2 e3
 have hll : (selP key part (key i)).length = l := by rw [e2, hzs, List.length_map]
 refine ⟨⟨key i, A, selP key part (key i), c⟩, rfl, rfl, hll, rfl, hhas, hlt i hi1, rfl, fun h0 => hne (by have h1 : selP key part (key i) = [] := h0; rw [h1]; rfl), ?_⟩
 have h1 := ho.1
 rw [hzs, natV_ints, List.length_map] at h1
 dsimp only
 rw [hll] at h1 ⊢
 exact h1
set_option maxRecDepth 100000 in
set_option maxHeartbeats 8000000 in
theorem groups_any (gb : Nat) (Af Al Ap : Option Addr) (fs : List Fa) (cf cl cp : Nat) (rs : List Rn) (po pm pe : Value) (at_ tier : Nat) (r : Rn) (lf : Fa) (part : List Nat) (key : Nat → Nat) (w : World)
 (hbox : Box w gb 92 #[.slice Af fs.length cf, .slice Al rs.length cl, po, pm, pe]) (hk : KeyAt w Af fs Al rs at_ tier r lf part key) (hp : Row w w.heap.size Ap (natV part)) (hne : part ≠ []) (hn : part.length ≤ 1000000) :
 Calls Tryz.prog 65 #[.pointer (some ⟨gb, 0, none⟩), .int .i64 (at_ : Nat), .int .i64 (tier : Nat), .slice Ap part.length cp] w (GrsRet (groupsP key part) w) := by
 have hmm := @run_makeMap Tryz.prog
 obtain ⟨i0, ti0, tz0, tz1, tz2⟩ := info_parts info_int
 obtain ⟨j0, si0, sz0, sz1, sz2⟩ := info_parts info_group
 have HQ := kp (show ∀ A c (gs : List Gr) w', gs.map plG = groupsP key part → w'.ownsRow w.heap.size 146 2 (.slice A gs.length c) gs.length (gs.flatMap grV) → (∀ g ∈ gs, Row w' w'.heap.size g.A (natV g.part) ∧ From w.heap.size g.A (natV g.part)) → Below w.heap.size w w' → GrsRet (groupsP key part) w (.returned (.slice A gs.length c)) w' from fun A c gs w' h1 h2 h3 h4 => ⟨A, c, gs, rfl, h1, h2, h3, h4⟩)
 generalize hQ : GrsRet (groupsP key part) w = Q at *
 clear hQ
 have Hk := kp hk
 have Hp := kp hp
 have Hbox := kp hbox
 obtain ⟨bl, ol, hA, hbl, l0⟩ := Row.at_ hk.lifts.row (k := at_) (by rw [List.length_map]; exact (List.getElem?_eq_some_iff.1 hk.dim).1)
 subst hA
 rw [List.getElem_map, (List.getElem?_eq_some_iff.1 hk.dim).2] at l0
 have hrm := hk.lifts.each r (List.mem_of_getElem? hk.dim)
 obtain ⟨bt, ot, hA, hbt, t0⟩ := Row.at_ hrm.row (k := tier) (by rw [List.length_map]; exact (List.getElem?_eq_some_iff.1 hk.tier).1)
 rw [List.getElem_map, (List.getElem?_eq_some_iff.1 hk.tier).2] at t0
 have Hlf := kp (hrm.each lf (List.mem_of_getElem? hk.tier))
 have hat := (List.getElem?_eq_some_iff.1 hk.dim).1
 have htr := (List.getElem?_eq_some_iff.1 hk.tier).1
 have hnr := hk.nr
 have hnt := hk.nt
 unfold runV at l0
 unfold ilV at t0
 rw [hA] at l0
 clear hrm hA hk hp hbox
 obtain ⟨nl, hnl⟩ : ∃ nl, lf.keys.length = nl := ⟨_, rfl⟩
 have Hnl := kp hnl
 rw [hnl] at t0
 obtain ⟨n, hN⟩ : ∃ n, part.length = n := ⟨_, rfl⟩
 have Hn := kp hN
 rw [hN] at hn ⊢
 clear hN hnl
 obtain ⟨x0, x1, x2, x3, x4⟩ : w.cell? ⟨gb, 0, none⟩ = some (.slice Af fs.length cf) ∧ w.cell? ⟨gb, 1, none⟩ = some (.slice (some ⟨bl, ol, none⟩) rs.length cl) ∧ True ∧ True ∧ True := ⟨Hbox.out.cell 0, Hbox.out.cell 1, trivial, trivial, trivial⟩
 have a0 : (0 : Int) ≤ (at_ : Int) := by omega
 have a1 : (at_ : Int) < (rs.length : Int) := by omega
 have a2 : (0 : Int) ≤ (tier : Int) := by omega
 have a3 : (tier : Int) < (r.fs.length : Int) := by omega
 go_enter Tryz.func65, Tryz.ntmps65
 go_wp2_with fail
 clear x0 x1 l0 t0
 go_loopw [30] (fun v30 wr => ∃ (k : Nat) (D : DataW Unit), k ≤ n ∧ v30 = .int .i64 k ∧ wr.ownsGroups Tryz.prog 3 (w.heap.size + 1) 3 .i64 w.heap.size k D ∧ AtG D key (part.take k) ∧ Below w.heap.size w wr ∧ w.heap.size + 1 ≤ wr.heap.size) (fun v30 _ => n - (intOf v30).toNat)
 case atStart => exact ⟨0, _, Nat.zero_le _, rfl, World.ownsGroups_made _ _ _ _ _, AtG.nil key, (Below.refl _ _).alloc (Nat.le_refl _) _, by simp⟩
 case round =>
  obtain ⟨k, D, hk, rfl, hown, hatg, hbe, hws⟩ := hrel
  have Hatg := kp hatg
  have Hbe := kp hbe
  clear hatg hbe
  by_cases hlt : k < n
  ·have hkl : k < part.length := by rw [Hn.out]; exact hlt
   obtain ⟨bp, op, hA, hbp, p0⟩ := Row.at_ ((Hp.out.below Hbe.out).more Hbe.out.size) (k := k) (by rw [natV_len]; exact hkl)
   subst hA
   unfold natV at p0
   rw [List.getElem_map] at p0
   have Hnx := kp (show part.take (k + 1) = part.take k ++ [part[k]'hkl] from List.take_succ_eq_append_getElem hkl)
   obtain ⟨f, q, z, hf, hq, hz, hkz, hz2⟩ := Hk.out.key _ (List.getElem_mem hkl)
   generalize (part[k]'hkl) = i at *
   have hk' := Hk.out.below Hbe.out
   have hif := (List.getElem?_eq_some_iff.1 hf).1
   have hqf := (List.getElem?_eq_some_iff.1 hq).1
   have hzf := (List.getElem?_eq_some_iff.1 hz).1
   obtain ⟨bf, of, hA, hbf, f0, _⟩ := hk'.facts.cells i hif
   rw [(List.getElem?_eq_some_iff.1 hf).2] at f0
   have hfk := hk'.facts.keys f (List.mem_of_getElem? hf)
   obtain ⟨bq, oq, hAq, hbq, q0⟩ := Row.at_ hfk (k := at_) (by rw [natV_len]; exact hqf)
   unfold natV at q0
   rw [List.getElem_map, (List.getElem?_eq_some_iff.1 hq).2] at q0
   obtain ⟨bz, oz, hAz, hbz, z0⟩ := Row.at_ ((Hlf.out.below Hbe.out).more Hbe.out.size) (k := q) (by rw [natV_len]; exact hzf)
   unfold natV at z0
   rw [List.getElem_map, (List.getElem?_eq_some_iff.1 hz).2] at z0
   rw [hAq] at f0
   rw [hAz]
   have y0 := (Hbox.out.under Hbe.out).cell 0
   change wr.cell? ⟨gb, 0, none⟩ = some (.slice Af fs.length cf) at y0
   rw [hA] at y0
   have hnf := hk'.nf
   have hnk := hk'.nk f (List.mem_of_getElem? hf)
   have hnl2 : nl ≤ 1000000 := by rw [← Hnl.out]; exact hk'.nl
   rw [Hnl.out] at hzf
   clear hk' hfk hf hq hz hAq hAz hA
   have Hkz := kp hkz
   clear hkz
   have b0 : (0 : Int) ≤ (k : Int) := by omega
   have b1 : (k : Int) < (n : Int) := by omega
   have b2 : (0 : Int) ≤ (i : Int) := by omega
   have b3 : (i : Int) < (fs.length : Int) := by omega
   have b4 : (at_ : Int) < (f.keys.length : Int) := by omega
   have b5 : (0 : Int) ≤ (q : Int) := by omega
   have b6 : (q : Int) < (nl : Int) := by omega
   have Hkey := kp (keyOf_int_mk (P := Tryz.prog) Tryz.underlying3 (show (Lit.int .i64 (z : Int)).wf = true from WalkArith.wf_i64 (by omega)))
   have Hkm := kp (show k < maxLen by unfold maxLen; omega)
   have Hwi := kp (show (Lit.int .i64 (i : Int)).wf = true from WalkArith.wf_i64 (by omega))
   go_upto_region 7 with fail
   go_wp2_with (first
    | (at_lookup; refine wpList_lookup_groups _ rfl (.tmp 50) (.tmp 51) 179 rfl 3 41 3 .i64 intLaw Tryz.underlying179 (zeroInts _) (w.heap.size + 1) w.heap.size k D rfl hown Hkm.out (.int .i64 (z : Int)) (.int .i64 (z : Int)) rfl Hkey.out ?_; intro v zs hat1 hoi hzl hback)
    | (at_builtin; refine wpList_append_own_at _ rfl (.tmp 52) (.tmp 54) 41 rfl (w.heap.size + 1) 3 i0 (.int .i64 0) 1 8 Tryz.underlying41 ti0 tz0 tz1 tz2 rfl (by decide) v zs.length (zs.map (Value.int .i64)) rfl (hoi.1.alloc _) ⟨wr.heap.size, 0, none⟩ 1 1 [.int .i64 (i : Int)] rfl rfl (cell_one_new _ _ _) (ints_oneCell .i64 [(i : Int)]) (by unfold maxLen; omega) (by omega) (by simp; omega) ?_; intro v' w1 hown' hgrow hnil hloc)
    | (at_mapUpdate; refine wpList_mapUpdate_back _ rfl (.tmp 48) (.tmp 49) (.tmp 55) 179 rfl hback rfl rfl rfl ((World.grownBy_alloc _ _ _).trans hgrow) (hoi.appended hown' Hwi.out) (by simp; omega) (hloc.imp id (fun h => ⟨_, h, by simp⟩)) ?_; intro w2 hown2 hgrow2))
   have hzs := Hatg.out.owned hoi hat1
   have hap := hoi.appended hown' Hwi.out
   have hall := (World.grownBy_alloc wr _ _).trans hgrow
   refine ⟨⟨k + 1, D.put (.int .i64 (z : Int)) (rowDatum .i64 v' (zs ++ [(i : Int)])), by omega, by go_num, hown2, ?_, Hbe.out.groups hoi hall hgrow2 Hbe.out.size (Nat.le_succ _) (Nat.le_refl _), Nat.le_trans hws (Nat.le_trans hall.size hgrow2.size)⟩, by simp [intOf]; omega⟩
   have hput := Hatg.out.put i
   rw [Hkz.out, ← hzs, gDat_pos hap (by simp)] at hput
   rw [Hnx.out]
   exact hput
  ·obtain rfl : k = n := by omega
   have Hatf := kp (show AtG D key part by have := Hatg.out; rw [List.take_of_length_le (by rw [Hn.out]; exact Nat.le_refl _)] at this; exact this)
   obtain ⟨es, cl0, g1, g2, g3, g4, g5, g6, g7⟩ := hown
   have hownM : wr.ownsMap Tryz.prog 3 (rowElem (H := Unit) wr (w.heap.size + 1) 3 .i64) w.heap.size k D := ⟨es, cl0, g1, g2, g3, g4⟩
   have Hcap := kp (show ∀ v zs, rowElem (H := Unit) wr (w.heap.size + 1) 3 .i64 v = some (rowDatum .i64 v zs, rowPlaces v) → True from fun _ _ _ => trivial)
   clear g1 g2 g3 g4 g5 g6 g7
   go_wp2_with (at_range; refine wpList_range_own _ rfl (.tmp 57) 179 rfl 3 41 intLaw Tryz.underlying179 _ w.heap.size k D rfl hownM ?_; intro w0 hrg0 hg0 hs0)
   go_frame
   have Hbe0 := kp (show Below wr.heap.size wr w0 from (Below.refl _ _).grown hg0 (Nat.le_refl _) (fun j hj => by cases hj))
   have Hr0 := kp (show wr.heap.size < w0.heap.size by omega)
   obtain ⟨WR, rfl⟩ : ∃ WR, WR = wr := ⟨_, rfl⟩
   have Hlt2 := kp (show ∀ i ∈ part, key i < 200 from fun i hi => by obtain ⟨f, q, z, _, _, _, e1, e2⟩ := Hk.out.key i hi; omega)
   have Hws := kp hws
   clear hownM hg0 hs0 Hcap hws
   go_loopw [14] (fun v14 w5 => ∃ (left : Lit → Bool) (cnt : Nat) (gs : List Gr) (A : Option Addr) (c : Nat), v14 = .slice A gs.length c ∧ w5.ranges Tryz.prog 3 (rowElem (H := Unit) WR (w.heap.size + 1) 3 .i64) w.heap.size WR.heap.size k D left cnt ∧ w5.ownsRow (WR.heap.size + 1) 146 2 (.slice A gs.length c) gs.length (gs.flatMap grV) ∧ ColG WR (w.heap.size + 1) D left key part gs ∧ Below WR.heap.size WR w5 ∧ WR.heap.size < w5.heap.size) (fun _ w5 => w5.rangeLeft w.heap.size WR.heap.size)
   case atStart => exact ⟨_, _, [], none, 0, rfl, hrg0, own_nil _ _ _ _, ColG.start _ _ _ _ _, Hbe0.out, Hr0.out⟩
   case round =>
    obtain ⟨left, cnt, gs, A, c, rfl, hrg, hgo, hcol, hb5, hr5⟩ := hrel
    have Hgo := kp hgo
    have Hcol := kp hcol
    have Hb5 := kp hb5
    have Hr5 := kp hr5
    clear hgo hcol hb5 hr5
    have hm2 := Hcol.out.len
    obtain ⟨m, hm⟩ : ∃ m, gs.length = m := ⟨_, rfl⟩
    have Hm := kp hm
    rw [hm] at Hgo hm2 ⊢
    clear hm
    go_wp2_with (at_next; refine wpList_next_ranges _ rfl (.tmp 58) rfl 3 intLaw (rowElem (H := Unit) WR (w.heap.size + 1) 3 .i64) (Value.int .i64) (fun p : Option Addr × Nat × Nat => Value.slice p.1 p.2.1 p.2.2) (fun key kl hk => by obtain ⟨x, hx, _⟩ := Maps.keyOf_int_inv Tryz.underlying3 hk; exact ⟨x, hx⟩) (fun v y hv => by obtain ⟨zs, ho, _⟩ := rowElem_inv hv; obtain ⟨A', c', e⟩ := own_form ho.1; exact ⟨(A', zs.length, c'), e⟩) w.heap.size WR.heap.size k D left cnt rfl hrg ?_ ?_)
    ·intro hc0 hl0
     have Hall := kp (Hcol.out.all Hatf.out hl0)
     have Hnd := kp (show ((gs.map plG).map Prod.fst).Nodup by rw [List.map_map]; exact Hcol.out.nodup)
     have hm0 : m ≠ 0 := by
      intro h0
      have h1 : gs = [] := List.length_eq_zero_iff.1 (Hm.out.trans h0)
      obtain ⟨i, hi⟩ := List.exists_mem_of_ne_nil _ hne
      have h2 : selP key part (key i) ≠ [] := by
       intro h2
       have : i ∈ selP key part (key i) := List.mem_filter.2 ⟨hi, by simp⟩
       rw [h2] at this
       cases this
      have := (Hall.out (key i, selP key part (key i))).2 ⟨Hlt2.out i hi, rfl, h2⟩
      rw [h1] at this
      cases this
     obtain ⟨g, hgA, hgB⟩ : ∃ g, A = some ⟨g, 0, none⟩ ∧ WR.heap.size + 1 ≤ g := by
      rcases Hgo.out.2 with ⟨_, h0⟩ | ⟨g, cap, cur, hv, hB, _⟩
      ·exact absurd h0 hm0
      ·injection hv with hv _ _
       exact ⟨g, hv, hB⟩
     subst hgA
     have HS := kp (sortG_any g c (WR.heap.size + 1) gs wr (by rw [Hm.out]; omega) (by rw [Hm.out]; exact Hgo.out))
     rw [Hm.out] at HS
     have HF := kp (show ∀ (gs' : List Gr) w', gs'.Perm gs → gs'.Pairwise (fun a b => a.key ≤ b.key) → w'.ownsRow (WR.heap.size + 1) 146 2 (.slice (some ⟨g, 0, none⟩) m c) m (gs'.flatMap grV) → Turn (fun k => k = g) wr w' → Q (.returned (.slice (some ⟨g, 0, none⟩) m c)) w' from fun gs' w' hp hs ho ht => by
      have hl : gs'.length = m := by rw [hp.length_eq]; exact Hm.out
      have hbw : Below WR.heap.size wr w' := ht.toBelow (fun k hk => by omega) (Nat.le_of_lt Hr5.out)
      have h3 : ∀ g ∈ gs', Row w' w'.heap.size g.A (natV g.part) ∧ From w.heap.size g.A (natV g.part) := fun x hx => by
       have h4 := (Hcol.out.each x (hp.mem_iff.1 hx)).2.2.2
       refine ⟨((row_ownK h4).below (Hb5.out.trans hbw)).more (Nat.le_trans Hb5.out.size ht.size), From.own h4 (Nat.le_succ _)⟩
      have := HQ.out (some ⟨g, 0, none⟩) c gs' w' (groups_eq ((hp.map plG).map Prod.fst |>.nodup_iff.2 Hnd.out) (List.pairwise_map.2 hs) (fun p => ((hp.map plG).mem_iff).trans (Hall.out p))) (by rw [hl]; exact own_base ho (by have := Hbe.out.size; omega)) h3 ((Hbe.out.trans (Hb5.out.mono Hbe.out.size)).trans (hbw.mono Hbe.out.size))
      rw [hl] at this
      exact this)
     clear hrg
     go_wp2_with fail
     refine HS.out.mono ?_
     rintro e w9 ⟨rfl, gs', hp, hs, ho, ht⟩
     have Hfin := kp (HF.out gs' w9 hp hs (by rw [Hm.out] at ho; exact ho) ht)
     clear hp hs ho ht
     go_wp2_with fail
     exact Hfin.out
    ·intro x pA pl pc kl yd yp w6 cnt6 hkey hlk hR hat hrg6 hlt6 hg6 hs6 hen
     obtain ⟨x', hx', hkl, hwx⟩ := Maps.keyOf_int_inv Tryz.underlying3 hkey
     injection hx' with _ hx'
     subst hx' hkl
     obtain ⟨g, rfl, rfl, rfl, rfl, hhas, hgg⟩ := came Hatf.out Hlt2.out hR hat
     have Hcol6 := kp (Hcol.out.step hhas hlk hgg)
     have Hb6 := kp (show Below WR.heap.size WR w6 from Hb5.out.grown hg6 Hb5.out.size (fun j hj => by cases hj; exact Nat.le_refl _))
     have Hgo6 := kp (show w6.ownsRow (WR.heap.size + 1) 146 2 (.slice A m c) m (gs.flatMap grV) from Hgo.out.kept hg6 (by
      rcases ho : (Value.slice A m c).ownBlock with _ | j
      ·exact .inl rfl
      ·refine .inr fun e => ?_
       have h1 := (Hgo.out.lt j ho).1
       injection e with e
       omega))
     have Hr6 := kp (show WR.heap.size + 1 ≤ w6.heap.size by rw [hs6]; exact Hr5.out)
     have Hleft := kp hrg.left_eq
     have Hlt6 := kp hlt6
     have Hrg6 := kp hrg6
     have hk1 : m + 1 < 1048576 * 64 := by omega
     clear hkey hlk hR hat hhas hgg hrg hrg6 hlt6 hg6 hs6 hwx
     go_wp2_with (at_builtin; refine wpList_appK rfl (.tmp 64) (.tmp 68) 143 rfl (WR.heap.size + 1) 146 j0 _ 2 32 Tryz.underlying143 si0 sz0 sz1 sz2 rfl (by decide) w6 (grC g) rfl (gr_one g) (.slice A m c) m (gs.flatMap grV) rfl Hgo6.out rfl hk1 (by decide) Hr6.out ?_; intro v7 w7 hown7 happ7; obtain ⟨A7, c7, h7⟩ := own_formK hown7; subst h7; have Hown7 := kp hown7; have Hap7 := kp happ7; clear hown7 happ7)
     have hno : ∀ j, j ≤ WR.heap.size → some j ≠ (Value.slice A m c).ownBlock := fun j hj e => by
      have := (Hgo6.out.lt j e.symm).1
      omega
     have hrg7 := Hrg6.out.kept Hap7.out.grown (hno _ (by have := Hws.out; omega)) (hno _ (Nat.le_refl _))
     have hl : (gs ++ [g]).length = m + 1 := by rw [List.length_append, Hm.out]; rfl
     refine ⟨⟨_, cnt6, gs ++ [g], A7, c7, by rw [hl], hrg7, ?_, Hcol6.out, ?_, ?_⟩, ?_⟩
     ·rw [hl, List.flatMap_append]
      exact Hown7.out
     ·exact Hb6.out.grown Hap7.out.grown Hb6.out.size (fun j hj => by have := (Hgo6.out.lt j hj).1; omega)
     ·have h1 := Hap7.out.grown.size
      have h2 := Hr6.out
      omega
     ·rw [hrg7.left_eq, Hleft.out]
      exact Hlt6.out
end Go.Proofs.YthmbgbmcdbdecaaGreat.Tc
