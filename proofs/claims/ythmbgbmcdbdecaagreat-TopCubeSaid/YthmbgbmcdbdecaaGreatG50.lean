/- Parts of a proof: The whole cube in plain words: each way tells its rows. The whole cube in plain words: what is asked of it. The cube of 'plain', in plain words. A cube as it lies in memory: what is asked of it. -/
import Derived.Test.YthmbgbmcdbdecaaGreatG39
import Derived.Test.YthmbgbmcdbdecaaGreatG42
import Derived.Test.YthmbgbmcdbdecaaGreatG46
import Derived.Test.YthmbgbmcdbdecaaGreatG47
import Derived.Test.YthmbgbmcdbdecaaGreatG49
namespace Go.Proofs.YthmbgbmcdbdecaaGreat.Tc
open Go.RowKit Base
set_option linter.unusedVariables false
set_option linter.unusedSimpArgs false
def under (s : Sch) (fs : List Fa) (p : Pos) (d i : Nat) : Bool := decide (p.tier < 0) || (((liftN ((s.dims[d]?).getD ⟨⟨#[]⟩, none, [], 0⟩) p.tier.toNat (keyF (pls fs) d i) : Nat) : Int) == p.key)
def selW (s : Sch) (fs : List Fa) : List Pos → Nat → List Nat → List Nat
 | [], _, part => part
 | p :: l, a, part => selW s fs l (a + 1) (part.filter (under s fs p a))
theorem selW_nil (s : Sch) (fs : List Fa) : ∀ (l : List Pos) (a : Nat), selW s fs l a [] = []
 | [], _ => rfl
 | p :: l, a => selW_nil s fs l (a + 1)
section
variable {s : Sch} {fs : List Fa} {st : St}
theorem CubeS.ask (h : CubeS s fs st) (hs : SchOk s) (hf : FactsOk s fs) {a i : Nat} {part : List Nat} (hp : st.parts[i]? = some (a, part)) {d : Dim} (hd : s.dims[a]? = some d) {p : Pos} (hin : PosIn d p) :
 ∃ n, st.nodes[i]? = some n ∧ n.dim = a ∧ AskOk p n ∧ p.tier < (n.lists.length : Int) ∧ 1 ≤ n.lists.length ∧
  (part.filter (under s fs p a) = [] → askC p n = none) ∧ (part.filter (under s fs p a) ≠ [] → ∃ c k, askC p n = some c ∧ RepC (pls fs) (decide (a + 1 = s.dims.length)) st a k (part.filter (under s fs p a)) c) := by
 have hpl : (pls fs).length = fs.length := by unfold pls; rw [List.length_map]
 have had := (List.getElem?_eq_some_iff.1 hd).1
 have ho := dim_at hs hd
 obtain ⟨_, _, _, hpt, _⟩ := h.node hp
 have hlt : ∀ x ∈ part, x < fs.length := fun x hx => by have := hpt.lt x hx; rw [hpl] at this; exact this
 have hdd : (s.dims[a]?).getD ⟨⟨#[]⟩, none, [], 0⟩ = d := by rw [hd]; rfl
 rcases hin with ⟨h1, h2⟩ | ⟨t, q, ht, h1, h2, h3⟩
 ·obtain ⟨n, l, hn, hdim, hlen, _, _⟩ := h.row hp hd (k := 0) ho.n1
  obtain ⟨n', hn', _, _, hr⟩ := h.node hp
  rw [hn] at hn'
  injection hn' with hn'
  subst hn'
  have e : part.filter (under s fs p a) = part := List.filter_eq_self.2 (fun i hi => by unfold under; rw [h1]; rfl)
  have hask : askC p n = some n.all := by unfold askC; rw [if_pos (by omega)]
  refine ⟨n, hn, hdim, .inl (by omega), by omega, by rw [hlen]; exact ho.n1, fun he => ?_, fun _ => ⟨_, 0, hask, by rw [e]; exact hr.all⟩⟩
  rw [e] at he
  exact absurd he hpt.ne
 ·obtain ⟨n, l, hn, hdim, hlen, hl, hrow⟩ := h.row hp hd (k := t) ht
  have ek : ∀ x ∈ part, under s fs p a x = (keyL (pls fs) (mapN d t) a x == q) := fun x hx => by
   unfold under
   rw [hdd, h1, h2, keyL_eq hs hf (hlt x hx) hd, decide_eq_false (by omega : ¬ (t : Int) < 0), Bool.false_or, Int.toNat_natCast]
   rw [Bool.eq_iff_iff]
   simp only [beq_iff_eq]
   omega
  have esel : part.filter (under s fs p a) = selP (keyL (pls fs) (mapN d t) a) part q := by
   unfold selP
   exact List.filter_congr ek
  have hq200 : q < 200 := by have := (ho.tiers t ht).n2; omega
  have hkey : ∀ (j : Nat) (hj : j < l.length), ∃ g, (groupsP (keyL (pls fs) (mapN d t) a) part)[j]? = some g ∧ l[j].key = g.1 ∧ RepC (pls fs) (decide (a + 1 = s.dims.length)) st a g.1 g.2 l[j] := fun j hj => by
   obtain ⟨g, hg, hr⟩ := RepL.left hrow (List.getElem?_eq_getElem hj)
   exact ⟨g, hg, hr.1, hr⟩
  have hrise : ∀ j (hj : j + 1 < l.length), l[j].key < l[j + 1].key := fun j hj => by
   obtain ⟨g1, e1, k1, _⟩ := hkey j (by omega)
   obtain ⟨g2, e2, k2, _⟩ := hkey (j + 1) hj
   obtain ⟨i1, f1⟩ := List.getElem?_eq_some_iff.1 e1
   obtain ⟨i2, f2⟩ := List.getElem?_eq_some_iff.1 e2
   have := List.pairwise_iff_getElem.1 (groups_rise (keyL (pls fs) (mapN d t) a) part) j (j + 1) i1 i2 (by omega)
   rw [k1, k2, ← f1, ← f2]
   exact this
  have hl200 := (h.lists hs hn).2.2 l (List.mem_of_getElem? hl)
  have hask : askC p n = cellAt l q := by
   unfold askC
   rw [if_neg (by omega), h1, h2, Int.toNat_natCast, Int.toNat_natCast, hl]
   rfl
  refine ⟨n, hn, hdim, .inr ⟨t, q, l, h1, h2, hl, by omega, hrise⟩, by omega, by rw [hlen]; exact ho.n1, fun he => ?_, fun hne => ?_⟩
  ·rw [hask]
   refine cellAt_none (fun j hj e => ?_)
   obtain ⟨g, hg, k1, _⟩ := hkey j hj
   have hgm := mem_groups.1 (List.mem_of_getElem? hg)
   rw [← k1, e, ← esel, he] at hgm
   exact hgm.2.2 hgm.2.1
  ·rw [esel] at hne ⊢
   have hg : (q, selP (keyL (pls fs) (mapN d t) a) part q) ∈ groupsP (keyL (pls fs) (mapN d t) a) part := mem_groups.2 ⟨hq200, rfl, hne⟩
   obtain ⟨j, hj, e⟩ := List.getElem_of_mem hg
   have hjl : j < l.length := by rw [← hrow.1]; exact hj
   obtain ⟨g, hg', k1, hr⟩ := hkey j hjl
   rw [List.getElem?_eq_getElem hj, e] at hg'
   injection hg' with hg'
   subst hg'
   dsimp only at k1
   refine ⟨l[j], q, ?_, hr⟩
   rw [hask, ← k1]
   exact cellAt_some hrise hjl
theorem CubeS.along (h : CubeS s fs st) (hs : SchOk s) (hf : FactsOk s fs) : ∀ (l : List Pos) (a i : Nat) (part : List Nat) (c0 : Cl), l ≠ [] → st.parts[i]? = some (a, part) → a + l.length = s.dims.length → (∀ (j : Nat) (p : Pos) (d : Dim), l[j]? = some p → s.dims[a + j]? = some d → PosIn d p) →
 WalkOk st.nodes l a i ∧ (selW s fs l a part = [] → alongV st.nodes l i c0 = none) ∧ (selW s fs l a part ≠ [] → ∃ c, alongV st.nodes l i c0 = some c ∧ c.ag = (sumP (pls fs) (selW s fs l a part)).getD agZero)
 | [], a, i, part, c0, hne, _, _, _ => absurd rfl hne
 | p :: l, a, i, part, c0, _, hp, hlen, hin => by
  rw [List.length_cons] at hlen
  have had : a < s.dims.length := by omega
  have hd := List.getElem?_eq_getElem had
  obtain ⟨n, hn, hdim, k1, k2, k3, k4, k5⟩ := h.ask hs hf hp hd (hin 0 p _ rfl (by rw [Nat.add_zero]; exact hd))
  have hin' : ∀ (j : Nat) (p' : Pos) (d : Dim), l[j]? = some p' → s.dims[a + 1 + j]? = some d → PosIn d p' := fun j p' d h1 h2 => hin (j + 1) p' d h1 (by rw [show a + (j + 1) = a + 1 + j by omega]; exact h2)
  have ev : alongV st.nodes (p :: l) i c0 = (askC p n).bind fun d => alongV st.nodes l d.child d := by
   show (match st.nodes[i]? with | none => none | some n => (askC p n).bind fun d => alongV st.nodes l d.child d) = _
   rw [hn]
  show (∃ n, st.nodes[i]? = some n ∧ n.dim = a ∧ AskOk p n ∧ p.tier < (n.lists.length : Int) ∧ 1 ≤ n.lists.length ∧ ∀ d, askC p n = some d → WalkOk st.nodes l (a + 1) d.child) ∧ _
  rw [ev]
  show _ ∧ (selW s fs l (a + 1) (part.filter (under s fs p a)) = [] → _) ∧ (selW s fs l (a + 1) (part.filter (under s fs p a)) ≠ [] → ∃ c : Cl, _ = some c ∧ c.ag = (sumP (pls fs) (selW s fs l (a + 1) (part.filter (under s fs p a)))).getD agZero)
  by_cases he : part.filter (under s fs p a) = []
  ·rw [k4 he, he, selW_nil]
   exact ⟨⟨n, hn, hdim, k1, k2, k3, fun d hd' => by rw [k4 he] at hd'; cases hd'⟩, fun _ => rfl, fun hh => absurd rfl hh⟩
  ·obtain ⟨c, k, hc, hrep⟩ := k5 he
   rw [hc]
   have h2 := hrep.2
   by_cases hl : l = []
   ·subst hl
    simp only [List.length_nil] at hlen
    rw [if_pos (decide_eq_true (by omega))] at h2
    refine ⟨⟨n, hn, hdim, k1, k2, k3, fun d hd' => trivial⟩, fun hh => absurd hh he, fun _ => ⟨c, rfl, h2.2⟩⟩
   ·rw [if_neg (by
     intro hh
     have := of_decide_eq_true hh
     exact hl (List.length_eq_zero_iff.1 (by omega)))] at h2
    obtain ⟨m1, m2, m3⟩ := h.along hs hf l (a + 1) c.child _ c hl h2.2 (by omega) hin'
    refine ⟨⟨n, hn, hdim, k1, k2, k3, fun d hd' => ?_⟩, m2, m3⟩
    rw [hc] at hd'
    injection hd' with hd'
    subst hd'
    exact m1
theorem selW_all (hf : FactsOk s fs) : ∀ (l : List Pos) (a : Nat) (part : List Nat) (way : List Pos), way.drop a = l → a + l.length = s.dims.length → (∀ x ∈ part, x < fs.length) → selW s fs l a part = part.filter fun i => (List.range' a l.length).all (okAt s (keysI fs i) way)
 | [], a, part, way, hw, hl, hx => by
  show part = _
  exact (List.filter_eq_self.2 (fun i _ => rfl)).symm
 | p :: l, a, part, way, hw, hl, hx => by
  rw [List.length_cons] at hl
  have had : a < s.dims.length := by omega
  have hwa : way[a]? = some p := by
   have : (way.drop a)[0]? = some p := by rw [hw]; rfl
   rw [List.getElem?_drop, Nat.add_zero] at this
   exact this
  have hw' : way.drop (a + 1) = l := by
   have := congrArg (List.drop 1) hw
   rw [List.drop_drop] at this
   exact this
  show selW s fs l (a + 1) (part.filter (under s fs p a)) = _
  rw [selW_all hf l (a + 1) _ way hw' (by omega) (fun x h => hx x (List.mem_filter.1 h).1), List.filter_filter]
  refine List.filter_congr (fun i hi => ?_)
  rw [List.length_cons, List.range'_succ, List.all_cons, Bool.and_comm]
  congr 1
  have hk := keyF_at hf (hx i hi) had
  unfold okAt under
  rw [List.getElem?_eq_getElem had, hwa, hk]
  rfl
theorem keysI_get {i : Nat} : (((pls fs)[i]?).getD ([], agZero)).1 = keysI fs i := rfl
theorem selW_match (hf : FactsOk s fs) {way : List Pos} (hw : way.length = s.dims.length) : selW s fs way 0 (List.range fs.length) = matchTo s (pls fs) way fs.length := by
 rw [selW_all hf way 0 _ way (by rw [List.drop_zero]) (by omega) (fun x h => List.mem_range.1 h)]
 unfold matchTo matchI okTo
 rw [← List.range_eq_range']
 rfl
end
theorem match_map (s : Sch) (ps : List (List Nat × Ag)) (way : List Pos) : (matchTo s ps way ps.length).map (agF ps) = (ps.filter fun x => okTo s x.1 way way.length).map Prod.snd := by
 have H : ∀ n, n ≤ ps.length → (matchTo s ps way n).map (agF ps) = ((ps.take n).filter fun x => okTo s x.1 way way.length).map Prod.snd := by
  intro n
  induction n with
  | zero => intro _; rfl
  | succ n ih =>
   intro hn
   have hlt : n < ps.length := hn
   rw [matchTo_succ, List.take_succ_eq_append_getElem hlt, List.filter_append, List.map_append, ← ih (by omega)]
   have e1 : matchI s ps way n = okTo s (ps[n]).1 way way.length := by unfold matchI; rw [List.getElem?_eq_getElem hlt]; rfl
   have e2 : agF ps n = (ps[n]).2 := by unfold agF; rw [List.getElem?_eq_getElem hlt]; rfl
   rw [e1]
   simp only [List.filter_cons, List.filter_nil]
   by_cases hk : okTo s (ps[n]).1 way way.length = true
   ·rw [if_pos hk, if_pos hk, List.map_append]
    simp [e2]
   ·rw [if_neg hk, if_neg hk]
    simp
 have := H ps.length (Nat.le_refl _)
 rw [List.take_of_length_le (Nat.le_refl _)] at this
 exact this
theorem match_sum (s : Sch) (ps : List (List Nat × Ag)) (way : List Pos) : sumP ps (matchTo s ps way ps.length) = sumK (fun k => okTo s k way way.length) ps := by
 unfold sumP sumK
 rw [match_map]
theorem match_any (s : Sch) (ps : List (List Nat × Ag)) (way : List Pos) : matchTo s ps way ps.length ≠ [] ↔ ∃ x ∈ ps, okTo s x.1 way way.length = true := by
 have h := congrArg List.length (match_map s ps way)
 rw [List.length_map, List.length_map] at h
 constructor
 ·intro hne
  have : 0 < (ps.filter fun x => okTo s x.1 way way.length).length := by rw [← h]; exact List.length_pos_iff.2 hne
  obtain ⟨x, hx⟩ := List.exists_mem_of_length_pos this
  obtain ⟨h1, h2⟩ := List.mem_filter.1 hx
  exact ⟨x, h1, h2⟩
 ·rintro ⟨x, hx, hk⟩ he
  have : x ∈ ps.filter fun x => okTo s x.1 way way.length := List.mem_filter.2 ⟨hx, hk⟩
  rw [he] at h
  have := List.length_pos_of_mem this
  simp at h
  omega
def RecMost (most : Nat) (g : Rec) : Prop := ∀ part st r, g part st = some r → st.nodes.length ≤ most → r.1.nodes.length ≤ most
theorem nodeV_most {ps : List (List Nat × Ag)} {f : Option Rec} {most : Nat} {at_ : Nat} {lifts : List (List (List Nat))} : RecMost most (nodeV ps lifts most f at_) := by
 intro part st r h hn
 unfold nodeV at h
 split at h
 ·injection h with h
  subst h
  exact hn
 ·obtain ⟨q, hq, h⟩ := Option.bind_eq_some_iff.1 h
  obtain ⟨x, hx, h⟩ := Option.bind_eq_some_iff.1 h
  split at h
  ·rename_i hlt
   injection h with h
   subst h
   dsimp only
   rw [List.length_append]
   exact hlt
  ·cases h
theorem visit_most {ps : List (List Nat × Ag)} {lifts : List (List (List Nat))} {most nd : Nat} : ∀ {d : Nat}, RecMost most (visit ps lifts most nd d)
 | 0 => nodeV_most (f := none)
 | d + 1 => nodeV_most (f := some (visit ps lifts most nd d))
theorem cube_most {s : Sch} {fs : List Fa} {most : Nat} {ns : List PNode} (h : cubeV s fs most = some ns) : ns.length ≤ most := by
 unfold cubeV at h
 split at h
 ·injection h with h; subst h; exact Nat.zero_le _
 ·obtain ⟨r, hr, rfl⟩ := Option.map_eq_some_iff.1 h
  exact visit_most _ _ _ hr (Nat.zero_le _)
theorem cube_nil {s : Sch} {most : Nat} {ns : List PNode} (h : cubeV s [] most = some ns) : ns = [] := by
 unfold cubeV at h
 rw [if_pos rfl] at h
 injection h with h
 exact h.symm
structure CubeOk (s : Sch) (fs : List Fa) (ns : List PNode) : Prop where
 whl : Whl s.dims.length ns
 small : ∀ n ∈ ns, n.lists.length ≤ 4 ∧ ∀ l ∈ n.lists, l.length ≤ 1000
 tree : ns ≠ [] → TreeW ns (s.dims.length - 1) (ns.length - 1)
 tuples : (factsT s.dims.length ns).length = fs.length
 way : ∀ way : List Pos, way.length = s.dims.length → WayTo s way → (ns ≠ [] → WalkOk ns way 0 (ns.length - 1)) ∧ (matchTo s (pls fs) way fs.length = [] → pointV ns way = none) ∧ (matchTo s (pls fs) way fs.length ≠ [] → ∃ c, pointV ns way = some c ∧ c.ag = (sumP (pls fs) (matchTo s (pls fs) way fs.length)).getD agZero)
theorem cube_ok {s : Sch} {fs : List Fa} {most : Nat} {ns : List PNode} (hs : SchOk s) (hf : FactsOk s fs) (h : cubeV s fs most = some ns) : CubeOk s fs ns := by
 by_cases hne : fs = []
 ·subst hne
  have := cube_nil h
  subst this
  refine ⟨⟨fun i n hn => by simp at hn, fun n hn => by simp at hn, fun j hj => by simp at hj, fun n hn => (by cases hn)⟩, fun n hn => (by cases hn), fun hh => absurd rfl hh, rfl, fun way _ _ => ⟨fun hh => absurd rfl hh, fun _ => ?_, fun hh => absurd rfl hh⟩⟩
  unfold pointV
  rw [if_pos rfl]
 ·obtain ⟨st, rfl, hst⟩ := cube_state hs hne h
  have hn1 := hs.n1
  have hpos := hst.pos
  have hnn : st.nodes ≠ [] := fun e => by rw [e] at hpos; simp at hpos
  refine ⟨hst.whl, fun n hn => ?_, fun _ => hst.treeW hs _ _ 0 _ hst.top (by omega), hst.tuples hs hf, fun way hl hw => ?_⟩
  ·obtain ⟨i, hi, rfl⟩ := List.getElem_of_mem hn
   obtain ⟨_, h2, h3⟩ := hst.lists hs (List.getElem?_eq_getElem hi)
   exact ⟨h2, fun l hl => Nat.le_trans (h3 l hl) (by omega)⟩
  ·obtain ⟨k1, k2, k3⟩ := hst.along hs hf way 0 (st.nodes.length - 1) (List.range fs.length) clZero (fun e => by rw [e] at hl; simp at hl; omega) hst.top (by omega) (fun j p d h1 h2 => hw j d p (by rw [Nat.zero_add] at h2; exact h2) h1)
   rw [selW_match hf hl] at k2 k3
   unfold pointV
   rw [if_neg hnn]
   exact ⟨fun _ => k1, k2, k3⟩
theorem CubeOk.nodes {s : Sch} {fs : List Fa} {nds : List Nd} (h : CubeOk s fs (nds.map plN)) : (∀ n ∈ nds, NdSm n) ∧ ∀ n ∈ nds, ∀ l ∈ n.ls, l.cs.length ≤ 1000 := by
 have H : ∀ n ∈ nds, n.ls.length ≤ 4 ∧ ∀ l ∈ n.ls, l.cs.length ≤ 1000 := fun n hn => by
  obtain ⟨h1, h2⟩ := h.small (plN n) (List.mem_map_of_mem hn)
  refine ⟨?_, fun l hl => h2 l.cs (List.mem_map_of_mem hl)⟩
  have : (plN n).lists.length = n.ls.length := by unfold plN; rw [List.length_map]
  omega
 exact ⟨fun n hn => ⟨(H n hn).1, fun l hl => Nat.le_trans ((H n hn).2 l hl) (by omega)⟩, fun n hn => (H n hn).2⟩
theorem CubeOk.cells {s : Sch} {fs : List Fa} {ns : List PNode} (h : CubeOk s fs ns) (hn : ns.length ≤ 200000) : sumC ns ≤ ((treesP s.dims.length ns).getLast?).getD 0 := by
 by_cases he : ns = []
 ·subst he; exact Nat.zero_le _
 ·refine tree_sum h.whl (List.length_pos_iff.2 he) ?_
  have h1 := sumC_le (P := ns) (b := 4001) (fun n hn => by
   obtain ⟨h1, h2⟩ := h.small n hn
   unfold countP
   have H : ∀ l : List (List Cl), (∀ x ∈ l, x.length ≤ 1000) → (l.map List.length).sum ≤ l.length * 1000 := by
    intro l
    induction l with
    | nil => intro _; exact Nat.zero_le _
    | cons x l ih =>
     intro hx
     have := ih (fun y hy => hx y (List.mem_cons_of_mem _ hy))
     have := hx x List.mem_cons_self
     rw [List.map_cons, List.sum_cons, List.length_cons, Nat.succ_mul]
     omega
   have := H n.lists h2
   have : n.lists.length * 1000 ≤ 4 * 1000 := Nat.mul_le_mul_right _ h1
   omega)
  have h2 : ns.length * 4001 ≤ 200000 * 4001 := Nat.mul_le_mul_right _ hn
  omega
theorem name1 (a : UInt8) (h : okc a) : NameOk ⟨#[a]⟩ := ⟨(show (1 : Nat) ≤ 1 by decide), (show (1 : Nat) ≤ 12 by decide), fun i hi => by
 match i, hi with
 | 0, _ => exact h⟩
theorem name3 (a b c : UInt8) (h : okc a) (h1 : okc b) (h2 : okc c) : NameOk ⟨#[a, b, c]⟩ := ⟨(show (1 : Nat) ≤ 3 by decide), (show (3 : Nat) ≤ 12 by decide), fun i hi => by
 match i, hi with
 | 0, _ => exact h
 | 1, _ => exact h1
 | 2, _ => exact h2⟩
theorem is1 (a : UInt8) : IsOk ⟨#[a]⟩ := ⟨(show (1 : Nat) ≤ 1 by decide), (show (1 : Nat) ≤ 16 by decide)⟩
theorem less1 (a b : UInt8) : Op.bytesLess (⟨#[a]⟩ : ByteArray).toList (⟨#[b]⟩ : ByteArray).toList = Op.bytesLess [a] [b] := by
 rw [Lib.toList_data, Lib.toList_data]
theorem row2 (a b : UInt8) (h : Op.bytesLess [a] [b] = true) : RowOk [⟨#[a]⟩, ⟨#[b]⟩] := by
 refine ⟨fun s hs => ?_, fun i hi => ?_⟩
 ·rcases List.mem_cons.1 hs with rfl | hs
  ·exact is1 a
  ·rw [List.mem_singleton.1 hs]; exact is1 b
 ·match i, hi with
  | 0, _ => exact (less1 a b).trans h
theorem row3 (a b c : UInt8) (h : Op.bytesLess [a] [b] = true) (h1 : Op.bytesLess [b] [c] = true) : RowOk [⟨#[a]⟩, ⟨#[b]⟩, ⟨#[c]⟩] := by
 refine ⟨fun s hs => ?_, fun i hi => ?_⟩
 ·rcases List.mem_cons.1 hs with rfl | hs
  ·exact is1 a
  ·rcases List.mem_cons.1 hs with rfl | hs
   ·exact is1 b
   ·rw [List.mem_singleton.1 hs]; exact is1 c
 ·match i, hi with
  | 0, _ => exact (less1 a b).trans h
  | 1, _ => exact (less1 b c).trans h1
theorem ba_ne {a b : ByteArray} (h : a.size ≠ b.size ∨ a.data[0]? ≠ b.data[0]?) : a ≠ b := fun e => by subst e; rcases h with h | h <;> exact h rfl
theorem tree_top (t : Tier) (h : t.up = []) : TreeOk t 0 := by
 refine ⟨fun _ => h, fun h0 => absurd h0 (by decide), by decide, fun n hn => ?_, fun i hi => ?_⟩
 ·rw [h] at hn; cases hn
 ·omega
theorem plain_sch (B : Nat) : SchOk (plainS B) := by
 refine ⟨(show (1 : Nat) ≤ 2 by decide), (show (2 : Nat) ≤ 16 by decide), fun k hk => ?_, fun i k hk hi => ?_, (show (1 : Nat) ≤ 1 by decide), (show (1 : Nat) ≤ 3 by decide), fun k hk => ?_, fun i k hk hi => ?_⟩
 ·match k, hk with
  | 0, _ =>
   refine ⟨name1 100 (by unfold okc; decide), (show (1 : Nat) ≤ 1 by decide), (show (1 : Nat) ≤ 4 by decide), fun k hk => ?_, fun i k hk hi => ?_⟩
   ·match k, hk with
    | 0, _ => exact ⟨name1 116 (by unfold okc; decide), (show (1 : Nat) ≤ 2 by decide), (show (2 : Nat) ≤ 200 by decide), row2 97 98 (by decide), tree_top _ rfl⟩
   ·match i, k, hk, hi with
    | i, 0, _, hi => omega
  | 1, _ =>
   refine ⟨name1 101 (by unfold okc; decide), (show (1 : Nat) ≤ 2 by decide), (show (2 : Nat) ≤ 4 by decide), fun k hk => ?_, fun i k hk hi => ?_⟩
   ·match k, hk with
    | 0, _ =>
     refine ⟨name3 108 111 119 (by unfold okc; decide) (by unfold okc; decide) (by unfold okc; decide), (show (1 : Nat) ≤ 3 by decide), (show (3 : Nat) ≤ 200 by decide), row3 120 121 122 (by decide) (by decide), ?_⟩
     show TreeOk _ (2 : Int)
     refine ⟨fun h => absurd h (by decide), fun _ => rfl, by decide, fun n hn => ?_, fun i hi => ?_⟩
     ·revert n
      show ∀ n ∈ ([0, 0, 1] : List Int), 0 ≤ n ∧ n < 2
      decide
     ·show (i : Int) ∈ ([0, 0, 1] : List Int)
      have : i = 0 ∨ i = 1 := by omega
      rcases this with rfl | rfl <;> decide
    | 1, _ => exact ⟨name3 116 111 112 (by unfold okc; decide) (by unfold okc; decide) (by unfold okc; decide), (show (1 : Nat) ≤ 2 by decide), (show (2 : Nat) ≤ 200 by decide), row2 112 113 (by decide), tree_top _ rfl⟩
   ·match i, k, hk, hi with
    | 0, 1, _, _ => exact ba_ne (.inr (show (#[108, 111, 119] : Array UInt8)[0]? ≠ (#[116, 111, 112] : Array UInt8)[0]? by decide))
    | i, 0, _, hi => omega
    | i + 1, 1, _, hi => omega
 ·match i, k, hk, hi with
  | 0, 1, _, _ => exact ba_ne (.inr (show (#[100] : Array UInt8)[0]? ≠ (#[101] : Array UInt8)[0]? by decide))
  | i, 0, _, hi => omega
  | i + 1, 1, _, hi => omega
 ·match k, hk with
  | 0, _ => exact name1 109 (by unfold okc; decide)
 ·match i, k, hk, hi with
  | i, 0, _, hi => omega
def agV (v : Int) : Ag := ⟨1, v, v, v, 0, 0, 0, 0, 0, 0⟩
def plainP : List (List Nat × Ag) := [([0, 0], agV 3), ([1, 1], agV (-4)), ([0, 2], agV 5)]
def plainQ : List (List Nat × Ag) := [([0, 0], agV 3), ([0, 2], agV 5), ([1, 1], agV (-4))]
theorem plain_keys (B : Nat) {x y : UInt8} {p q v : Nat} {r : Rw} (i j : Nat) (ht : r.terms = [⟨#[x]⟩, ⟨#[y]⟩]) (hv : r.vals.length = 1) (h1 : ([⟨#[97]⟩, ⟨#[98]⟩] : List ByteArray)[i]? = some ⟨#[x]⟩) (h2 : ([⟨#[120]⟩, ⟨#[121]⟩, ⟨#[122]⟩] : List ByteArray)[j]? = some ⟨#[y]⟩) : RowKeys (plainS B) r [i, j] := by
 refine ⟨rfl, by rw [ht]; rfl, hv, fun a d t k hd hte hk => ?_⟩
 rw [ht] at hte
 match a with
 | 0 => injection hd with hd; injection hte with hte; injection hk with hk; subst hd hte hk; exact h1
 | 1 => injection hd with hd; injection hte with hte; injection hk with hk; subst hd hte hk; exact h2
 | a + 2 => cases hk
theorem plain_batch (B : Nat) : BatchOk (plainS B) (plainR B) := by
 refine ⟨plain_sch B, (show (3 : Nat) ≤ 300 by decide), fun r hr => ?_⟩
 rcases List.mem_cons.1 hr with rfl | hr
 ·exact ⟨_, plain_keys B (p := 0) (q := 0) (v := 0) 0 0 rfl rfl rfl rfl⟩
 ·rcases List.mem_cons.1 hr with rfl | hr
  ·exact ⟨_, plain_keys B (p := 0) (q := 0) (v := 0) 1 1 rfl rfl rfl rfl⟩
  ·rcases List.mem_cons.1 hr with rfl | hr
   ·exact ⟨_, plain_keys B (p := 0) (q := 0) (v := 0) 0 2 rfl rfl rfl rfl⟩
   ·cases hr
theorem plain_rows (B : Nat) : RowsTo (plainS B) (plainR B) plainP := by
 refine ⟨[⟨none, [0, 0], 0, agV 3⟩, ⟨none, [1, 1], 0, agV (-4)⟩, ⟨none, [0, 2], 0, agV 5⟩], ⟨rfl, fun i r f hr hf => ?_⟩, rfl⟩
 match i with
 | 0 => injection hr with hr; injection hf with hf; subst hr hf; exact ⟨plain_keys B (p := 0) (q := 0) (v := 0) 0 0 rfl rfl rfl rfl, rfl⟩
 | 1 => injection hr with hr; injection hf with hf; subst hr hf; exact ⟨plain_keys B (p := 0) (q := 0) (v := 0) 1 1 rfl rfl rfl rfl, rfl⟩
 | 2 => injection hr with hr; injection hf with hf; subst hr hf; exact ⟨plain_keys B (p := 0) (q := 0) (v := 0) 0 2 rfl rfl rfl rfl, rfl⟩
 | i + 3 => cases hr
theorem plain_sorted {B : Nat} {ps qs : List (List Nat × Ag)} (h : RowsTo (plainS B) (plainR B) ps) (hp : qs.Perm ps) (hs : SortedP qs) : qs = plainQ := by
 have e := rows_unique (plain_sch B) h (plain_rows B)
 subst e
 have hp2 : plainP.Perm plainQ := (List.Perm.swap _ _ _).cons _
 refine List.Perm.eq_of_pairwise (le := fun (a b : List Nat × Ag) => cmpN a.1 b.1 ≤ 0) (fun a b ha hb h1 h2 => ?_) hs ?_ (hp.trans hp2)
 ·have h3 : a.1 = b.1 := cmpN_eq (by rw [cmpN_swap] at h2; omega)
  have ha' : a ∈ plainQ := (hp.trans hp2).mem_iff.1 ha
  simp only [plainQ, List.mem_cons, List.not_mem_nil, or_false] at ha' hb
  rcases ha' with rfl | rfl | rfl <;> rcases hb with rfl | rfl | rfl <;> first | rfl | (exfalso; revert h3; decide)
 ·unfold plainQ
  refine List.pairwise_cons.2 ⟨fun b hb => ?_, List.pairwise_cons.2 ⟨fun b hb => ?_, List.pairwise_singleton _ _⟩⟩
  ·rcases List.mem_cons.1 hb with rfl | hb
   ·decide
   ·rw [List.mem_singleton.1 hb]; decide
  ·rw [List.mem_singleton.1 hb]; decide
theorem plain_fold : foldP [] plainQ = some plainQ := by kernel_rfl
theorem plain_cube (B : Nat) {l : List Fa} (hl : l.map pl = plainQ) : ∃ ns, cubeV (plainS B) l 99 = some ns ∧ ns ≠ [] := by
 have h3 : l.length = 3 := by have := congrArg List.length hl; rw [List.length_map] at this; exact this
 unfold cubeV
 rw [if_neg (fun e => by rw [e] at h3; cases h3), show pls l = plainQ from hl, h3]
 obtain ⟨r, hr⟩ : ∃ r, (visit plainQ ((plainS B).dims.map liftsN) 99 (plainS B).dims.length ((plainS B).dims.length - 1) (List.range 3) ⟨[], []⟩) = some r := Option.isSome_iff_exists.1 (by kernel_rfl)
 have ht := visit_top hr
 rw [hr]
 exact ⟨r.1.nodes, rfl, fun e => by rw [e] at ht; simp at ht⟩
def plainW : List Pos := [⟨-1, 0⟩, ⟨1, 0⟩]
theorem plain_match (B : Nat) : matchTo (plainS B) plainQ plainW 3 = [0, 2] := by kernel_rfl
theorem plain_sum : sumP plainQ [0, 2] = some ⟨2, -1, -4, 3, 0, 0, 0, 0, 0, 0⟩ := by kernel_rfl
theorem plain_way (B : Nat) : WayTo (plainS B) plainW := fun i d p hd hp => by
 match i with
 | 0 => injection hd with hd; injection hp with hp; subst hd hp; exact .inl ⟨rfl, rfl⟩
 | 1 => injection hd with hd; injection hp with hp; subst hd hp; exact .inr ⟨1, 0, (show (1 : Nat) < 2 by decide), rfl, rfl, (show (0 : Nat) < 2 by decide)⟩
 | i + 2 => cases hp
structure CubeAt (s : Sch) (fs : List Fa) (ns : List PNode) (most ga : Nat) (A An : Option Addr) (c cn : Nat) (ys : List Fa) (nds : List Nd) (w : World) : Prop where
 sch : SchOk s
 ok : CubeOk s fs ns
 box : Box w ga 138 (arC A ys.length c s.meas.length An nds.length cn most)
 ils : IlsAt w w.heap.size A ys
 keys : ys.map Fa.keys = s.dims.map sizesN
 nds_ : NdsAt w w.heap.size An nds
 eq : nds.map plN = ns
 len : ns.length ≤ 20000
section
variable {s : Sch} {fs : List Fa} {ns : List PNode} {most ga : Nat} {A An : Option Addr} {c cn : Nat} {ys : List Fa} {nds : List Nd} {w w' : World}
theorem CubeAt.below (h : CubeAt s fs ns most ga A An c cn ys nds w) (hb : Below w.heap.size w w') : CubeAt s fs ns most ga A An c cn ys nds w' :=
 ⟨h.sch, h.ok, h.box.under hb, (h.ils.below hb).more hb.size, h.keys, (h.nds_.below hb).more hb.size, h.eq, h.len⟩
theorem CubeAt.nx (h : CubeAt s fs ns most ga A An c cn ys nds w) : ys.length = s.dims.length := by
 have := congrArg List.length h.keys
 rw [List.length_map, List.length_map] at this
 exact this
theorem CubeAt.key (h : CubeAt s fs ns most ga A An c cn ys nds w) {k : Nat} {l : List Nat} (hl : (ys.map Fa.keys)[k]? = some l) : ∃ d, s.dims[k]? = some d ∧ l = sizesN d := by
 rw [h.keys, List.getElem?_map] at hl
 obtain ⟨d, hd, e⟩ := Option.map_eq_some_iff.1 hl
 exact ⟨d, hd, e.symm⟩
theorem CubeAt.short (h : CubeAt s fs ns most ga A An c cn ys nds w) : ∀ x ∈ ys, x.keys.length ≤ 1000 := fun x hx => by
 obtain ⟨k, hk, rfl⟩ := List.getElem_of_mem hx
 obtain ⟨d, hd, e⟩ := h.key (k := k) (l := ys[k].keys) (by rw [List.getElem?_map, List.getElem?_eq_getElem hk]; rfl)
 rw [e, sizes_len]
 have := (dim_at h.sch hd).n2
 omega
theorem CubeAt.few (h : CubeAt s fs ns most ga A An c cn ys nds w) : nds.length ≤ 20000 := by
 have := h.len
 rw [← h.eq, List.length_map] at this
 exact this
theorem CubeAt.point (h : CubeAt s fs ns most ga A An c cn ys nds w) {Ap : Option Addr} {cp : Nat} {way : List Pos} (hp : Row w w.heap.size Ap (way.flatMap posV)) (hlen : way.length = s.dims.length) (hway : WayTo s way) :
 Calls Tryz.prog 13 #[.pointer (some ⟨ga, 0, none⟩), .slice Ap way.length cp] w (PointRet (pointV ns way) w) := by
 have hx := h.nx
 have hn := h.sch
 have hf := h.few
 have hok := h.ok
 have heq := h.eq
 subst heq
 obtain ⟨k1, k2⟩ := hok.nodes
 obtain ⟨m1, _⟩ := hok.way way hlen hway
 refine point_any ga A An Ap c s.meas.length cn cp most ys nds way w h.box h.ils h.nds_ (by rw [hx]; exact hn.n1) (by rw [hx]; exact hn.n2) hn.m1 hn.m2 (by omega) k1 h.short hp (by rw [hx]; exact hlen) (fun k l p hl hpk => ?_) (fun hne => ?_)
 ·obtain ⟨d, hd, rfl⟩ := h.key hl
  rcases hway k d p hd hpk with ⟨e1, e2⟩ | ⟨t, q, ht, e1, e2, e3⟩
  ·exact .inl ⟨by omega, e2⟩
  ·exact .inr ⟨t, q, _, e1, e2, by rw [List.getElem?_eq_getElem (by rw [sizes_len]; exact ht), sizes_get], e3⟩
 ·have := m1 (fun e => hne (List.map_eq_nil_iff.1 e))
  rw [List.length_map] at this
  exact this
theorem CubeAt.census (h : CubeAt s fs ns most ga A An c cn ys nds w) : Calls Tryz.prog 14 #[.pointer (some ⟨ga, 0, none⟩)] w (OfRet s.dims.length ns w) := by
 have hx := h.nx
 have hn := h.sch
 have hf := h.few
 have hok := h.ok
 have heq := h.eq
 subst heq
 obtain ⟨k1, k2⟩ := hok.nodes
 have := of_any ga A An c s.meas.length cn most ys nds w h.box h.ils h.nds_ (by rw [hx]; exact hn.n1) (by rw [hx]; exact hn.n2) (by omega) k1 k2 h.short (fun i n hi hd c hc => hok.whl.back i n hi (by rw [← hx]; exact hd) c hc)
 rw [hx] at this
 exact this
theorem CubeAt.facts (h : CubeAt s fs ns most ga A An c cn ys nds w) (hfs : fs.length ≤ 4000) : Calls Tryz.prog 15 #[.pointer (some ⟨ga, 0, none⟩), .int .i64 4000] w (TFRet (factsT s.dims.length ns) w) := by
 have hx := h.nx
 have hn := h.sch
 have hf := h.few
 have hok := h.ok
 have heq := h.eq
 subst heq
 obtain ⟨k1, k2⟩ := hok.nodes
 have := tfacts_any ga A An c s.meas.length cn most 4000 ys nds w h.box h.ils h.nds_ (by rw [hx]; exact hn.n1) (by rw [hx]; exact hn.n2) hn.m1 hn.m2 (by omega) k1 k2 h.short (by rw [hx]; exact hok.whl) (fun hne => by
  have := hok.tree (fun e => hne (List.map_eq_nil_iff.1 e))
  rw [List.length_map] at this
  rw [hx]
  exact this) (by omega) (by rw [hx, hok.tuples]; exact hfs)
 rw [hx] at this
 exact this
end
end Go.Proofs.YthmbgbmcdbdecaaGreat.Tc
