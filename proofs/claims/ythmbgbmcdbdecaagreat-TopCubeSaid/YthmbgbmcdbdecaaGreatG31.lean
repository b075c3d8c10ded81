/- Parts of a proof: Layer 26: a cube in plain words: how it is built, and what its nodes stand for. Layer 26: what a schema's cube may be; nodes that are built may be nodes. -/
import Derived.Test.YthmbgbmcdbdecaaGreatG23
import Derived.Test.YthmbgbmcdbdecaaGreatG27
import Derived.Test.YthmbgbmcdbdecaaGreatG28
namespace Go.Proofs.YthmbgbmcdbdecaaGreat.Tc
open Go.RowKit Base
set_option linter.unusedVariables false
set_option linter.unusedSimpArgs false
structure St where
 nodes : List PNode
 parts : List (Nat × List Nat)
abbrev Rec := List Nat → St → Option (St × Nat)
def keyF (ps : List (List Nat × Ag)) (at_ i : Nat) : Nat := ((((ps[i]?).getD ([], agZero)).1)[at_]?).getD 0
def keyL (ps : List (List Nat × Ag)) (lift : List Nat) (at_ i : Nat) : Nat := (lift[keyF ps at_ i]?).getD 0
def cellV (ps : List (List Nat × Ag)) (f : Option Rec) (key : Nat) (part : List Nat) (st : St) : Option (St × Cl) :=
 match f with
 | none => some (st, ⟨key, 0, (sumP ps part).getD agZero⟩)
 | some g => (g part st).map fun r => (r.1, ⟨key, r.2, agZero⟩)
def rowV (ps : List (List Nat × Ag)) (f : Option Rec) : List (Nat × List Nat) → St × List Cl → Option (St × List Cl)
 | [], s => some s
 | g :: gs, s => (cellV ps f g.1 g.2 s.1).bind fun r => rowV ps f gs (r.1, s.2 ++ [r.2])
def listsV (ps : List (List Nat × Ag)) (f : Option Rec) (at_ : Nat) (part : List Nat) : List (List Nat) → St × List (List Cl) → Option (St × List (List Cl))
 | [], s => some s
 | l :: ls, s => (rowV ps f (groupsP (keyL ps l at_) part) (s.1, [])).bind fun r => listsV ps f at_ part ls (r.1, s.2 ++ [r.2])
def findP (at_ : Nat) (part : List Nat) (parts : List (Nat × List Nat)) : Option Nat := parts.findIdx? fun x => x == (at_, part)
def nodeV (ps : List (List Nat × Ag)) (lifts : List (List (List Nat))) (most : Nat) (f : Option Rec) (at_ : Nat) (part : List Nat) (st : St) : Option (St × Nat) :=
 match findP at_ part st.parts with
 | some i => some (st, i)
 | none => (listsV ps f at_ part ((lifts[at_]?).getD []) (st, [])).bind fun r => (cellV ps f 0 part r.1).bind fun q =>
  if q.1.nodes.length < most then some (⟨q.1.nodes ++ [⟨at_, r.2, q.2⟩], q.1.parts ++ [(at_, part)]⟩, q.1.nodes.length) else none
def visit (ps : List (List Nat × Ag)) (lifts : List (List (List Nat))) (most nd : Nat) : Nat → Rec
 | 0 => nodeV ps lifts most none (nd - 1)
 | d + 1 => nodeV ps lifts most (some (visit ps lifts most nd d)) (nd - 1 - (d + 1))
def RepL {α β : Type} (R : α → β → Prop) (l : List α) (m : List β) : Prop := l.length = m.length ∧ ∀ (i : Nat) (a : α) (b : β), l[i]? = some a → m[i]? = some b → R a b
theorem RepL.nil {α β : Type} (R : α → β → Prop) : RepL R [] [] := ⟨rfl, fun i a b h => by cases h⟩
theorem RepL.snoc {α β : Type} {R : α → β → Prop} {l : List α} {m : List β} (h : RepL R l m) {a : α} {b : β} (hab : R a b) : RepL R (l ++ [a]) (m ++ [b]) := by
 refine ⟨by rw [List.length_append, List.length_append, h.1]; rfl, fun i x y hx hy => ?_⟩
 by_cases hi : i < l.length
 ·rw [List.getElem?_append_left hi] at hx
  rw [List.getElem?_append_left (by rw [← h.1]; exact hi)] at hy
  exact h.2 i x y hx hy
 ·rw [List.getElem?_append_right (by omega)] at hx
  rw [List.getElem?_append_right (by rw [← h.1]; omega)] at hy
  rw [← h.1] at hy
  have h0 : i - l.length = 0 := by
   have := (List.getElem?_eq_some_iff.1 hx).1
   simp at this
   omega
  rw [h0] at hx hy
  injection hx with hx
  injection hy with hy
  rw [← hx, ← hy]; exact hab
theorem RepL.imp {α β : Type} {R R' : α → β → Prop} {l : List α} {m : List β} (h : RepL R l m) (hi : ∀ a b, R a b → R' a b) : RepL R' l m := ⟨h.1, fun i a b h1 h2 => hi a b (h.2 i a b h1 h2)⟩
def RepC (ps : List (List Nat × Ag)) (last : Bool) (st : St) (at_ key : Nat) (part : List Nat) (c : Cl) : Prop :=
 c.key = key ∧ if last = true then c.child = 0 ∧ c.ag = (sumP ps part).getD agZero else c.ag = agZero ∧ st.parts[c.child]? = some (at_ + 1, part)
def RepRow (ps : List (List Nat × Ag)) (last : Bool) (st : St) (at_ : Nat) (gs : List (Nat × List Nat)) (l : List Cl) : Prop := RepL (fun g c => RepC ps last st at_ g.1 g.2 c) gs l
def RepLs (ps : List (List Nat × Ag)) (last : Bool) (st : St) (at_ : Nat) (part : List Nat) (lifts : List (List Nat)) (ls : List (List Cl)) : Prop := RepL (fun lift l => RepRow ps last st at_ (groupsP (keyL ps lift at_) part) l) lifts ls
structure RepN (ps : List (List Nat × Ag)) (lifts : List (List (List Nat))) (nd : Nat) (st : St) (at_ : Nat) (part : List Nat) (n : PNode) : Prop where
 dim : n.dim = at_
 lists : RepLs ps (decide (at_ + 1 = nd)) st at_ part ((lifts[at_]?).getD []) n.lists
 all : RepC ps (decide (at_ + 1 = nd)) st at_ 0 part n.all
def Ext (st st' : St) : Prop := ∃ ns qs, st'.nodes = st.nodes ++ ns ∧ st'.parts = st.parts ++ qs
theorem Ext.refl (st : St) : Ext st st := ⟨[], [], by simp, by simp⟩
theorem Ext.trans {a b c : St} (h : Ext a b) (k : Ext b c) : Ext a c := by
 obtain ⟨ns, qs, h1, h2⟩ := h
 obtain ⟨ns', qs', k1, k2⟩ := k
 exact ⟨ns ++ ns', qs ++ qs', by rw [k1, h1, List.append_assoc], by rw [k2, h2, List.append_assoc]⟩
theorem Ext.part {a b : St} (h : Ext a b) {i : Nat} {p : Nat × List Nat} (hp : a.parts[i]? = some p) : b.parts[i]? = some p := by
 obtain ⟨ns, qs, h1, h2⟩ := h
 rw [h2, List.getElem?_append_left (List.getElem?_eq_some_iff.1 hp).1]
 exact hp
theorem Ext.node {a b : St} (h : Ext a b) {i : Nat} {n : PNode} (hn : a.nodes[i]? = some n) : b.nodes[i]? = some n := by
 obtain ⟨ns, qs, h1, h2⟩ := h
 rw [h1, List.getElem?_append_left (List.getElem?_eq_some_iff.1 hn).1]
 exact hn
theorem Ext.len {a b : St} (h : Ext a b) : a.nodes.length ≤ b.nodes.length := by
 obtain ⟨ns, qs, h1, h2⟩ := h
 rw [h1, List.length_append]
 omega
theorem RepC.ext {ps : List (List Nat × Ag)} {last : Bool} {st st' : St} {at_ key : Nat} {part : List Nat} {c : Cl} (h : RepC ps last st at_ key part c) (he : Ext st st') : RepC ps last st' at_ key part c := by
 refine ⟨h.1, ?_⟩
 have h2 := h.2
 split
 ·rename_i hl; rw [if_pos hl] at h2; exact h2
 ·rename_i hl; rw [if_neg hl] at h2; exact ⟨h2.1, he.part h2.2⟩
theorem RepRow.ext {ps : List (List Nat × Ag)} {last : Bool} {st st' : St} {at_ : Nat} {gs : List (Nat × List Nat)} {l : List Cl} (h : RepRow ps last st at_ gs l) (he : Ext st st') : RepRow ps last st' at_ gs l := RepL.imp h fun _ _ hc => hc.ext he
theorem RepLs.ext {ps : List (List Nat × Ag)} {last : Bool} {st st' : St} {at_ : Nat} {part : List Nat} {lifts : List (List Nat)} {ls : List (List Cl)} (h : RepLs ps last st at_ part lifts ls) (he : Ext st st') : RepLs ps last st' at_ part lifts ls := RepL.imp h fun _ _ hc => RepRow.ext hc he
theorem RepN.ext {ps : List (List Nat × Ag)} {lifts : List (List (List Nat))} {nd : Nat} {st st' : St} {at_ : Nat} {part : List Nat} {n : PNode} (h : RepN ps lifts nd st at_ part n) (he : Ext st st') : RepN ps lifts nd st' at_ part n := ⟨h.dim, h.lists.ext he, h.all.ext he⟩
structure PtOk (ps : List (List Nat × Ag)) (part : List Nat) : Prop where
 ne : part ≠ []
 lt : ∀ i ∈ part, i < ps.length
 nd : part.Nodup
theorem PtOk.group {ps : List (List Nat × Ag)} {part : List Nat} (h : PtOk ps part) {key : Nat → Nat} {g : Nat × List Nat} (hg : g ∈ groupsP key part) : PtOk ps g.2 := by
 obtain ⟨h1, h2, h3⟩ := mem_groups.1 hg
 refine ⟨h3, fun i hi => h.lt i ?_, ?_⟩
 ·rw [h2] at hi; exact (List.mem_filter.1 hi).1
 ·rw [h2]; exact List.Pairwise.filter _ h.nd
def cellsP (n : PNode) : List Cl := n.lists.flatten ++ [n.all]
structure Good (ps : List (List Nat × Ag)) (lifts : List (List (List Nat))) (nd : Nat) (st : St) : Prop where
 len : st.parts.length = st.nodes.length
 rep : ∀ (i : Nat) (n : PNode) (p : Nat × List Nat), st.nodes[i]? = some n → st.parts[i]? = some p → RepN ps lifts nd st p.1 p.2 n
 part : ∀ (i : Nat) (p : Nat × List Nat), st.parts[i]? = some p → p.1 < nd ∧ PtOk ps p.2
 back : ∀ (i : Nat) (n : PNode), st.nodes[i]? = some n → n.dim + 1 ≠ nd → ∀ c ∈ cellsP n, c.child < i
theorem Good.nil (ps : List (List Nat × Ag)) (lifts : List (List (List Nat))) (nd : Nat) : Good ps lifts nd ⟨[], []⟩ := ⟨rfl, (fun i n p h => by cases h), (fun i p h => by cases h), (fun i n h => by cases h)⟩
def RecOk (ps : List (List Nat × Ag)) (lifts : List (List (List Nat))) (nd at_ : Nat) (f : Rec) : Prop := ∀ part st r, f part st = some r → Good ps lifts nd st → PtOk ps part → Good ps lifts nd r.1 ∧ Ext st r.1 ∧ r.1.parts[r.2]? = some (at_, part)
section
variable {ps : List (List Nat × Ag)} {lifts : List (List (List Nat))} {nd at_ : Nat} {f : Option Rec}
def NextOk (ps : List (List Nat × Ag)) (lifts : List (List (List Nat))) (nd at_ : Nat) (f : Option Rec) : Prop := match f with
 | none => at_ + 1 = nd
 | some g => at_ + 1 < nd ∧ RecOk ps lifts nd (at_ + 1) g
theorem cellV_ok (hf : NextOk ps lifts nd at_ f) {key : Nat} {part : List Nat} {st : St} {r : St × Cl} (h : cellV ps f key part st = some r) (hg : Good ps lifts nd st) (hp : PtOk ps part) :
 Good ps lifts nd r.1 ∧ Ext st r.1 ∧ RepC ps (decide (at_ + 1 = nd)) r.1 at_ key part r.2 := by
 unfold cellV at h
 unfold NextOk at hf
 split at h
 ·injection h with h
  subst h
  refine ⟨hg, Ext.refl _, rfl, ?_⟩
  dsimp only at hf
  rw [decide_eq_true hf]
  exact ⟨rfl, rfl⟩
 ·rename_i g
  dsimp only at hf
  obtain ⟨q, hq, rfl⟩ := Option.map_eq_some_iff.1 h
  obtain ⟨h1, h2, h3⟩ := hf.2 part st q hq hg hp
  refine ⟨h1, h2, rfl, ?_⟩
  have : decide (at_ + 1 = nd) = false := decide_eq_false (by omega)
  rw [this]
  exact ⟨rfl, h3⟩
theorem rowV_ok (hf : NextOk ps lifts nd at_ f) : ∀ (gs pre : List (Nat × List Nat)) (s r : St × List Cl), rowV ps f gs s = some r → Good ps lifts nd s.1 → (∀ g ∈ gs, PtOk ps g.2) → RepRow ps (decide (at_ + 1 = nd)) s.1 at_ pre s.2 →
 Good ps lifts nd r.1 ∧ Ext s.1 r.1 ∧ RepRow ps (decide (at_ + 1 = nd)) r.1 at_ (pre ++ gs) r.2
 | [], pre, s, r, h, hg, _, hr => by
  injection h with h
  subst h
  rw [List.append_nil]
  exact ⟨hg, Ext.refl _, hr⟩
 | g :: gs, pre, s, r, h, hg, hp, hr => by
  unfold rowV at h
  obtain ⟨q, hq, h⟩ := Option.bind_eq_some_iff.1 h
  obtain ⟨h1, h2, h3⟩ := cellV_ok hf hq hg (hp g List.mem_cons_self)
  obtain ⟨k1, k2, k3⟩ := rowV_ok hf gs (pre ++ [g]) (q.1, s.2 ++ [q.2]) r h h1 (fun x hx => hp x (List.mem_cons_of_mem _ hx)) (RepL.snoc (RepRow.ext hr h2) h3)
  refine ⟨k1, h2.trans k2, ?_⟩
  rw [List.append_assoc] at k3
  exact k3
theorem listsV_ok (hf : NextOk ps lifts nd at_ f) {part : List Nat} (hp : PtOk ps part) : ∀ (ls pre : List (List Nat)) (s r : St × List (List Cl)), listsV ps f at_ part ls s = some r → Good ps lifts nd s.1 → RepLs ps (decide (at_ + 1 = nd)) s.1 at_ part pre s.2 →
 Good ps lifts nd r.1 ∧ Ext s.1 r.1 ∧ RepLs ps (decide (at_ + 1 = nd)) r.1 at_ part (pre ++ ls) r.2
 | [], pre, s, r, h, hg, hr => by
  injection h with h
  subst h
  rw [List.append_nil]
  exact ⟨hg, Ext.refl _, hr⟩
 | l :: ls, pre, s, r, h, hg, hr => by
  unfold listsV at h
  obtain ⟨q, hq, h⟩ := Option.bind_eq_some_iff.1 h
  obtain ⟨h1, h2, h3⟩ := rowV_ok hf _ [] _ _ hq hg (fun g hg' => hp.group hg') (RepL.nil _)
  obtain ⟨k1, k2, k3⟩ := listsV_ok hf hp ls (pre ++ [l]) (q.1, s.2 ++ [q.2]) r h h1 (RepL.snoc (RepLs.ext hr h2) h3)
  refine ⟨k1, h2.trans k2, ?_⟩
  rw [List.append_assoc] at k3
  exact k3
theorem find_some {part : List Nat} {parts : List (Nat × List Nat)} {i : Nat} (h : findP at_ part parts = some i) : parts[i]? = some (at_, part) := by
 unfold findP at h
 obtain ⟨hi, h1, _⟩ := List.findIdx?_eq_some_iff_getElem.1 h
 rw [List.getElem?_eq_getElem hi]
 congr 1
 simpa using h1
theorem mem_flatten_at {ls : List (List Cl)} {c : Cl} (h : c ∈ ls.flatten) : ∃ (k : Nat) (l : List Cl) (i : Nat), ls[k]? = some l ∧ l[i]? = some c := by
 obtain ⟨l, hl, hc⟩ := List.mem_flatten.1 h
 obtain ⟨k, hk, rfl⟩ := List.getElem_of_mem hl
 obtain ⟨i, hi, rfl⟩ := List.getElem_of_mem hc
 exact ⟨k, _, i, List.getElem?_eq_getElem hk, List.getElem?_eq_getElem hi⟩
theorem RepL.left {α β : Type} {R : α → β → Prop} {l : List α} {m : List β} (h : RepL R l m) {i : Nat} {b : β} (hb : m[i]? = some b) : ∃ a, l[i]? = some a ∧ R a b := by
 have hi : i < l.length := by rw [h.1]; exact (List.getElem?_eq_some_iff.1 hb).1
 exact ⟨l[i], List.getElem?_eq_getElem hi, h.2 i _ b (List.getElem?_eq_getElem hi) hb⟩
theorem RepL.right {α β : Type} {R : α → β → Prop} {l : List α} {m : List β} (h : RepL R l m) {i : Nat} {a : α} (ha : l[i]? = some a) : ∃ b, m[i]? = some b ∧ R a b := by
 have hi : i < m.length := by rw [← h.1]; exact (List.getElem?_eq_some_iff.1 ha).1
 exact ⟨m[i], List.getElem?_eq_getElem hi, h.2 i a _ ha (List.getElem?_eq_getElem hi)⟩
theorem RepN.lead {st : St} {part : List Nat} {n : PNode} (h : RepN ps lifts nd st at_ part n) (hl : at_ + 1 ≠ nd) {c : Cl} (hc : c ∈ cellsP n) : ∃ q, st.parts[c.child]? = some (at_ + 1, q) := by
 have hd : decide (at_ + 1 = nd) = false := decide_eq_false hl
 rcases List.mem_append.1 hc with hc | hc
 ·obtain ⟨k, l, i, h1, h2⟩ := mem_flatten_at hc
  have h3 := h.lists
  rw [hd] at h3
  obtain ⟨lift, _, hr⟩ := RepL.left h3 h1
  obtain ⟨g, _, hr⟩ := RepL.left hr h2
  exact ⟨g.2, hr.2.2⟩
 ·rw [List.mem_singleton.1 hc]
  have h3 := h.all
  rw [hd] at h3
  exact ⟨part, h3.2.2⟩
theorem nodeV_ok {most : Nat} (hf : NextOk ps lifts nd at_ f) : RecOk ps lifts nd at_ (nodeV ps lifts most f at_) := by
 intro part st r h hg hp
 have hat : at_ < nd := by
  unfold NextOk at hf
  split at hf <;> omega
 unfold nodeV at h
 split at h
 ·rename_i i hi
  injection h with h
  subst h
  exact ⟨hg, Ext.refl _, find_some hi⟩
 ·obtain ⟨q, hq, h⟩ := Option.bind_eq_some_iff.1 h
  obtain ⟨x, hx, h⟩ := Option.bind_eq_some_iff.1 h
  split at h
  ·injection h with h
   subst h
   obtain ⟨h1, h2, h3⟩ := listsV_ok hf hp _ [] _ _ hq hg (RepL.nil _)
   obtain ⟨k1, k2, k3⟩ := cellV_ok hf hx h1 hp
   have hE : Ext x.1 ⟨x.1.nodes ++ [⟨at_, q.2, x.2⟩], x.1.parts ++ [(at_, part)]⟩ := ⟨_, _, rfl, rfl⟩
   have hN : RepN ps lifts nd x.1 at_ part ⟨at_, q.2, x.2⟩ := ⟨rfl, h3.ext k2, k3⟩
   refine ⟨⟨by simp [k1.len], fun i n p hn hpp => ?_, fun i p hpp => ?_, fun i n hn hl => ?_⟩, h2.trans (k2.trans hE), ?_⟩
   ·dsimp only at hn hpp
    by_cases hi : i < x.1.nodes.length
    ·rw [List.getElem?_append_left hi] at hn
     rw [List.getElem?_append_left (by rw [k1.len]; exact hi)] at hpp
     exact (k1.rep i n p hn hpp).ext hE
    ·rw [List.getElem?_append_right (by omega)] at hn
     rw [List.getElem?_append_right (by rw [k1.len]; omega), k1.len] at hpp
     have h0 : i - x.1.nodes.length = 0 := by
      have := (List.getElem?_eq_some_iff.1 hn).1
      simp at this
      omega
     rw [h0] at hn hpp
     injection hn with hn
     injection hpp with hpp
     subst hn hpp
     exact hN.ext hE
   ·dsimp only at hpp
    by_cases hi : i < x.1.parts.length
    ·rw [List.getElem?_append_left hi] at hpp
     exact k1.part i p hpp
    ·rw [List.getElem?_append_right (by omega)] at hpp
     have h0 : i - x.1.parts.length = 0 := by
      have := (List.getElem?_eq_some_iff.1 hpp).1
      simp at this
      omega
     rw [h0] at hpp
     injection hpp with hpp
     subst hpp
     exact ⟨hat, hp⟩
   ·dsimp only at hn
    by_cases hi : i < x.1.nodes.length
    ·rw [List.getElem?_append_left hi] at hn
     exact k1.back i n hn hl
    ·rw [List.getElem?_append_right (by omega)] at hn
     have h0 : i - x.1.nodes.length = 0 := by
      have := (List.getElem?_eq_some_iff.1 hn).1
      simp at this
      omega
     rw [h0] at hn
     injection hn with hn
     subst hn
     intro c hc
     obtain ⟨q', hq'⟩ := hN.lead hl hc
     have := (List.getElem?_eq_some_iff.1 hq').1
     rw [k1.len] at this
     omega
   ·dsimp only
    rw [← k1.len, List.getElem?_append_right (Nat.le_refl _)]
    simp
  ·cases h
end
theorem visit_ok {ps : List (List Nat × Ag)} {lifts : List (List (List Nat))} {most nd : Nat} : ∀ {d : Nat}, d < nd → RecOk ps lifts nd (nd - 1 - d) (visit ps lifts most nd d)
 | 0, h => nodeV_ok (f := none) (show nd - 1 + 1 = nd by omega)
 | d + 1, h => by
  refine nodeV_ok (f := some (visit ps lifts most nd d)) ⟨by omega, ?_⟩
  have e : nd - 1 - (d + 1) + 1 = nd - 1 - d := by omega
  rw [e]
  exact visit_ok (by omega)
theorem nodup_sub_len : ∀ (l' l : List Nat), l'.Nodup → (∀ x ∈ l', x ∈ l) → l'.length ≤ l.length
 | [], l, _, _ => Nat.zero_le _
 | x :: l', l, h, hs => by
  have hx := hs x List.mem_cons_self
  have h1 := (List.nodup_cons.1 h).1
  have := nodup_sub_len l' (l.erase x) (List.nodup_cons.1 h).2 (fun y hy => by
   refine (List.mem_erase_of_ne (fun e => ?_)).2 (hs y (List.mem_cons_of_mem _ hy))
   rw [e] at hy
   exact h1 hy)
  rw [List.length_erase_of_mem hx] at this
  have hpos : 0 < l.length := List.length_pos_of_mem hx
  rw [List.length_cons]
  omega
theorem groups_len (key : Nat → Nat) (part : List Nat) : ((groupsP key part).map Prod.fst).Nodup := by
 rw [List.nodup_iff_pairwise_ne, List.pairwise_map]
 exact (groups_rise key part).imp fun h e => by omega
theorem groups_ne {key : Nat → Nat} {part : List Nat} {i : Nat} (hi : i ∈ part) (hk : key i < 200) : (key i, selP key part (key i)) ∈ groupsP key part := by
 refine mem_groups.2 ⟨hk, rfl, fun h => ?_⟩
 have : i ∈ selP key part (key i) := List.mem_filter.2 ⟨hi, by simp⟩
 have h' : selP key part (key i) = [] := h
 rw [h'] at this
 cases this
theorem groups_from {key : Nat → Nat} {part : List Nat} {g : Nat × List Nat} (hg : g ∈ groupsP key part) : ∃ i ∈ part, key i = g.1 := by
 obtain ⟨h1, h2, h3⟩ := mem_groups.1 hg
 obtain ⟨i, hi⟩ := List.exists_mem_of_ne_nil _ h3
 rw [h2] at hi
 obtain ⟨h4, h5⟩ := List.mem_filter.1 hi
 exact ⟨i, h4, by simpa using h5⟩
theorem groups_fall {key key' : Nat → Nat} {part : List Nat} (hlt : ∀ i ∈ part, key i < 200) (hf : ∀ i ∈ part, ∀ j ∈ part, key i = key j → key' i = key' j) : (groupsP key' part).length ≤ (groupsP key part).length := by
 classical
 have h := nodup_sub_len ((groupsP key' part).map Prod.fst) (((groupsP key part).map Prod.fst).map fun y => if h : ∃ i ∈ part, key i = y then key' h.choose else 0) (groups_len key' part) (fun x hx => by
  obtain ⟨g, hg, rfl⟩ := List.mem_map.1 hx
  obtain ⟨i, hi, e⟩ := groups_from hg
  refine List.mem_map.2 ⟨key i, List.mem_map.2 ⟨_, groups_ne hi (hlt i hi), rfl⟩, ?_⟩
  have hex : ∃ j ∈ part, key j = key i := ⟨i, hi, rfl⟩
  rw [dif_pos hex, ← e]
  exact hf _ hex.choose_spec.1 i hi hex.choose_spec.2)
 simpa using h
structure Cfg (ps : List (List Nat × Ag)) (lifts : List (List (List Nat))) (X : List (List Nat)) (m : Nat) : Prop where
 n1 : 1 ≤ X.length
 n16 : X.length ≤ 16
 len : lifts.length = X.length
 m1 : 1 ≤ m
 m3 : m ≤ 3
 nps : ps.length ≤ 1000
 tiers : ∀ (a : Nat) (ls : List (List Nat)) (x : List Nat), lifts[a]? = some ls → X[a]? = some x → ls.length = x.length ∧ 1 ≤ x.length ∧ x.length ≤ 4
 small : ∀ (a : Nat) (x : List Nat), X[a]? = some x → ∀ y ∈ x, y ≤ 200
 lift : ∀ (a : Nat) (ls : List (List Nat)) (x : List Nat) (k : Nat) (l : List Nat) (y y0 : Nat), lifts[a]? = some ls → X[a]? = some x → ls[k]? = some l → x[k]? = some y → x[0]? = some y0 → l.length ≤ 1000 ∧ ∀ q, q < y0 → ∃ z, l[q]? = some z ∧ z < y
 keys : ∀ (i : Nat) (p : List Nat × Ag), ps[i]? = some p → p.1.length = X.length ∧ ∀ (a q : Nat) (x : List Nat), p.1[a]? = some q → X[a]? = some x → ∃ y0, x[0]? = some y0 ∧ q < y0
 fall : ∀ (a : Nat) (ls : List (List Nat)) (k : Nat) (l l' : List Nat) (q q' z : Nat), lifts[a]? = some ls → ls[k]? = some l → ls[k + 1]? = some l' → l[q]? = some z → l[q']? = some z → l'[q]? = l'[q']?
 sums : ∀ part, PtOk ps part → ∃ r, sumP ps part = some r ∧ AgOk m r
section
variable {ps : List (List Nat × Ag)} {lifts : List (List (List Nat))} {X : List (List Nat)} {m : Nat}
theorem Cfg.dim (h : Cfg ps lifts X m) {a : Nat} (ha : a < X.length) : ∃ ls x, lifts[a]? = some ls ∧ X[a]? = some x :=
 ⟨_, _, List.getElem?_eq_getElem (by rw [h.len]; exact ha), List.getElem?_eq_getElem ha⟩
theorem Cfg.key (h : Cfg ps lifts X m) {a i k : Nat} {ls : List (List Nat)} {x l : List Nat} {y : Nat} (hi : i < ps.length) (h1 : lifts[a]? = some ls) (h2 : X[a]? = some x) (h3 : ls[k]? = some l) (h4 : x[k]? = some y) :
 ∃ p q z, ps[i]? = some p ∧ p.1[a]? = some q ∧ keyF ps a i = q ∧ l[q]? = some z ∧ keyL ps l a i = z ∧ z < y := by
 have hp := List.getElem?_eq_getElem hi
 obtain ⟨k1, k2⟩ := h.keys i _ hp
 have ha := (List.getElem?_eq_some_iff.1 h2).1
 have hq : ps[i].1[a]? = some (ps[i].1[a]'(by omega)) := List.getElem?_eq_getElem (by omega)
 obtain ⟨y0, h5, h6⟩ := k2 a _ x hq h2
 obtain ⟨z, h7, h8⟩ := (h.lift a ls x k l y y0 h1 h2 h3 h4 h5).2 _ h6
 have e1 : keyF ps a i = ps[i].1[a]'(by omega) := by
  unfold keyF
  rw [hp]
  simp only [Option.getD_some]
  rw [hq]
  rfl
 refine ⟨_, _, z, hp, hq, e1, h7, ?_, h8⟩
 unfold keyL
 rw [e1, h7]
 rfl
theorem Cfg.tier (h : Cfg ps lifts X m) {a k : Nat} {ls : List (List Nat)} {x l : List Nat} (h1 : lifts[a]? = some ls) (h2 : X[a]? = some x) (h3 : ls[k]? = some l) : ∃ y, x[k]? = some y ∧ y ≤ 200 := by
 have hk : k < x.length := by
  have h4 := (List.getElem?_eq_some_iff.1 h3).1
  have h5 := (h.tiers a ls x h1 h2).1
  omega
 exact ⟨x[k], List.getElem?_eq_getElem hk, h.small a x h2 _ (List.getElem_mem hk)⟩
theorem built_ok (h : Cfg ps lifts X m) {a : Nat} {part : List Nat} {ls : List (List Nat)} {x : List Nat} (h1 : lifts[a]? = some ls) (h2 : X[a]? = some x) (hp : PtOk ps part) {st : St} (hst : st.parts.length ≤ 1000000) {ll : List (List Cl)} {all : Cl}
 (hl : RepLs ps (decide (a + 1 = X.length)) st a part ls ll) (ha : RepC ps (decide (a + 1 = X.length)) st a 0 part all) : PnOk (decide (a + 1 = X.length)) x m ⟨a, ll, all⟩ ∧ ∀ l ∈ ll, l.length ≤ 200 := by
 obtain ⟨t1, t2, t3⟩ := h.tiers a ls x h1 h2
 have hll : ll.length = x.length := by rw [← hl.1]; exact t1
 have hcl : ∀ {key : Nat} {pt : List Nat} {c : Cl}, PtOk ps pt → RepC ps (decide (a + 1 = X.length)) st a key pt c → ClOk (decide (a + 1 = X.length)) m c ∧ c.child ≤ 1000000 := by
  intro key pt c hpt hc
  have h3 := hc.2
  unfold ClOk
  split at h3
  ·rename_i hd
   rw [if_pos hd]
   obtain ⟨r, hr, hok⟩ := h.sums pt hpt
   rw [hr] at h3
   refine ⟨⟨h3.1, by rw [h3.2]; exact hok⟩, by rw [h3.1]; omega⟩
  ·rename_i hd
   rw [if_neg hd]
   have := (List.getElem?_eq_some_iff.1 h3.2).1
   exact ⟨h3.1, by omega⟩
 have hlt : ∀ {k : Nat} {l : List Nat}, ls[k]? = some l → ∀ i ∈ part, keyL ps l a i < 200 := by
  intro k l hk i hi
  obtain ⟨y, hy, hy2⟩ := h.tier h1 h2 hk
  obtain ⟨p, q, z, _, _, _, _, e, hz⟩ := h.key (hp.lt i hi) h1 h2 hk hy
  omega
 have hlen : ∀ {k : Nat} {l : List Nat} {c : List Cl}, ls[k]? = some l → ll[k]? = some c → c.length = (groupsP (keyL ps l a) part).length := fun hk hc => (hl.2 _ _ _ hk hc).1.symm
 have h200 : ∀ key : Nat → Nat, (groupsP key part).length ≤ 200 := by
  intro key
  have := nodup_sub_len _ (List.range 200) (groups_len key part) (fun x hx => by
   obtain ⟨g, hg, rfl⟩ := List.mem_map.1 hx
   exact List.mem_range.2 (mem_groups.1 hg).1)
  simpa using this
 have hlong : ∀ l ∈ ll, l.length ≤ 200 := by
  intro l hl'
  obtain ⟨k, hk, rfl⟩ := List.getElem_of_mem hl'
  obtain ⟨lift, h5, h6⟩ := RepL.left hl (List.getElem?_eq_getElem hk)
  rw [hlen h5 (List.getElem?_eq_getElem hk)]
  exact h200 _
 refine ⟨⟨hll, by dsimp only; omega, by dsimp only; omega, fun l hl' => by have := hlong l hl'; omega, fun y hy => by have := h.small a x h2 y hy; omega, fun k l y hk hy => ?_, fun k l l' hk hk' => ?_, ha.1, (hcl hp ha).2, (hcl hp ha).1⟩, hlong⟩
 ·dsimp only at hk
  obtain ⟨lift, h5, h6⟩ := RepL.left hl hk
  have hg : ∀ (i : Nat) (c : Cl), l[i]? = some c → ∃ g, (groupsP (keyL ps lift a) part)[i]? = some g ∧ RepC ps (decide (a + 1 = X.length)) st a g.1 g.2 c := fun i c hc => RepL.left h6 hc
  refine ⟨?_, fun c hc => ?_, fun c hc => ?_, fun c hc => ?_, fun i hi => ?_⟩
  ·obtain ⟨i, hi⟩ := List.exists_mem_of_ne_nil _ hp.ne
   have := List.length_pos_of_mem (groups_ne hi (hlt h5 i hi))
   rw [hlen h5 hk]
   exact this
  ·obtain ⟨i, hi, rfl⟩ := List.getElem_of_mem hc
   obtain ⟨g, hg1, hg2⟩ := hg i _ (List.getElem?_eq_getElem hi)
   obtain ⟨j, hj, e⟩ := groups_from (List.mem_of_getElem? hg1)
   obtain ⟨p, q, z, _, _, _, _, e2, hz⟩ := h.key (hp.lt j hj) h1 h2 h5 hy
   rw [hg2.1, ← e, e2]
   exact hz
  ·obtain ⟨i, hi, rfl⟩ := List.getElem_of_mem hc
   obtain ⟨g, hg1, hg2⟩ := hg i _ (List.getElem?_eq_getElem hi)
   exact (hcl (hp.group (List.mem_of_getElem? hg1)) hg2).2
  ·obtain ⟨i, hi, rfl⟩ := List.getElem_of_mem hc
   obtain ⟨g, hg1, hg2⟩ := hg i _ (List.getElem?_eq_getElem hi)
   exact (hcl (hp.group (List.mem_of_getElem? hg1)) hg2).1
  ·obtain ⟨g, hg1, hg2⟩ := hg i _ (List.getElem?_eq_getElem (by omega))
   obtain ⟨g', hg1', hg2'⟩ := hg (i + 1) _ (List.getElem?_eq_getElem hi)
   rw [hg2.1, hg2'.1]
   have hr := List.pairwise_iff_getElem.1 (groups_rise (keyL ps lift a) part) i (i + 1) (List.getElem?_eq_some_iff.1 hg1).1 (List.getElem?_eq_some_iff.1 hg1').1 (by omega)
   rw [(List.getElem?_eq_some_iff.1 hg1).2, (List.getElem?_eq_some_iff.1 hg1').2] at hr
   exact hr
 ·dsimp only at hk hk'
  obtain ⟨lift, h5, _⟩ := RepL.left hl hk
  obtain ⟨lift', h5', _⟩ := RepL.left hl hk'
  rw [hlen h5 hk, hlen h5' hk']
  refine groups_fall (hlt h5) (fun i hi j hj e => ?_)
  obtain ⟨y, hy, _⟩ := h.tier h1 h2 h5
  obtain ⟨_, q, z, _, _, e1, e2, e3, _⟩ := h.key (hp.lt i hi) h1 h2 h5 hy
  obtain ⟨_, q', z', _, _, e1', e2', e3', _⟩ := h.key (hp.lt j hj) h1 h2 h5 hy
  rw [e3, e3'] at e
  subst e
  unfold keyL
  rw [e1, e1', h.fall a ls k lift lift' q q' z h1 h5 h5' e2 e2']
end
end Go.Proofs.YthmbgbmcdbdecaaGreat.Tc
