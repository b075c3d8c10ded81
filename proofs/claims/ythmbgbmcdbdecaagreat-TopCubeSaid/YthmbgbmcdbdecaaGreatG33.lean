/- Parts of a proof: Layer 26: what the function of a dimension stands on (before its walk). Layer 26: a node added to what is built; what the dimensions ahead leave alone. -/
import Derived.Test.YthmbgbmcdbdecaaGreatG21
import Derived.Test.YthmbgbmcdbdecaaGreatG27
import Derived.Test.YthmbgbmcdbdecaaGreatG30
import Derived.Test.YthmbgbmcdbdecaaGreatG32
namespace Go.Proofs.YthmbgbmcdbdecaaGreat.Tc
open Go.RowKit Base
set_option linter.unusedVariables false
set_option linter.unusedSimpArgs false
theorem LsLoc.app {w w' : World} {F : Nat → Prop} {B B2 n c n' c' : Nat} {A A' : Option Addr} {ls : List Ll} {l : Ll} (h : LsLoc w F B (.slice A n c) ls) (hc : CsLoc w F B2 (.slice l.A l.cs.length l.c) l.cs) (hB : B ≤ B2) (hlt : ∀ k, (Value.slice A n c).ownBlock = some k → k < B2)
 (ho : w'.ownsRow B 142 1 (.slice A' n' c') (n + 1) (ls.map llV ++ [llV l])) (ha : App w w' (.slice A n c) (.slice A' n' c')) (hn : ls.length = n) (hF : ∀ k, F k → k < w.heap.size) : LsLoc w' F B (.slice A' n' c') (ls ++ [l]) := by
 have hap : Ap w (.slice A n c) l.A (l.cs.flatMap clV) := ap_new (row_ownK hc.own) (From.own hc.own (Nat.le_refl _)) hlt
 refine ⟨h.own.app hap (From.own hc.own hB) ho ha hn, fun k hk hf => ?_, fun x hx k hk => ?_⟩
 ·rcases ha.lies with hl | ⟨j, hl, hj⟩
  ·rw [hl] at hk; exact h.off k hk hf
  ·rw [hl] at hk
   injection hk with hk
   have := hF k hf
   omega
 ·rcases List.mem_append.1 hx with hx | hx
  ·exact h.each x hx k hk
  ·rw [List.mem_singleton.1 hx] at hk
   obtain ⟨hne, off, e⟩ := hk
   exact hc.off k (by rw [e]; rfl)
theorem LsLoc.far {w : World} {F : Nat → Prop} {B : Nat} {v : Value} {ls : List Ll} (h : LsLoc w F B v ls) {p : Addr} (hp : p.block < B) (u : Value) : LsLoc (w.setCell p u) F B v ls := ⟨h.own.far hp u, h.off, h.each⟩
theorem CsLoc.app {w w' : World} {F : Nat → Prop} {B n c n' c' : Nat} {A A' : Option Addr} {cs : List Cl} {x : Cl} (h : CsLoc w F B (.slice A n c) cs)
 (ho : w'.ownsRow B 106 12 (.slice A' n' c') (n + 1) (cs.flatMap clV ++ clV x)) (ha : App w w' (.slice A n c) (.slice A' n' c')) (hn : cs.length = n) (hF : ∀ k, F k → k < w.heap.size) : CsLoc w' F B (.slice A' n' c') (cs ++ [x]) := by
 refine ⟨by rw [List.length_append, hn, List.flatMap_append, List.flatMap_cons, List.flatMap_nil, List.append_nil]; exact ho, fun k hk hf => ?_⟩
 rcases ha.lies with hl | ⟨j, hl, hj⟩
 ·rw [hl] at hk; exact h.off k hk hf
 ·rw [hl] at hk
  injection hk with hk
  have := hF k hf
  omega
theorem ps_get {b : Bc} {i : Nat} {p : List Nat × Ag} (h : b.ps[i]? = some p) : ∃ f, b.fs[i]? = some f ∧ p = (f.keys, f.ag) := by
 unfold Bc.ps pls at h
 rw [List.getElem?_map] at h
 obtain ⟨f, hf, e⟩ := Option.map_eq_some_iff.1 h
 exact ⟨f, hf, e.symm⟩
theorem lifts_get {b : Bc} {a : Nat} {ls : List (List Nat)} (h : b.lifts[a]? = some ls) : ∃ r, b.rs[a]? = some r ∧ ls = r.fs.map Fa.keys := by
 unfold Bc.lifts at h
 rw [List.getElem?_map] at h
 obtain ⟨f, hf, e⟩ := Option.map_eq_some_iff.1 h
 exact ⟨f, hf, e.symm⟩
theorem keyAt_of {b : Bc} (hb : b.Ok) {w : World} (hro : b.Ro w) (hl : b.B ≤ w.heap.size) {at_ k : Nat} {r : Rn} {lf : Fa} (hr : b.rs[at_]? = some r) (hf : r.fs[k]? = some lf) {part : List Nat} (hp : PtOk b.ps part) :
 KeyAt w b.Af b.fs b.Al b.rs at_ k r lf part (keyL b.ps lf.keys at_) := by
 have h1 : b.lifts[at_]? = some (r.fs.map Fa.keys) := by unfold Bc.lifts; rw [List.getElem?_map, hr]; rfl
 have hat : at_ < b.X.length := by rw [← hb.cfg.len]; exact (List.getElem?_eq_some_iff.1 h1).1
 have h2 := List.getElem?_eq_getElem hat
 have h3 : (r.fs.map Fa.keys)[k]? = some lf.keys := by rw [List.getElem?_map, hf]; rfl
 obtain ⟨y, hy, hy2⟩ := hb.cfg.tier h1 h2 h3
 have ht := hb.cfg.tiers at_ _ _ h1 h2
 rw [List.length_map] at ht
 have hx0 := List.getElem?_eq_getElem (l := b.X[at_]) (i := 0) (by omega)
 have hll := (hb.cfg.lift at_ _ _ k _ y _ h1 h2 h3 hy hx0).1
 have hn := hb.cfg.nps
 rw [fs_len] at hn
 have hr16 := rs_len hb
 have h16 := hb.cfg.n16
 refine ⟨(hro.facts).more hl, (hro.lifts).more hl, hr, hf, fun i hi => ?_, by omega, by omega, by omega, by omega, fun f hf' => ?_⟩
 ·obtain ⟨p, q, z, e1, e2, e3, e4, e5, e6⟩ := hb.cfg.key (hp.lt i hi) h1 h2 h3 hy
  obtain ⟨f, hf', rfl⟩ := ps_get e1
  exact ⟨f, q, z, hf', e2, e4, e5, by omega⟩
 ·obtain ⟨i, hi, rfl⟩ := List.getElem_of_mem hf'
  have hpi : b.ps[i]? = some (b.fs[i].keys, b.fs[i].ag) := by unfold Bc.ps pls; rw [List.getElem?_map, List.getElem?_eq_getElem hi]; rfl
  have := (hb.cfg.keys i _ hpi).1
  dsimp only at this
  omega
theorem groups_200 (key : Nat → Nat) (part : List Nat) : (groupsP key part).length ≤ 200 := by
 have := nodup_sub_len _ (List.range 200) (groups_len key part) (fun x hx => by
  obtain ⟨g, hg, rfl⟩ := List.mem_map.1 hx
  exact List.mem_range.2 (mem_groups.1 hg).1)
 simpa using this
def LoopI (b : Bc) (f : Option Rec) (at_ : Nat) (part : List Nat) (F0 : Nat → Prop) (w : World) (gN : Nat) (lifts : List (List Nat)) (tot2 : Option (St × List (List Cl))) (k : Nat) (wr : World) : Prop :=
 ∃ (F : Nat → Prop) (An : Option Addr) (cn : Nat) (nds : List Nd) (st : St) (err : Nat) (A : Option Addr) (c : Nat) (ls : List Ll), Mid b F0 w wr F An cn nds st err ∧ (∀ k, F0 k → F k) ∧ Box wr gN 108 #[.int .i64 (at_ : Nat), .slice A k c, .int .i64 0, .int .i64 0, .int .i64 0, .int .i64 0, .int .i64 0, .int .i64 0, .int .i64 0, .int .i64 0, .int .i64 0, .int .i64 0, .int .i64 0, .int .i64 0] ∧ ¬ F gN ∧
  LsLoc wr F (gN + 1) (.slice A k c) ls ∧ ls.length = k ∧ (err = 0 ∨ err = 7) ∧ (err = 0 → Good b.ps b.lifts b.X.length st) ∧ (err = 0 → listsV b.ps f at_ part (lifts.drop k) (st, ls.map Ll.cs) = tot2) ∧ (err = 7 → tot2 = none)
def LoopJ (b : Bc) (f : Option Rec) (F0 : Nat → Prop) (w : World) (gs : List (Nat × List Nat)) (tot : Option (St × List Cl)) (j : Nat) (A : Option Addr) (c : Nat) (wr : World) : Prop :=
 ∃ (F : Nat → Prop) (An : Option Addr) (cn : Nat) (nds : List Nd) (st : St) (err : Nat) (cs : List Cl), Mid b F0 w wr F An cn nds st err ∧ (∀ k, F0 k → F k) ∧ CsLoc wr F w.heap.size (.slice A j c) cs ∧ cs.length = j ∧ (err = 0 ∨ err = 7) ∧ (err = 0 → Good b.ps b.lifts b.X.length st) ∧ (err = 0 → rowV b.ps f (gs.drop j) (st, cs) = tot) ∧ (err = 7 → tot = none)
theorem node_none {b : Bc} {f : Option Rec} {at_ : Nat} {part : List Nat} {st : St} (hf : findP at_ part st.parts = none) : nodeV b.ps b.lifts b.most f at_ part st = (listsV b.ps f at_ part ((b.lifts[at_]?).getD []) (st, [])).bind fun r => (cellV b.ps f 0 part r.1).bind fun q =>
 if q.1.nodes.length < b.most then some (⟨q.1.nodes ++ [⟨at_, r.2, q.2⟩], q.1.parts ++ [(at_, part)]⟩, q.1.nodes.length) else none := by
 unfold nodeV
 rw [hf]
theorem node_some {b : Bc} {f : Option Rec} {at_ : Nat} {part : List Nat} {st : St} {i : Nat} (hf : findP at_ part st.parts = some i) : nodeV b.ps b.lifts b.most f at_ part st = some (st, i) := by
 unfold nodeV
 rw [hf]
end Go.Proofs.YthmbgbmcdbdecaaGreat.Tc
namespace Go.Proofs.YthmbgbmcdbdecaaGreat.Tc
open Go.RowKit Base Go.Maps Go.WideMaps
set_option linter.unusedVariables false
set_option linter.unusedSimpArgs false
def Deep (a : Nat) (st st' : St) : Prop := ∃ qs, st'.parts = st.parts ++ qs ∧ ∀ q ∈ qs, a ≤ q.1
theorem Deep.refl (a : Nat) (st : St) : Deep a st st := ⟨[], by simp, by simp⟩
theorem Deep.trans {a : Nat} {x y z : St} (h : Deep a x y) (k : Deep a y z) : Deep a x z := by
 obtain ⟨q1, e1, h1⟩ := h
 obtain ⟨q2, e2, h2⟩ := k
 refine ⟨q1 ++ q2, by rw [e2, e1, List.append_assoc], fun q hq => ?_⟩
 rcases List.mem_append.1 hq with hq | hq
 ·exact h1 q hq
 ·exact h2 q hq
theorem Deep.less {a a' : Nat} {x y : St} (h : Deep a x y) (ha : a' ≤ a) : Deep a' x y := by
 obtain ⟨q1, e1, h1⟩ := h
 exact ⟨q1, e1, fun q hq => Nat.le_trans ha (h1 q hq)⟩
def RecDeep (a : Nat) (f : Rec) : Prop := ∀ part st r, f part st = some r → Deep a st r.1
def NextDeep (a : Nat) (f : Option Rec) : Prop := match f with
 | none => True
 | some g => RecDeep (a + 1) g
section
variable {ps : List (List Nat × Ag)} {lifts : List (List (List Nat))} {a : Nat} {f : Option Rec}
theorem cellV_deep (hf : NextDeep a f) {key : Nat} {part : List Nat} {st : St} {r : St × Cl} (h : cellV ps f key part st = some r) : Deep (a + 1) st r.1 := by
 unfold cellV at h
 unfold NextDeep at hf
 split at h
 ·injection h with h
  subst h
  exact Deep.refl _ _
 ·obtain ⟨q, hq, e⟩ := Option.map_eq_some_iff.1 h
  subst e
  exact hf _ _ _ hq
theorem rowV_deep (hf : NextDeep a f) : ∀ (gs : List (Nat × List Nat)) (s r : St × List Cl), rowV ps f gs s = some r → Deep (a + 1) s.1 r.1
 | [], s, r, h => by
  injection h with h
  subst h
  exact Deep.refl _ _
 | g :: gs, s, r, h => by
  unfold rowV at h
  obtain ⟨q, hq, h⟩ := Option.bind_eq_some_iff.1 h
  exact (cellV_deep hf hq).trans (rowV_deep hf gs _ _ h)
theorem listsV_deep (hf : NextDeep a f) {part : List Nat} : ∀ (ls : List (List Nat)) (s r : St × List (List Cl)), listsV ps f a part ls s = some r → Deep (a + 1) s.1 r.1
 | [], s, r, h => by
  injection h with h
  subst h
  exact Deep.refl _ _
 | l :: ls, s, r, h => by
  unfold listsV at h
  obtain ⟨q, hq, h⟩ := Option.bind_eq_some_iff.1 h
  exact (rowV_deep hf _ _ _ hq).trans (listsV_deep hf ls _ _ h)
theorem nodeV_deep (hf : NextDeep a f) (most : Nat) : RecDeep a (nodeV ps lifts most f a) := by
 intro part st r h
 unfold nodeV at h
 split at h
 ·injection h with h
  subst h
  exact Deep.refl _ _
 ·obtain ⟨q, hq, h⟩ := Option.bind_eq_some_iff.1 h
  obtain ⟨x, hx, h⟩ := Option.bind_eq_some_iff.1 h
  have hd := ((listsV_deep hf _ _ _ hq).trans (cellV_deep hf hx)).less (Nat.le_succ a)
  split at h
  ·injection h with h
   subst h
   exact hd.trans ⟨[(a, part)], rfl, fun q hq => by rw [List.mem_singleton.1 hq]; exact Nat.le_refl _⟩
  ·cases h
theorem visit_deep {most nd : Nat} : ∀ {d : Nat}, d < nd → RecDeep (nd - 1 - d) (visit ps lifts most nd d)
 | 0, h => nodeV_deep (f := none) trivial most
 | d + 1, h => by
  refine nodeV_deep (f := some (visit ps lifts most nd d)) ?_ most
  have e : nd - 1 - (d + 1) + 1 = nd - 1 - d := by omega
  unfold NextDeep
  dsimp only
  rw [e]
  exact visit_deep (by omega)
end
theorem find_deep {a : Nat} {part : List Nat} {st st' : St} (h : findP a part st.parts = none) (hd : Deep (a + 1) st st') : findP a part st'.parts = none := by
 obtain ⟨qs, e, hq⟩ := hd
 unfold findP at *
 rw [e, List.findIdx?_append, h]
 have : (qs.findIdx? fun x => x == (a, part)) = none := by
  rw [List.findIdx?_eq_none_iff]
  intro q hq'
  have := hq q hq'
  have hne : q ≠ (a, part) := fun e => by rw [e] at this; dsimp only at this; omega
  simpa using hne
 rw [this]
 rfl
theorem LsLoc.farAll {F : Nat → Prop} {B g : Nat} {v : Value} {ls : List Ll} (hg : g < B) : ∀ (vs : List Value) (w : World) (o : Nat), LsLoc w F B v ls → LsLoc (setAll w g o vs) F B v ls
 | [], _, _, h => h
 | u :: vs, w, o, h => LsLoc.farAll hg vs _ _ (h.far (p := ⟨g, o, none⟩) hg u)
section
variable {b : Bc} {F0 F : Nat → Prop} {w W w7 w8 : World} {An An' : Option Addr} {cn cn' : Nat} {nds : List Nd} {n' : Nd} {st : St} {pn : PNode} {p : Nat × List Nat}
theorem Mid.fail (hb : b.Ok) (h : Mid b F0 w W F An cn nds st 0) (h0 : F0 b.gb) : Mid b F0 w (W.setCell ⟨b.gb, 4, none⟩ (.int .i64 7)) F An cn nds st 7 := by
 have hd := h.dy
 have hh : ∀ k, k ≠ b.gb → (W.setCell ⟨b.gb, 4, none⟩ (.int .i64 7)).heap[k]? = W.heap[k]? := fun k hk => Below.heap_setCell W ⟨b.gb, 4, none⟩ _ k hk
 have hz : (W.setCell ⟨b.gb, 4, none⟩ (.int .i64 7)).heap.size = W.heap.size := by simp
 refine ⟨⟨by rw [hz]; exact hd.line, hd.fF, hd.fo, fun k hk => by rw [hz]; exact hd.flt k hk, hd.bbox.set 4 _, (hh _ hb.ba.symm).trans hd.abox, hd.nodes.over ⟨Nat.le_of_eq hz.symm, fun k hk _ => hh k (by have := hb.bB; omega)⟩, hd.frow, hd.finn, hd.plain, hd.most, hd.len, hd.met.same (hh _ hb.bm.symm)⟩, h.turn.trans (Turn.set _ _ _ h0), fun k hk => more_sub (Nat.le_refl _) (Nat.le_of_eq hz.symm) (h.sub k hk)⟩
theorem Mid.added (hb : b.Ok) (h : Mid b F0 w W F An cn nds st 0) (hp : plN n' = pn) (ho : NdsOwn w7 b.B (.slice An' (nds.length + 1) cn') (nds ++ [n'])) (ha : Box w7 b.ga 138 (arC b.As b.xs.length b.cs b.m An' (nds.length + 1) cn' b.most))
 (hlies : (Value.slice An' (nds.length + 1) cn').ownBlock = (Value.slice An nds.length cn).ownBlock ∨ ∃ k, (Value.slice An' (nds.length + 1) cn').ownBlock = some k ∧ W.heap.size ≤ k) (hfr : NdFrom W.heap.size n') (ht : Turn (fun k => k = b.ga ∨ isRow (.slice An nds.length cn) k) W w7)
 (hlt : nds.length < b.most) (hg : w7.grownBy w8 (some b.gm)) (hmet : MetP w8 b.gm (st.parts ++ [p])) : Mid b F0 w w8 (more F W w8) An' cn' (nds ++ [n']) ⟨st.nodes ++ [pn], st.parts ++ [p]⟩ 0 := by
 have hd := h.dy
 have hz7 : W.heap.size ≤ w7.heap.size := ht.size
 have hz8 : w7.heap.size ≤ w8.heap.size := hg.size
 have hga : F b.ga := hd.fo _ (.inr (.inl rfl))
 have hgm : F b.gm := hd.fo _ (.inr (.inr rfl))
 have hkeep : ∀ k, k < W.heap.size → k ≠ b.ga → ¬ isRow (.slice An nds.length cn) k → k ≠ b.gm → w8.heap[k]? = W.heap[k]? := fun k hk h1 h2 h3 =>
  (hg.block k (by omega) (fun e => h3 (Option.some.inj e))).trans (ht.block k hk (fun e => e.elim h1 h2))
 have hrow : ∀ k, isRow (.slice An nds.length cn) k → b.B ≤ k := fun k hk => (hd.nodes.1.lt k hk).1
 have ho8 : NdsOwn w8 b.B (.slice An' (nds.length + 1) cn') (nds ++ [n']) := ho.over ⟨hz8, fun k hk hl => hg.block k hl (fun e => by have := Option.some.inj e; have := hb.mB; omega)⟩
 have hlen : (nds ++ [n']).length = nds.length + 1 := by rw [List.length_append]; rfl
 refine ⟨⟨Nat.le_trans hd.line (Nat.le_trans hz7 hz8), fun k hk => ?_, fun k hk => .inl (hd.fo k hk), fun k hk => ?_, ?_, ?_, by rw [hlen]; exact ho8, fun k hk => ?_, fun n hn k hk => ?_, ?_, by rw [hlen]; exact hlt, ?_, hmet⟩, ⟨?_, ?_, ?_, ?_, ?_⟩, fun k hk => ?_⟩
 ·rcases hk with hk | ⟨hk, _⟩
  ·exact hd.fF k hk
  ·exact .inl (Nat.le_trans hd.line hk)
 ·rcases hk with hk | ⟨_, hk⟩
  ·have := hd.flt k hk; omega
  ·exact hk
 ·exact (hkeep b.gb hd.bbox.lt hb.ba (fun hr => by have := hrow _ hr; have := hb.bB; omega) hb.bm).trans hd.bbox
 ·rw [hlen]
  exact (hg.block b.ga ha.lt (fun e => hb.am (Option.some.inj e))).trans ha
 ·rw [hlen] at hk
  rcases hlies with hl | ⟨j, hl, hj⟩
  ·rw [hl] at hk; exact .inl (hd.frow k hk)
  ·have := (ho8.1.lt k hk).2
   rw [hl] at hk
   injection hk with hk
   exact .inr ⟨by omega, this⟩
 ·rcases List.mem_append.1 hn with hn | hn
  ·exact .inl (hd.finn n hn k hk)
  ·have hn' := ho8.2 n (List.mem_append_right _ hn)
   rw [List.mem_singleton.1 hn] at hk hn'
   rcases hk with hk | ⟨l, hl, hk⟩
   ·have := Row.foot_lt hn'.1.1.1 hk
    obtain ⟨hne, off, e⟩ := hk
    exact .inr ⟨hfr.1 k off e hne, this⟩
   ·have := Row.foot_lt (hn'.1.2 l hl).1 hk
    obtain ⟨hne, off, e⟩ := hk
    exact .inr ⟨hfr.2 l hl k off e hne, this⟩
 ·rw [List.map_append, hd.plain, List.map_cons, List.map_nil, hp]
 ·dsimp only
  rw [List.length_append, List.length_append, hd.len]
  rfl
 ·exact hg.os.trans (ht.os.trans h.turn.os)
 ·exact hg.tape.trans (ht.tape.trans h.turn.tape)
 ·exact hg.output.trans (ht.output.trans h.turn.output)
 ·have := h.turn.size; omega
 ·intro i hi hn
  have hf := h.off hi hn
  have := h.turn.size
  exact (hkeep i (by omega) (fun e => hf (e ▸ hga)) (fun hr => hf (hd.frow i hr)) (fun e => hf (e ▸ hgm))).trans (h.turn.block i hi hn)
 ·rcases hk with hk | ⟨hk, hk2⟩
  ·exact more_sub (Nat.le_refl _) (by omega) (h.sub k hk)
  ·have := h.turn.size
   exact .inr ⟨by omega, hk2⟩
end
theorem X_len {b : Bc} : b.X.length = b.xs.length := by unfold Bc.X; rw [List.length_map]
theorem add_call {b : Bc} (hb : b.Ok) {W : World} {F : Nat → Prop} {An A1 : Option Addr} {cn c1 at_ : Nat} {nds : List Nd} {st : St} {ls : List Ll} {cx : Cl} {part : List Nat} {L : List (List Nat)} (hd : b.Dy W F An cn nds st 0) (hro : b.Ro W) (hat : at_ < b.X.length) (hnd : NdAt W W.heap.size ⟨at_, A1, ls, c1, cx⟩)
 (hg : Good b.ps b.lifts b.X.length st) (hp : PtOk b.ps part) (hL : b.lifts[at_]? = some L) (hl : RepLs b.ps (decide (at_ + 1 = b.X.length)) st at_ part L (ls.map Ll.cs)) (hc : RepC b.ps (decide (at_ + 1 = b.X.length)) st at_ 0 part cx) :
 Calls Tryz.prog 67 #[.pointer (some ⟨b.ga, 0, none⟩), .agg (ndC ⟨at_, A1, ls, c1, cx⟩)] W (AddRet b.B b.ga b.As b.xs.length b.cs b.m An cn b.most nds (plN ⟨at_, A1, ls, c1, cx⟩) W) := by
 have hX : b.X[at_]? = some ((b.xs[at_]'(by rw [← X_len]; exact hat)).keys) := by unfold Bc.X; rw [List.getElem?_map, List.getElem?_eq_getElem (by rw [← X_len]; exact hat)]; rfl
 have hnl : nds.length = st.nodes.length := by rw [← hd.plain, List.length_map]
 have hnm := hd.most
 have hbm := hb.most
 obtain ⟨k1, k2⟩ := built_ok hb.cfg hL hX hp (by rw [hd.len, ← hnl]; omega) hl hc
 have h16 := hb.cfg.n16
 have k1' : ∀ N, N = b.X.length → PnOk (decide (at_ + 1 = N)) (b.xs[at_]'(by rw [← X_len]; exact hat)).keys b.m ⟨at_, ls.map Ll.cs, cx⟩ := by rintro _ rfl; exact k1
 refine aadd_any b.B b.ga b.As An b.xs b.cs b.m cn b.most nds ⟨at_, A1, ls, c1, cx⟩ W hb.aB hd.line hd.abox (hro.shape.more hd.line) hd.nodes hnd (by rw [← X_len]; exact h16) hb.cfg.m1 hb.cfg.m3 (by omega) hbm (by rw [← X_len]; exact hat) (k1' _ X_len.symm) (fun l hl' => ?_) ?_
 ·have := k2 l.cs (List.mem_map_of_mem hl')
  omega
 ·by_cases hlast : at_ + 1 = b.xs.length
  ·exact .inl hlast
  ·refine .inr (fun c hc' => ?_)
   have hrn : RepN b.ps b.lifts b.X.length st at_ part ⟨at_, ls.map Ll.cs, cx⟩ := ⟨rfl, by rw [hL]; exact hl, hc⟩
   have hmem : c ∈ cellsP ⟨at_, ls.map Ll.cs, cx⟩ := by
    unfold cellsN at hc'
    unfold cellsP
    simpa [List.flatMap_def] using hc'
   obtain ⟨q, hq⟩ := hrn.lead (by rw [X_len]; exact hlast) hmem
   have hlt := (List.getElem?_eq_some_iff.1 hq).1
   rw [hd.len] at hlt
   have hn := List.getElem?_eq_getElem hlt
   have hr := hg.rep _ _ _ hn hq
   have hlt2 : c.child < nds.length := by omega
   refine ⟨nds[c.child], List.getElem?_eq_getElem hlt2, ?_⟩
   have e : plN nds[c.child] = st.nodes[c.child] := by
    have h1 : (nds.map plN)[c.child]? = st.nodes[c.child]? := by rw [hd.plain]
    rw [List.getElem?_map, List.getElem?_eq_getElem hlt2, hn] at h1
    injection h1
   have h2 := hr.dim
   rw [← e] at h2
   exact h2
end Go.Proofs.YthmbgbmcdbdecaaGreat.Tc
