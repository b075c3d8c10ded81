/- Parts of a proof: What stands at and above a line is left as it was. Layer 25: nodes of the call's own; whether what a node leads to is there. -/
import Derived.Test.YthmbgbmcdbdecaaGreatG01
import Derived.Test.YthmbgbmcdbdecaaGreatG05
import Derived.Test.YthmbgbmcdbdecaaGreatG25
import Derived.Maps.Own
import Derived.Maps.OwnOps
import Derived.Maps.OwnSet
import Derived.Maps.Views
namespace Go.Proofs.YthmbgbmcdbdecaaGreat.Base
open Go.RowKit
structure Over (B : Nat) (w w' : World) : Prop where
 size : w.heap.size ≤ w'.heap.size
 block : ∀ k, B ≤ k → k < w.heap.size → w'.heap[k]? = w.heap[k]?
theorem Over.box {B g : Nat} {w w' : World} {t : TypeId} {cs : Array Value} (h : Over B w w') (hb : Box w g t cs) (hg : B ≤ g) : Box w' g t cs := (h.block g hg hb.lt).trans hb
theorem Over.own {B base : Nat} {w w' : World} {e : TypeId} {v : Value} {n : Nat} {xs : List Value} (h : Over B w w') (ho : w.ownsRow base e 1 v n xs) (hB : B ≤ base) : w'.ownsRow base e 1 v n xs := by
 obtain ⟨h1, h2⟩ := ho
 refine ⟨h1, ?_⟩
 rcases h2 with h2 | ⟨g, cap, cur, r1, r2, r3, r4⟩
 ·exact .inl h2
 ·have hlt : g < w.heap.size := by
   rcases Nat.lt_or_ge g w.heap.size with hh | hh
   ·exact hh
   ·rw [Array.getElem?_eq_none hh] at r3; cases r3
  exact .inr ⟨g, cap, cur, r1, r2, (h.block g (by omega) hlt).trans r3, r4⟩
theorem Over.trans {B : Nat} {a b c : World} (h : Over B a b) (k : Over B b c) : Over B a c :=
 ⟨Nat.le_trans h.size k.size, fun i h1 h2 => (k.block i h1 (Nat.lt_of_lt_of_le h2 h.size)).trans (h.block i h1 h2)⟩
theorem Over.mono {B C : Nat} {a b : World} (h : Over B a b) (hBC : B ≤ C) : Over C a b := ⟨h.size, fun i h1 h2 => h.block i (by omega) h2⟩
theorem Over.under {B : Nat} {a b : World} (h : Below a.heap.size a b) : Over B a b := ⟨h.size, fun i _ h2 => h.block i h2⟩
theorem Over.grown {B : Nat} {a b : World} {row : Option Nat} (h : a.grownBy b row) (hr : ∀ g, row = some g → g < B) : Over B a b :=
 ⟨h.size, fun i h1 h2 => h.block i h2 (by intro hh; have := hr i hh.symm; omega)⟩
theorem Over.alloc {B : Nat} (a : World) (o : Obj) : Over B a (a.alloc o) := .under (Below.refl _ _ |>.alloc (Nat.le_refl _) o)
theorem below_grown {B : Nat} {a b : World} {row : Option Nat} (h : a.grownBy b row) (hr : ∀ g, row = some g → B ≤ g) (hB : B ≤ a.heap.size) : Below B a b :=
 ⟨h.os, h.tape, h.output, h.size, fun i hi => h.block i (by omega) (by intro hh; have := hr i hh.symm; omega)⟩
end Go.Proofs.YthmbgbmcdbdecaaGreat.Base
namespace Go.Proofs.YthmbgbmcdbdecaaGreat.Tc
open Go.RowKit Base
set_option linter.unusedVariables false
set_option linter.unusedSimpArgs false
def NdAp (w : World) (v : Value) (n : Nd) : Prop := Ap w v n.A (n.ls.map llV) ∧ ∀ l ∈ n.ls, Ap w v l.A (l.cs.flatMap clV)
theorem NdAp.app {wr w' : World} {v v' : Value} {n : Nd} (h : NdAp wr v n) (ha : App wr w' v v') : NdAp w' v' n := ⟨h.1.app ha, fun l hl => (h.2 l hl).app ha⟩
theorem NdAp.below {w w' : World} {v : Value} {n : Nd} (h : NdAp w v n) (hb : Below w.heap.size w w') : NdAp w' v n := ⟨h.1.below hb, fun l hl => (h.2 l hl).below hb⟩
theorem ap_new {w : World} {v : Value} {A : Option Addr} {vs : List Value} {B : Nat} (hr : Row w w.heap.size A vs) (hf : From B A vs) (hv : ∀ k, v.ownBlock = some k → k < B) : Ap w v A vs :=
 ⟨hr, fun b off e hne hh => by have h1 := hv b hh; have h2 := hf b off e hne; omega⟩
theorem NdAp.new {w : World} {v : Value} {n : Nd} {B : Nat} (h : NdAt w w.heap.size n) (hf : NdFrom B n) (hv : ∀ k, v.ownBlock = some k → k < B) : NdAp w v n := ⟨ap_new h.row hf.1 hv, fun l hl => ap_new (h.each l hl) (hf.2 l hl) hv⟩
theorem NdFrom.less {B B' : Nat} {n : Nd} (h : NdFrom B n) (hB : B' ≤ B) : NdFrom B' n := ⟨h.1.less hB, fun l hl => (h.2 l hl).less hB⟩
def NdsOwn (w : World) (B : Nat) (v : Value) (nds : List Nd) : Prop := w.ownsRow B 108 14 v nds.length (nds.flatMap ndV) ∧ ∀ n ∈ nds, NdAp w v n ∧ NdFrom B n
theorem NdsOwn.nil (w : World) (B : Nat) : NdsOwn w B (.slice none 0 0) [] := ⟨own_nil _ _ _ _, fun x hx => by cases hx⟩
theorem own_over {w w' : World} {B : Nat} {e : TypeId} {sz n : Nat} {v : Value} {xs : List Value} (h : w.ownsRow B e sz v n xs) (ho : Over B w w') : w'.ownsRow B e sz v n xs := by
 obtain ⟨h1, h2⟩ := h
 refine ⟨h1, ?_⟩
 rcases h2 with h2 | ⟨g, cap, cur, e, hB, hh, r⟩
 ·exact .inl h2
 ·exact .inr ⟨g, cap, cur, e, hB, (ho.block g hB (Array.getElem?_eq_some_iff.1 hh).1).trans hh, r⟩
theorem ap_over {w w' : World} {B : Nat} {v : Value} {A : Option Addr} {vs : List Value} (h : Ap w v A vs) (hf : From B A vs) (ho : Over B w w') : Ap w' v A vs := by
 refine ⟨(row_same h.1 (fun b off e hne => ho.block b (hf b off e hne) ?_)).more ho.size, h.2⟩
 rcases h.1 with h0 | ⟨b', off', e', hb, _⟩
 ·exact absurd h0 hne
 ·rw [e] at e'
  injection e' with e'
  injection e' with e1 _ _
  omega
theorem NdsOwn.over {w w' : World} {B : Nat} {v : Value} {nds : List Nd} (h : NdsOwn w B v nds) (ho : Over B w w') : NdsOwn w' B v nds :=
 ⟨own_over h.1 ho, fun n hn => ⟨⟨ap_over (h.2 n hn).1.1 (h.2 n hn).2.1 ho, fun l hl => ap_over ((h.2 n hn).1.2 l hl) ((h.2 n hn).2.2 l hl) ho⟩, (h.2 n hn).2⟩⟩
theorem NdsOwn.below {w w' : World} {B : Nat} {v : Value} {nds : List Nd} (h : NdsOwn w B v nds) (hb : Below w.heap.size w w') : NdsOwn w' B v nds := ⟨own_below h.1 hb, fun n hn => ⟨(h.2 n hn).1.below hb, (h.2 n hn).2⟩⟩
theorem NdsOwn.app {w w' : World} {B n c n' c' : Nat} {A A' : Option Addr} {nds : List Nd} {x : Nd} (h : NdsOwn w B (.slice A n c) nds) (hx : NdAp w (.slice A n c) x) (hf : NdFrom B x)
 (ho : w'.ownsRow B 108 14 (.slice A' n' c') (n + 1) (nds.flatMap ndV ++ ndV x)) (ha : App w w' (.slice A n c) (.slice A' n' c')) (hn : nds.length = n) : NdsOwn w' B (.slice A' n' c') (nds ++ [x]) := by
 refine ⟨?_, fun y hy => ?_⟩
 ·rw [List.length_append, hn, List.flatMap_append, List.flatMap_cons, List.flatMap_nil, List.append_nil]
  exact ho
 ·rcases List.mem_append.1 hy with hy | hy
  ·exact ⟨(h.2 y hy).1.app ha, (h.2 y hy).2⟩
  ·rw [List.mem_singleton.1 hy]; exact ⟨hx.app ha, hf⟩
theorem NdsOwn.at_ {w : World} {B n c : Nat} {A : Option Addr} {nds : List Nd} (h : NdsOwn w B (.slice A n c) nds) : NdsAt w w.heap.size A nds := by
 obtain ⟨A', c', e⟩ := own_formK h.1
 injection e with e1 e2 e3
 subst e1 e2 e3
 exact ⟨row_ownK h.1, fun x hx => ⟨(h.2 x hx).1.1.1, fun l hl => ((h.2 x hx).1.2 l hl).1⟩⟩
abbrev arC (As : Option Addr) (nx cs m : Nat) (An : Option Addr) (nn cn most : Nat) : Array Value := #[.slice As nx cs, .int .i64 (m : Nat), .slice An nn cn, .int .i64 (most : Nat)]
set_option maxHeartbeats 1000000 in
theorem there_any (ga : Nat) (As An : Option Addr) (nx cs m nn cn most : Nat) (w : World) (h : Box w ga 138 (arC As nx cs m An nn cn most)) (hx : 1 ≤ nx) :
 Calls Tryz.prog 70 #[.pointer (some ⟨ga, 0, none⟩)] w fun e w' => e = .returned (.bool true) ∧ w = w' := by
 obtain ⟨⟨a0, a1, a2, a3⟩, _⟩ := Box.four h
 have q1 : (0 : Int) < (nx : Int) := by omega
 have q1d : decide ((0 : Int) < (nx : Int)) = true := decide_eq_true q1
 have q1n : decide (0 < nx) = true := decide_eq_true (by omega)
 clear h
 go_enter Tryz.func70, Tryz.ntmps70
 go_wp2_with fail
 go_ret
 exact ⟨rfl, rfl⟩
set_option maxRecDepth 100000 in
set_option maxHeartbeats 4000000 in
theorem ahead_any (ga gp gn : Nat) (As An : Option Addr) (nx cs m nn cn most dim : Nat) (nv : Array Value) (x : Cl) (b off d1 : Nat) (w : World) (h : Box w ga 138 (arC As nx cs m An nn cn most))
 (hp : w.cell? ⟨gp, 0, none⟩ = some (.pointer (some ⟨ga, 0, none⟩))) (hn0 : w.cell? ⟨gn, 0, none⟩ = some (.int .i64 (dim : Nat))) (hA : An = some ⟨b, off, none⟩) (hc : x.child < nn) (hn : nn ≤ 1000000) (hd : dim ≤ 1000000) (hch : w.cell? ⟨b, off + x.child * 14, none⟩ = some (.int .i64 ((dim + 1 : Nat) : Int))) :
 Calls Tryz.prog 124 #[.agg (clC x), .pointer (some ⟨gp, 0, none⟩), .pointer (some ⟨gn, 0, none⟩)] w fun e w' => e = .returned (.bool true) ∧ Below w.heap.size w w' := by
 obtain ⟨key, child, ag⟩ := x
 dsimp only at hc hch
 subst hA
 have hb0 := (Below.refl w.heap.size w).alloc (Nat.le_refl _) (.cells (clC ⟨key, child, ag⟩) 106)
 have HB := kp (Box.new w 106 (clC ⟨key, child, ag⟩))
 have a2 := ((Box.four (h.under hb0)).1).2.2.1
 have p0 := cell_keep hb0 hp
 have n0 := cell_keep hb0 hn0
 have c0 := cell_keep hb0 hch
 have Hb0 := kp hb0
 have y1 := HB.out.cell 1
 change _ = some (Value.int .i64 ((child : Nat) : Int)) at y1
 clear hp hn0 hch hb0 h
 have q1 : (child : Int) < (nn : Int) := by omega
 have q1d : decide ((child : Int) < (nn : Int)) = true := decide_eq_true q1
 have q2 : (0 : Int) ≤ (child : Int) := by omega
 have hw : IntKind.i64.wrap ((dim : Int) + 1) = (dim : Int) + 1 := IntWalk.i64_in _ (by omega)
 have q4 : (((dim : Int) + 1) == (dim : Int) + 1) = true := by simp
 go_enter Tryz.func124, Tryz.ntmps124
 go_upto_region 1 with fail
 generalize w.alloc (.cells (clC ⟨key, child, ag⟩) 106) = W0 at *
 refine wp_region_noPanic ?_
 refine wp_region_T (t := 99) (S := (fun w' => w'.cell? ⟨w.heap.size, 1, none⟩ = some (.int .i64 (child : Nat)) ∧ w'.cell? ⟨gp, 0, none⟩ = some (.pointer (some ⟨ga, 0, none⟩)) ∧ w'.cell? ⟨ga, 2, none⟩ = some (.slice (some ⟨b, off, none⟩) nn cn) ∧ w'.cell? ⟨b, off + child * 14, none⟩ = some (.int .i64 ((dim + 1 : Nat) : Int)) ∧ w'.cell? ⟨gn, 0, none⟩ = some (.int .i64 (dim : Nat)))) (by kernel_rfl) ⟨y1, p0, a2, c0, n0⟩ (fun hHeld => ?_)
 refine tk 0 hHeld ?_
 refine tk 1 hHeld ?_
 refine tk 2 hHeld ?_
 refine tk 3 hHeld ?_
 refine tk 4 hHeld ?_
 refine tk 5 hHeld ?_
 refine tk 6 hHeld ?_
 refine tk 7 hHeld ?_
 refine tk 8 hHeld ?_
 refine tk 9 hHeld ?_
 refine tk 10 hHeld ?_
 refine tk 11 hHeld ?_
 refine tk 12 hHeld ?_
 refine tk 13 hHeld ?_
 refine tk 14 hHeld ?_
 refine tk 15 hHeld ?_
 refine tk 16 hHeld ?_
 refine tk 17 hHeld ?_
 refine tk 18 hHeld ?_
 refine tk 19 hHeld ?_
 refine tk 20 hHeld ?_
 refine tk 21 hHeld ?_
 refine tk 22 hHeld ?_
 refine tk 23 hHeld ?_
 refine wpAnyT_done (by kernel_rfl) ?_ _
 try clear hHeld
 refine NoPanic.normal ?_
 go_wp2_with fail
 go_ret
 exact ⟨rfl, Hb0.out.drew⟩
def cellsN (n : Nd) : List Cl := n.ls.flatMap Ll.cs ++ [n.all]
def LeadOk (nds : List Nd) (n : Nd) : Prop := ∀ c ∈ cellsN n, ∃ x, nds[c.child]? = some x ∧ x.dim = n.dim + 1
set_option maxRecDepth 100000 in
set_option maxHeartbeats 8000000 in
theorem leads_any (ga : Nat) (As An : Option Addr) (nx cs m cn most : Nat) (nds : List Nd) (n : Nd) (w : World) (h : Box w ga 138 (arC As nx cs m An nds.length cn most)) (hr : Row w w.heap.size An (nds.flatMap ndV)) (hnd : NdAt w w.heap.size n)
 (hx1 : 1 ≤ nx) (hx2 : nx ≤ 16) (hd : n.dim ≤ 1000000) (hnn : nds.length ≤ 1000000) (hn4 : n.ls.length ≤ 4) (hl : ∀ l ∈ n.ls, l.cs.length ≤ 1000) (ho : n.dim + 1 = nx ∨ LeadOk nds n) :
 Calls Tryz.prog 100 #[.pointer (some ⟨ga, 0, none⟩), .agg (ndC n)] w fun e w' => e = .returned (.bool true) ∧ Below w.heap.size w w' := by
 obtain ⟨dim, nA, ls, nc, key, child, ac, s0, n0, x0, s1, n1, x1, s2, n2, x2⟩ := n
 have HE := kp (fun w h => each_any ⟨dim, nA, ls, nc, key, child, ac, s0, n0, x0, s1, n1, x1, s2, n2, x2⟩ w h hn4 hl)
 have Hlen := kp (show (cellsN ⟨dim, nA, ls, nc, key, child, ac, s0, n0, x0, s1, n1, x1, s2, n2, x2⟩).length ≤ 5001 by
  have h1 := count_le hl ls.length
  dsimp only at h1 hn4
  rw [List.take_of_length_le (Nat.le_refl _)] at h1
  unfold cellsN
  rw [List.length_append, cat_len]
  simp only [List.length_cons, List.length_nil]
  omega)
 have Hlead := kp (show dim + 1 = nx ∨ ∀ c ∈ cellsN ⟨dim, nA, ls, nc, key, child, ac, s0, n0, x0, s1, n1, x1, s2, n2, x2⟩, ∃ x, nds[c.child]? = some x ∧ x.dim = dim + 1 from ho)
 have HE2 := kp (show ∀ w, NdAt w w.heap.size ⟨dim, nA, ls, nc, key, child, ac, s0, n0, x0, s1, n1, x1, s2, n2, x2⟩ → Calls Tryz.prog 73 #[.agg (ndC ⟨dim, nA, ls, nc, key, child, ac, s0, n0, x0, s1, n1, x1, s2, n2, x2⟩)] w (ClsNew (cellsN ⟨dim, nA, ls, nc, key, child, ac, s0, n0, x0, s1, n1, x1, s2, n2, x2⟩) w) from HE.out)
 clear HE ho hl
 generalize cellsN ⟨dim, nA, ls, nc, key, child, ac, s0, n0, x0, s1, n1, x1, s2, n2, x2⟩ = cl at *
 have HL := kp (fun w => last_any As nx cs m dim w (by omega) (by omega) hd)
 have HAh := kp ahead_any
 generalize hQ : (fun (e : Ending) w' => e = .returned (.bool true) ∧ Below w.heap.size w w') = Q
 have HQ := kp (show ∀ w', Below w.heap.size w w' → Q (.returned (.bool true)) w' from fun w' hb => by rw [← hQ]; exact ⟨rfl, hb⟩)
 clear hQ
 dsimp only at hd
 dsimp only [ndC] at HE2 ⊢
 obtain ⟨lx, hlx⟩ : ∃ lx, ls.length = lx := ⟨_, rfl⟩
 rw [hlx] at HE2 ⊢
 clear hlx hn4
 obtain ⟨nn, hnn'⟩ : ∃ nn, nds.length = nn := ⟨_, rfl⟩
 have Hnn := kp hnn'
 rw [hnn'] at hnn h
 clear hnn'
 have hb1 := (Below.refl w.heap.size w).alloc (Nat.le_refl _) (.cells #[.pointer (some ⟨ga, 0, none⟩)] 38)
 have hB1 := Box.new w 38 #[.pointer (some ⟨ga, 0, none⟩)]
 have hs1 : (w.alloc (.cells #[.pointer (some ⟨ga, 0, none⟩)] 38)).heap.size = w.heap.size + 1 := by simp
 have hb2 := hb1.alloc hb1.size (.cells #[.int .i64 (dim : Nat), .slice nA lx nc, .int .i64 (key : Nat), .int .i64 (child : Nat), .int .i64 ac, .int .i64 s0, .int .i64 n0, .int .i64 x0, .int .i64 s1, .int .i64 n1, .int .i64 x1, .int .i64 s2, .int .i64 n2, .int .i64 x2] 108)
 have hB1' := hB1.alloc (.cells #[.int .i64 (dim : Nat), .slice nA lx nc, .int .i64 (key : Nat), .int .i64 (child : Nat), .int .i64 ac, .int .i64 s0, .int .i64 n0, .int .i64 x0, .int .i64 s1, .int .i64 n1, .int .i64 x1, .int .i64 s2, .int .i64 n2, .int .i64 x2] 108)
 have hB2 := Box.lay (w := w.alloc (.cells #[.pointer (some ⟨ga, 0, none⟩)] 38)) (t := 108) (cs := #[.int .i64 (dim : Nat), .slice nA lx nc, .int .i64 (key : Nat), .int .i64 (child : Nat), .int .i64 ac, .int .i64 s0, .int .i64 n0, .int .i64 x0, .int .i64 s1, .int .i64 n1, .int .i64 x1, .int .i64 s2, .int .i64 n2, .int .i64 x2]) hs1
 generalize hW0 : (w.alloc (.cells #[.pointer (some ⟨ga, 0, none⟩)] 38)).alloc (.cells #[.int .i64 (dim : Nat), .slice nA lx nc, .int .i64 (key : Nat), .int .i64 (child : Nat), .int .i64 ac, .int .i64 s0, .int .i64 n0, .int .i64 x0, .int .i64 s1, .int .i64 n1, .int .i64 x1, .int .i64 s2, .int .i64 n2, .int .i64 x2] 108) = W0 at *
 have HBp := kp hB1'
 have HBn := kp hB2
 have Hb0 := kp hb2
 have HBa := kp (h.under (hb2.mono (Nat.le_refl _)))
 have Hrow := kp ((hr.below hb2).more hb2.size)
 have Hnd := kp ((hnd.below hb2).more hb2.size)
 have hga : ga < W0.heap.size := HBa.out.lt
 clear hb1 hB1 hs1 hb2 hB1' hB2 h hr hnd
 obtain ⟨⟨a0, a1, a2, a3⟩, _⟩ := Box.four HBa.out
 obtain ⟨p0, _⟩ := HBp.out.one
 obtain ⟨d0, d1, d2, d3, d4, d5, d6, d7, d8, d9, d10, d11, d12, d13⟩ := (Box.fourteen HBn.out).1
 go_enter Tryz.func100, Tryz.ntmps100
 go_upto_region 1 with fail
 clear hW0
 have hgp : w.heap.size < W0.heap.size := HBp.out.lt
 have hgn : w.heap.size + 1 < W0.heap.size := HBn.out.lt
 refine wp_region_noPanic ?_
 refine wp_region_T (t := 99) (S := (fun w' => w'.cell? ⟨w.heap.size, 0, none⟩ = some (.pointer (some ⟨ga, 0, none⟩)) ∧ w'.cell? ⟨ga, 0, none⟩ = some (.slice As nx cs) ∧ w'.cell? ⟨ga, 1, none⟩ = some (.int .i64 (m : Nat)) ∧ w'.cell? ⟨w.heap.size + 1, 0, none⟩ = some (.int .i64 (dim : Nat)))) (by kernel_rfl) ⟨p0, a0, a1, d0⟩ (fun hHeld => ?_)
 refine tk 0 hHeld ?_
 refine tk 1 hHeld ?_
 refine tk 2 hHeld ?_
 refine tk 3 hHeld ?_
 refine tk 4 hHeld ?_
 refine tk 5 hHeld ?_
 refine wpAnyT_one (i := 6) (o := ?op6) (by kernel_rfl) ?ap6 (by decide) (fun K hK => ?bp6)
 case ap6 => (simp only [List.getElem?_toArray, List.getElem?_cons_succ, List.getElem?_cons_zero]; exact rfl)
 go_simp
 refine (HL.out W0.drew).mono ?_
 rintro e wc ⟨rfl, hbc⟩
 have Hbc := kp (show Below W0.heap.size W0 wc from (Below.refl _ _).drew.trans hbc)
 clear hbc
 refine hK.out _ _ ?_ (fun hHeld2 => ?_)
 ·exact ⟨cell_keep Hbc.out p0, cell_keep Hbc.out a0, cell_keep Hbc.out a1, cell_keep Hbc.out d0⟩
 clear hK K hHeld
 have hHeld := hHeld2
 clear hHeld2
 try simp only [Act.put, List.setIfInBounds_toArray, List.set_cons_zero, List.set_cons_succ]
 refine wpAnyT_done (by kernel_rfl) ?_ _
 try clear hHeld
 refine NoPanic.normal ?_
 have Hbec := kp (Hb0.out.trans (Hbc.out.mono Hb0.out.size))
 have HBpc := kp (HBp.out.under Hbc.out)
 have HBnc := kp (HBn.out.under Hbc.out)
 have HBac := kp (HBa.out.under Hbc.out)
 have Hrowc := kp ((Hrow.out.below Hbc.out).more Hbc.out.size)
 have Hndc := kp ((Hnd.out.below Hbc.out).more Hbc.out.size)
 clear p0 a0 a1 a2 a3 d0 d1 d2 d3 d4 d5 d6 d7 d8 d9 d10 d11 d12 d13 HBp HBn HBa Hrow Hnd Hbc hgp hgn hga
 by_cases hlast : dim + 1 = nx
 ·rw [decide_eq_true hlast]
  have Hf := kp (HQ.out _ Hbec.out)
  go_wp2_with fail
  exact Hf.out
 ·have Hle := kp (Hlead.out.resolve_left hlast)
  rw [decide_eq_false hlast]
  clear Hlead
  obtain ⟨d0, d1, d2, d3, d4, d5, d6, d7, d8, d9, d10, d11, d12, d13⟩ := (Box.fourteen HBnc.out).1
  have HEk := kp (HE2.out wc Hndc.out)
  go_wp2_with fail
  refine HEk.out.mono ?_
  rintro e w2 ⟨v2, rfl, hown2, hb2⟩
  obtain ⟨A2, c2, rfl⟩ := own_formK hown2
  have Hown2 := kp (row_ownK hown2)
  have Hb2 := kp (Hbec.out.trans (hb2.mono Hbec.out.size))
  have HBp2 := kp (HBpc.out.under hb2)
  have HBn2 := kp (HBnc.out.under hb2)
  have HBa2 := kp (HBac.out.under hb2)
  have Hrow2 := kp ((Hrowc.out.below hb2).more hb2.size)
  have hl5 := Hlen.out
  obtain ⟨k0, hk0⟩ : ∃ k0, cl.length = k0 := ⟨_, rfl⟩
  have Hk0 := kp hk0
  rw [hk0] at hl5 ⊢
  clear hk0 hown2 hb2 d0 d1 d2 d3 d4 d5 d6 d7 d8 d9 d10 d11 d12 d13
  go_wp2_with fail
  go_loopw [19] (fun v19 wr => ∃ k : Nat, k ≤ k0 ∧ v19 = .int .i64 k ∧ Below w2.heap.size w2 wr) (fun v19 _ => k0 - (intOf v19).toNat)
  case atStart => exact ⟨0, Nat.zero_le _, rfl, Below.refl _ _⟩
  case round =>
   obtain ⟨k, hk, rfl, hbe⟩ := hrel
   have Hbe := kp hbe
   clear hbe
   by_cases hlt : k < k0
   ·have hkl : k < cl.length := by rw [Hk0.out]; exact hlt
    obtain ⟨b, off, hA, hb, c0, c1, c2', c3, c4, c5, c6, c7, c8, c9, c10, c11⟩ := cells_at ((Hown2.out.below Hbe.out).more Hbe.out.size) k hkl
    subst hA
    obtain ⟨x, hx, hxd⟩ := Hle.out _ (List.getElem_mem hkl)
    have HRow := kp Hown2.out
    clear Hown2
    generalize (cl[k]'hkl) = y at *
    have hbG := (Below.refl wr.heap.size wr).alloc (Nat.le_refl _) (.cells (clC y) 106)
    have HBg := kp (Box.new wr 106 (clC y))
    have Hb3 := kp (Hbe.out.trans (hbG.mono Hbe.out.size))
    have hxl := (List.getElem?_eq_some_iff.1 hx).1
    have hrow3 := (Hrow2.out.below Hb3.out).more Hb3.out.size
    obtain ⟨bn, on, hAn, hbn, e0, hrest⟩ := nodes_at hrow3 y.child hxl
    clear hrest
    rw [(List.getElem?_eq_some_iff.1 hx).2, hxd] at e0
    have HA3 := kp (HBa2.out.under Hb3.out)
    have HP3 := kp ((HBp2.out.under Hb3.out).cell 0)
    have HN3 := kp ((HBn2.out.under Hb3.out).cell 0)
    have HAk := kp (HAh.out ga w.heap.size (w.heap.size + 1) As An nx cs m nn cn most dim #[] y bn on 0 (wr.alloc (.cells (clC y) 106)) HA3.out HP3.out HN3.out hAn (by rw [← Hnn.out]; exact hxl) hnn hd e0)
    clear hbG hrow3 e0 hxl hx
    have i0 : (0 : Int) ≤ (k : Int) := by omega
    have i1 : (k : Int) < (k0 : Int) := by omega
    go_upto_region 7 with fail
    clear c0 c1 c2' c3 c4 c5 c6 c7 c8 c9 c10 c11
    generalize wr.alloc (.cells (clC y) 106) = W3 at *
    generalize wr.heap.size = gC at *
    obtain ⟨a0, a1, a2, a3, a4, a5, a6, a7, a8, a9, a10, a11⟩ := (Box.twelve HBg.out).1
    go_wp2_with fail
    refine HAk.out.mono ?_
    rintro e w4 ⟨rfl, hb4⟩
    have Hb4 := kp (Hb3.out.trans (hb4.mono Hb3.out.size))
    clear hb4 a0 a1 a2 a3 a4 a5 a6 a7 a8 a9 a10 a11
    go_wp2_with fail
    exact ⟨⟨k + 1, by omega, by go_num, Hb4.out⟩, by simp [intOf]; omega⟩
   ·obtain rfl : k = k0 := by omega
    have Hf := kp (HQ.out _ (Hb2.out.trans (Hbe.out.mono Hb2.out.size)))
    go_wp2_with fail
    exact Hf.out
end Go.Proofs.YthmbgbmcdbdecaaGreat.Tc
