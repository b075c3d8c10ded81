/- Parts of a proof: Layer 25: a node added to an arena. -/
import Derived.Test.YthmbgbmcdbdecaaGreatG05
import Derived.Test.YthmbgbmcdbdecaaGreatG23
import Derived.Test.YthmbgbmcdbdecaaGreatG24
import Derived.Test.YthmbgbmcdbdecaaGreatG29
import Derived.Maps.Own
import Derived.Maps.OwnOps
import Derived.Maps.OwnSet
import Derived.Maps.Views
namespace Go.Proofs.YthmbgbmcdbdecaaGreat.Tc
open Go.RowKit Base
set_option linter.unusedVariables false
set_option linter.unusedSimpArgs false
theorem keep14 {w w' : World} {g : Nat} {v0 v1 v2 v3 v4 v5 v6 v7 v8 v9 v10 v11 v12 v13 : Value} (hb : w'.heap[g]? = w.heap[g]?) (h : w.cell? ⟨g, 0, none⟩ = some v0 ∧ w.cell? ⟨g, 1, none⟩ = some v1 ∧ w.cell? ⟨g, 2, none⟩ = some v2 ∧ w.cell? ⟨g, 3, none⟩ = some v3 ∧ w.cell? ⟨g, 4, none⟩ = some v4 ∧ w.cell? ⟨g, 5, none⟩ = some v5 ∧ w.cell? ⟨g, 6, none⟩ = some v6 ∧ w.cell? ⟨g, 7, none⟩ = some v7 ∧ w.cell? ⟨g, 8, none⟩ = some v8 ∧ w.cell? ⟨g, 9, none⟩ = some v9 ∧ w.cell? ⟨g, 10, none⟩ = some v10 ∧ w.cell? ⟨g, 11, none⟩ = some v11 ∧ w.cell? ⟨g, 12, none⟩ = some v12 ∧ w.cell? ⟨g, 13, none⟩ = some v13) : w'.cell? ⟨g, 0, none⟩ = some v0 ∧ w'.cell? ⟨g, 1, none⟩ = some v1 ∧ w'.cell? ⟨g, 2, none⟩ = some v2 ∧ w'.cell? ⟨g, 3, none⟩ = some v3 ∧ w'.cell? ⟨g, 4, none⟩ = some v4 ∧ w'.cell? ⟨g, 5, none⟩ = some v5 ∧ w'.cell? ⟨g, 6, none⟩ = some v6 ∧ w'.cell? ⟨g, 7, none⟩ = some v7 ∧ w'.cell? ⟨g, 8, none⟩ = some v8 ∧ w'.cell? ⟨g, 9, none⟩ = some v9 ∧ w'.cell? ⟨g, 10, none⟩ = some v10 ∧ w'.cell? ⟨g, 11, none⟩ = some v11 ∧ w'.cell? ⟨g, 12, none⟩ = some v12 ∧ w'.cell? ⟨g, 13, none⟩ = some v13 := by
 obtain ⟨h0, h1, h2, h3, h4, h5, h6, h7, h8, h9, h10, h11, h12, h13⟩ := h
 have e : ∀ i, w'.cell? ⟨g, i, none⟩ = w.cell? ⟨g, i, none⟩ := fun i => World.cell?_of_block (a := ⟨g, i, none⟩) hb
 simp only [e]
 exact ⟨h0, h1, h2, h3, h4, h5, h6, h7, h8, h9, h10, h11, h12, h13⟩
def isRow (v : Value) (k : Nat) : Prop := v.ownBlock = some k
def AddRet (B ga : Nat) (As : Option Addr) (nx cs m : Nat) (An : Option Addr) (cn most : Nat) (nds : List Nd) (p : PNode) (w : World) (e : Ending) (w' : World) : Prop :=
 (nds.length < most → ∃ (An' : Option Addr) (cn' : Nat) (n' : Nd), e = .returned (.tuple #[.int .i64 (nds.length : Nat), .int .i64 0]) ∧ plN n' = p ∧ NdsOwn w' B (.slice An' (nds.length + 1) cn') (nds ++ [n']) ∧ Box w' ga 138 (arC As nx cs m An' (nds.length + 1) cn' most) ∧
   ((Value.slice An' (nds.length + 1) cn').ownBlock = (Value.slice An nds.length cn).ownBlock ∨ ∃ k, (Value.slice An' (nds.length + 1) cn').ownBlock = some k ∧ w.heap.size ≤ k) ∧ NdFrom w.heap.size n' ∧ Turn (fun k => k = ga ∨ isRow (.slice An nds.length cn) k) w w') ∧
 (¬ nds.length < most → e = .returned (.tuple #[.int .i64 0, .int .i64 7]) ∧ Below w.heap.size w w')
set_option maxRecDepth 100000 in
set_option maxHeartbeats 8000000 in
theorem aadd_any (B ga : Nat) (As An : Option Addr) (xs : List Fa) (cs m cn most : Nat) (nds : List Nd) (n : Nd) (w : World) (hgB : ga < B) (hBw : B ≤ w.heap.size) (h : Box w ga 138 (arC As xs.length cs m An nds.length cn most)) (hx : IlsAt w w.heap.size As xs) (hown : NdsOwn w B (.slice An nds.length cn) nds) (hnd : NdAt w w.heap.size n)
 (hn2 : xs.length ≤ 16) (hm1 : 1 ≤ m) (hm : m ≤ 3) (hnn : nds.length ≤ 1000000) (hmost : most ≤ 1000000) (hdim : n.dim < xs.length) (ho : PnOk (decide (n.dim + 1 = xs.length)) (xs[n.dim]'hdim).keys m (plN n)) (hl : ∀ l ∈ n.ls, l.cs.length ≤ 1000) (hlead : n.dim + 1 = xs.length ∨ LeadOk nds n) :
 Calls Tryz.prog 67 #[.pointer (some ⟨ga, 0, none⟩), .agg (ndC n)] w (AddRet B ga As xs.length cs m An cn most nds (plN n) w) := by
 obtain ⟨i0, ti0, tz0, tz1, tz2⟩ := info_parts info_node
 have hn4 : n.ls.length ≤ 4 := by have := ho.n4; unfold plN at this; rw [List.length_map] at this; exact this
 have HT := kp (fun w h => there_any ga As An xs.length cs m nds.length cn most w h (by omega))
 have HC := kp (fun w h1 h2 => ncheck_any As cs m xs n w h1 h2 hn2 hm1 hm hdim ho)
 have HL := kp (fun w h1 h2 h3 => leads_any ga As An xs.length cs m cn most nds n w h1 h2 h3 (by omega) hn2 (by omega) hnn hn4 hl hlead)
 have HN := kp (fun w h => nclone_any n w h hn4 (fun l hl' => Nat.le_trans (hl l hl') (by omega)))
 obtain ⟨dim, nA, ls, nc, key, child, ac, s0, n0, x0, s1, n1, x1, s2, n2, x2⟩ := n
 have HYes := kp (show ∀ (An' : Option Addr) (cn' : Nat) (n' : Nd) (w' : World), nds.length < most → plN n' = plN ⟨dim, nA, ls, nc, key, child, ac, s0, n0, x0, s1, n1, x1, s2, n2, x2⟩ → NdsOwn w' B (.slice An' (nds.length + 1) cn') (nds ++ [n']) → Box w' ga 138 (arC As xs.length cs m An' (nds.length + 1) cn' most) →
  ((Value.slice An' (nds.length + 1) cn').ownBlock = (Value.slice An nds.length cn).ownBlock ∨ ∃ k, (Value.slice An' (nds.length + 1) cn').ownBlock = some k ∧ w.heap.size ≤ k) → NdFrom w.heap.size n' → Turn (fun k => k = ga ∨ isRow (.slice An nds.length cn) k) w w' →
  AddRet B ga As xs.length cs m An cn most nds (plN ⟨dim, nA, ls, nc, key, child, ac, s0, n0, x0, s1, n1, x1, s2, n2, x2⟩) w (.returned (.tuple #[.int .i64 (nds.length : Nat), .int .i64 0])) w' from
  fun An' cn' n' w' h0 h1 h2 h3 h4 h5 h6 => ⟨fun _ => ⟨An', cn', n', rfl, h1, h2, h3, h4, h5, h6⟩, fun h => absurd h0 h⟩)
 have HNo := kp (show ∀ w', ¬ nds.length < most → Below w.heap.size w w' → AddRet B ga As xs.length cs m An cn most nds (plN ⟨dim, nA, ls, nc, key, child, ac, s0, n0, x0, s1, n1, x1, s2, n2, x2⟩) w (.returned (.tuple #[.int .i64 0, .int .i64 7])) w' from fun w' h0 h1 => ⟨fun h => absurd h h0, fun _ => ⟨rfl, h1⟩⟩)
 generalize plN ⟨dim, nA, ls, nc, key, child, ac, s0, n0, x0, s1, n1, x1, s2, n2, x2⟩ = pn at *
 generalize hQ : AddRet B ga As xs.length cs m An cn most nds pn w = Q at *
 clear hQ ho hlead hl
 dsimp only at hdim hn4
 have hxx := kp hx
 clear hx
 obtain ⟨nx, hnx⟩ : ∃ nx, xs.length = nx := ⟨_, rfl⟩
 obtain ⟨nn, hnn'⟩ : ∃ nn, nds.length = nn := ⟨_, rfl⟩
 have Hnn := kp hnn'
 have Hown := kp hown
 have HrowLt := kp (show ∀ j, (Value.slice An nds.length cn).ownBlock = some j → j < w.heap.size from fun j hj => (hown.1.lt j hj).2)
 obtain ⟨lx, hlx⟩ : ∃ lx, ls.length = lx := ⟨_, rfl⟩
 dsimp only [ndC] at HC HL HN ⊢
 rw [hnx] at HT HC HL HYes h hn2 hdim
 rw [hnn'] at HT HL HYes HNo h hnn Hown HrowLt
 rw [hlx] at HC HL HN hn4 ⊢
 clear hnx hnn' hlx hown hn2 hm1 hm hn4
 have hb1 := (Below.refl w.heap.size w).alloc (Nat.le_refl _) (.cells #[.int .i64 (dim : Nat), .slice nA lx nc, .int .i64 (key : Nat), .int .i64 (child : Nat), .int .i64 ac, .int .i64 s0, .int .i64 n0, .int .i64 x0, .int .i64 s1, .int .i64 n1, .int .i64 x1, .int .i64 s2, .int .i64 n2, .int .i64 x2] 108)
 have hB1 := Box.new w 108 #[.int .i64 (dim : Nat), .slice nA lx nc, .int .i64 (key : Nat), .int .i64 (child : Nat), .int .i64 ac, .int .i64 s0, .int .i64 n0, .int .i64 x0, .int .i64 s1, .int .i64 n1, .int .i64 x1, .int .i64 s2, .int .i64 n2, .int .i64 x2]
 generalize hW0 : w.alloc (.cells #[.int .i64 (dim : Nat), .slice nA lx nc, .int .i64 (key : Nat), .int .i64 (child : Nat), .int .i64 ac, .int .i64 s0, .int .i64 n0, .int .i64 x0, .int .i64 s1, .int .i64 n1, .int .i64 x1, .int .i64 s2, .int .i64 n2, .int .i64 x2] 108) = W0 at *
 have HBn := kp hB1
 have HBa := kp (h.under hb1)
 have Hown0 := kp (Hown.out.below hb1)
 have Hnd0 := kp ((hnd.below hb1).more hb1.size)
 have Hxx0 := kp ((hxx.out.below hb1).more hb1.size)
 have Hb0 := kp hb1
 have hga : ga < w.heap.size := h.lt
 clear hb1 hB1 h hnd hxx
 have hgB0 := kp hgB
 have HTk := kp (HT.out W0 HBa.out)
 go_enter Tryz.func67, Tryz.ntmps67
 go_wp2_with fail
 refine HTk.out.mono ?_
 rintro e w1 ⟨rfl, rfl⟩
 clear hW0
 have hgW : ga < W0.heap.size := HBa.out.lt
 obtain ⟨⟨a0, a1, a2, a3⟩, _⟩ := Box.four HBa.out
 obtain ⟨d0, d1, d2, d3, d4, d5, d6, d7, d8, d9, d10, d11, d12, d13⟩ := (Box.fourteen HBn.out).1
 go_upto_region 3 with fail
 refine wp_region_noPanic ?_
 refine wp_region_T (t := 99) (S := (fun w' => (w'.cell? ⟨ga, 0, none⟩ = some (.slice As nx cs) ∧ w'.cell? ⟨ga, 1, none⟩ = some (.int .i64 (m : Nat))) ∧ (w'.cell? ⟨w.heap.size, 0, none⟩ = some (.int .i64 (dim : Nat)) ∧ w'.cell? ⟨w.heap.size, 1, none⟩ = some (.slice nA lx nc) ∧ w'.cell? ⟨w.heap.size, 2, none⟩ = some (.int .i64 (key : Nat)) ∧ w'.cell? ⟨w.heap.size, 3, none⟩ = some (.int .i64 (child : Nat)) ∧ w'.cell? ⟨w.heap.size, 4, none⟩ = some (.int .i64 ac) ∧ w'.cell? ⟨w.heap.size, 5, none⟩ = some (.int .i64 s0) ∧ w'.cell? ⟨w.heap.size, 6, none⟩ = some (.int .i64 n0) ∧ w'.cell? ⟨w.heap.size, 7, none⟩ = some (.int .i64 x0) ∧ w'.cell? ⟨w.heap.size, 8, none⟩ = some (.int .i64 s1) ∧ w'.cell? ⟨w.heap.size, 9, none⟩ = some (.int .i64 n1) ∧ w'.cell? ⟨w.heap.size, 10, none⟩ = some (.int .i64 x1) ∧ w'.cell? ⟨w.heap.size, 11, none⟩ = some (.int .i64 s2) ∧ w'.cell? ⟨w.heap.size, 12, none⟩ = some (.int .i64 n2) ∧ w'.cell? ⟨w.heap.size, 13, none⟩ = some (.int .i64 x2)))) (by kernel_rfl) ⟨⟨a0, a1⟩, ⟨d0, d1, d2, d3, d4, d5, d6, d7, d8, d9, d10, d11, d12, d13⟩⟩ (fun hHeld => ?_)
 refine tk 0 hHeld ?_
 refine tk 1 hHeld ?_
 refine tk 2 hHeld ?_
 refine tk 3 hHeld ?_
 refine tk 4 hHeld ?_
 refine wpAnyT_one (i := 5) (o := ?op5) (by kernel_rfl) ?ap5 (by decide) (fun K hK => ?bp5)
 case ap5 => (simp only [List.getElem?_toArray, List.getElem?_cons_succ, List.getElem?_cons_zero]; exact rfl)
 go_simp
 refine (HC.out W0.drew (Hxx0.out.below (Below.refl _ _).drew) (Hnd0.out.below (Below.refl _ _).drew)).mono ?_
 rintro e wc ⟨rfl, hbc⟩
 have Hbc := kp (show Below W0.heap.size W0 wc from (Below.refl _ _).drew.trans hbc)
 clear hbc
 refine hK.out _ _ ?_ (fun hHeld2 => ?_)
 ·exact ⟨⟨cell_keep Hbc.out a0, cell_keep Hbc.out a1⟩, cell_keep Hbc.out d0, cell_keep Hbc.out d1, cell_keep Hbc.out d2, cell_keep Hbc.out d3, cell_keep Hbc.out d4, cell_keep Hbc.out d5, cell_keep Hbc.out d6, cell_keep Hbc.out d7, cell_keep Hbc.out d8, cell_keep Hbc.out d9, cell_keep Hbc.out d10, cell_keep Hbc.out d11, cell_keep Hbc.out d12, cell_keep Hbc.out d13⟩
 clear hK K hHeld
 have hHeld := hHeld2
 clear hHeld2
 try simp only [Act.put, List.setIfInBounds_toArray, List.set_cons_zero, List.set_cons_succ]
 refine tk 6 hHeld ?_
 refine wpAnyT_done (by kernel_rfl) ?_ _
 try clear hHeld
 refine NoPanic.normal ?_
 have HBn1 := kp (HBn.out.under Hbc.out)
 have HBa1 := kp (HBa.out.under Hbc.out)
 have Hown1 := kp (Hown0.out.below Hbc.out)
 have Hnd1 := kp ((Hnd0.out.below Hbc.out).more Hbc.out.size)
 have Hb1 := kp (Hb0.out.trans (Hbc.out.mono Hb0.out.size))
 clear a0 a1 a2 a3 d0 d1 d2 d3 d4 d5 d6 d7 d8 d9 d10 d11 d12 d13 HBn HBa Hown0 Hnd0 Hb0 Hbc HTk Hxx0 hgW
 obtain ⟨d0, d1, d2, d3, d4, d5, d6, d7, d8, d9, d10, d11, d12, d13⟩ := (Box.fourteen HBn1.out).1
 have HLk := kp (HL.out wc HBa1.out Hown1.out.at_.row Hnd1.out)
 go_wp2_with fail
 refine HLk.out.mono ?_
 rintro e w2 ⟨rfl, hb2⟩
 have HBn2 := kp (HBn1.out.under hb2)
 have HBa2 := kp (HBa1.out.under hb2)
 have Hown2 := kp (Hown1.out.below hb2)
 have Hnd2 := kp ((Hnd1.out.below hb2).more hb2.size)
 have Hb2 := kp (Hb1.out.trans (hb2.mono Hb1.out.size))
 clear hb2 d0 d1 d2 d3 d4 d5 d6 d7 d8 d9 d10 d11 d12 d13 HBn1 HBa1 Hown1 Hnd1 Hb1 HLk
 obtain ⟨⟨a0, a1, a2, a3⟩, _⟩ := Box.four HBa2.out
 have hdn : decide ((most : Int) ≤ (nn : Int)) = decide (most ≤ nn) := by rw [Bool.eq_iff_iff]; simp
 go_upto_region 8 with fail
 refine wp_region_noPanic ?_
 refine wp_region_T (t := 99) (S := (fun w' => w'.cell? ⟨ga, 2, none⟩ = some (.slice An nn cn) ∧ w'.cell? ⟨ga, 3, none⟩ = some (.int .i64 (most : Nat)))) (by kernel_rfl) ⟨a2, a3⟩ (fun hHeld => ?_)
 refine tk 0 hHeld ?_
 refine tk 1 hHeld ?_
 refine tk 2 hHeld ?_
 refine tk 3 hHeld ?_
 refine tk 4 hHeld ?_
 refine tk 5 hHeld ?_
 refine tk 6 hHeld ?_
 refine tk 7 hHeld ?_
 refine tk 8 hHeld ?_
 refine tk 9 hHeld ?_
 refine wpAnyT_done (by kernel_rfl) ?_ _
 try clear hHeld
 refine NoPanic.normal ?_
 clear a0 a1 a2 a3
 by_cases hfull : nn < most
 ·have q1 : ¬ (most : Int) ≤ (nn : Int) := by omega
  have q1d : decide ((most : Int) ≤ (nn : Int)) = false := decide_eq_false q1
  have q1n : decide (most ≤ nn) = false := decide_eq_false (by omega)
  go_upto_region 10 with fail
  obtain ⟨⟨a0, a1, a2, a3⟩, ⟨_, _, f2, _⟩⟩ := Box.four HBa2.out
  obtain ⟨d0, d1, d2, d3, d4, d5, d6, d7, d8, d9, d10, d11, d12, d13⟩ := (Box.fourteen HBn2.out).1
  have hga2 : ga < w2.heap.size := HBa2.out.lt
  have hgn2 : w.heap.size < w2.heap.size := HBn2.out.lt
  refine wp_region_noPanic ?_
  refine wp_region_U (t := 11) (S := (fun w' => (w'.cell? ⟨ga, 2, none⟩ = some (.slice An nn cn) ∧ w'.frozen? ⟨ga, 2, none⟩ = false) ∧ (w'.cell? ⟨w.heap.size, 0, none⟩ = some (.int .i64 (dim : Nat)) ∧ w'.cell? ⟨w.heap.size, 1, none⟩ = some (.slice nA lx nc) ∧ w'.cell? ⟨w.heap.size, 2, none⟩ = some (.int .i64 (key : Nat)) ∧ w'.cell? ⟨w.heap.size, 3, none⟩ = some (.int .i64 (child : Nat)) ∧ w'.cell? ⟨w.heap.size, 4, none⟩ = some (.int .i64 ac) ∧ w'.cell? ⟨w.heap.size, 5, none⟩ = some (.int .i64 s0) ∧ w'.cell? ⟨w.heap.size, 6, none⟩ = some (.int .i64 n0) ∧ w'.cell? ⟨w.heap.size, 7, none⟩ = some (.int .i64 x0) ∧ w'.cell? ⟨w.heap.size, 8, none⟩ = some (.int .i64 s1) ∧ w'.cell? ⟨w.heap.size, 9, none⟩ = some (.int .i64 n1) ∧ w'.cell? ⟨w.heap.size, 10, none⟩ = some (.int .i64 x1) ∧ w'.cell? ⟨w.heap.size, 11, none⟩ = some (.int .i64 s2) ∧ w'.cell? ⟨w.heap.size, 12, none⟩ = some (.int .i64 n2) ∧ w'.cell? ⟨w.heap.size, 13, none⟩ = some (.int .i64 x2)))) (by kernel_rfl) ⟨⟨a2, f2⟩, ⟨d0, d1, d2, d3, d4, d5, d6, d7, d8, d9, d10, d11, d12, d13⟩⟩ (fun hHeld => ?_)
  refine tu 0 hHeld ?_
  refine tu 1 hHeld ?_
  refine tu 2 hHeld ?_
  refine tu 3 hHeld ?_
  refine tu 4 hHeld ?_
  refine tu 5 hHeld ?_
  refine wpAnyU_one (i := 6) (o := ?or6) (by kernel_rfl) ?ar6 (by decide) (fun K hK => ?br6)
  case ar6 => (simp only [List.getElem?_toArray, List.getElem?_cons_succ, List.getElem?_cons_zero]; exact rfl)
  go_simp
  refine (HN.out w2.drew.drew (Hnd2.out.below ((Below.refl _ _).drew.drew))).mono ?_
  rintro e wc ⟨n', rfl, hpl, hatc, hfrc, hbc⟩
  have Hbc := kp (show Below w2.heap.size w2 wc from (Below.refl _ _).drew.drew.trans hbc)
  have Hpl := kp hpl
  have Hatc := kp hatc
  have Hfrc := kp (show NdFrom w2.heap.size n' from hfrc)
  clear hbc hpl hatc hfrc
  refine hK.out _ _ ?_ (fun hHeld2 => ?_)
  ·exact ⟨⟨cell_keep Hbc.out a2, by rw [frozen_below Hbc.out _ _ hga2]; exact f2⟩, ⟨(cell_keep Hbc.out) d0, (cell_keep Hbc.out) d1, (cell_keep Hbc.out) d2, (cell_keep Hbc.out) d3, (cell_keep Hbc.out) d4, (cell_keep Hbc.out) d5, (cell_keep Hbc.out) d6, (cell_keep Hbc.out) d7, (cell_keep Hbc.out) d8, (cell_keep Hbc.out) d9, (cell_keep Hbc.out) d10, (cell_keep Hbc.out) d11, (cell_keep Hbc.out) d12, (cell_keep Hbc.out) d13⟩⟩
  clear hK K hHeld
  have hHeld := hHeld2
  clear hHeld2
  try simp only [Act.put, List.setIfInBounds_toArray, List.set_cons_zero, List.set_cons_succ]
  have hgac : ga < wc.heap.size := Nat.lt_of_lt_of_le hga2 Hbc.out.size
  have hgnc : w.heap.size < wc.heap.size := Nat.lt_of_lt_of_le hgn2 Hbc.out.size
  have Hownc := kp (Hown2.out.below Hbc.out)
  have HBac := kp (HBa2.out.under Hbc.out)
  have Hbec := kp (Hb2.out.trans (Hbc.out.mono Hb2.out.size))
  have HNp := kp (NdAp.new (v := .slice An nn cn) Hatc.out Hfrc.out (fun j hj => (Hown2.out.1.lt j hj).2))
  have Hownr := kp (show wc.ownsRow B 108 14 (.slice An nn cn) nn (nds.flatMap ndV) by have := Hownc.out.1; rw [Hnn.out] at this; exact this)
  have hBc := kp (show B ≤ wc.heap.size from Nat.le_trans hBw Hbec.out.size)
  have HneA := kp (show (Value.slice An nn cn).ownBlock ≠ some ga from fun hh => by have h1 := (Hownr.out.lt ga hh).1; have h2 := hgB0.out; omega)
  have HneN := kp (show (Value.slice An nn cn).ownBlock ≠ some w.heap.size from fun hh => by have := HrowLt.out _ hh; omega)
  have hk1 : nn + 1 < 1048576 * 64 := by omega
  refine wpAnyU_one (i := 7) (o := ?or7) (by kernel_rfl) ?ar7 (by decide) (fun K hK => ?br7)
  case ar7 => (simp only [List.getElem?_toArray, List.getElem?_cons_succ, List.getElem?_cons_zero]; exact rfl)
  go_simp
  refine hK.out _ _ ?_ (fun hHeld2 => ?_)
  ·exact ⟨⟨cell_keep ((Below.refl _ _).alloc (Nat.le_refl _) _) hHeld.1.1, by rw [frozen_below ((Below.refl _ _).alloc (Nat.le_refl wc.heap.size) _) _ _ hgac]; exact hHeld.1.2⟩, keep14 (Below.heap_alloc _ _ _ hgnc) hHeld.2⟩
  clear hK K hHeld
  have hHeld := hHeld2
  clear hHeld2
  try simp only [Act.put, List.setIfInBounds_toArray, List.set_cons_zero, List.set_cons_succ]
  refine wpAnyU_one (i := 8) (o := ?or8) (by kernel_rfl) ?ar8 (by decide) (fun K hK => ?br8)
  case ar8 => (simp only [List.getElem?_toArray, List.getElem?_cons_succ, List.getElem?_cons_zero]; exact rfl)
  refine step_appK rfl (.tmp 37) (.tmp 40) 102 rfl B 108 i0 _ 14 128 Tryz.underlying102 ti0 tz0 tz1 tz2 rfl (by decide) wc (ndC n') rfl (nd_one n') (.slice An nn cn) nn (nds.flatMap ndV) rfl Hownr.out rfl hk1 (by decide) hBc.out ?_
  intro v5 w5 hown5 happ5
  obtain ⟨A5, c5, h5⟩ := own_formK hown5
  subst h5
  have Hown5 := kp hown5
  have Hap5 := kp happ5
  clear hown5 happ5
  go_simp
  refine hK.out _ _ ?_ (fun hHeld2 => ?_)
  ·have e1 := (Hap5.out.farK hgac HneA.out).trans (Below.heap_alloc wc (.cells (ndC n') 108) _ hgac).symm
   have e2 := (Hap5.out.farK hgnc HneN.out).trans (Below.heap_alloc wc (.cells (ndC n') 108) _ hgnc).symm
   exact ⟨⟨(World.cell?_of_block (a := ⟨ga, 2, none⟩) e1).trans hHeld.1.1, by have h := hHeld.1.2; unfold World.frozen? at h ⊢; rw [e1]; exact h⟩, keep14 e2 hHeld.2⟩
  clear hK K hHeld
  have hHeld := hHeld2
  clear hHeld2
  try simp only [Act.put, List.setIfInBounds_toArray, List.set_cons_zero, List.set_cons_succ]
  refine tu 9 hHeld ?_
  refine tu 10 hHeld ?_
  refine wpAnyU_last (o := ?or11) (by kernel_rfl) ?ar11 ⟨by kernel_rfl, by kernel_rfl⟩ (fun K hK => ?br11)
  case ar11 => (simp only [List.getElem?_toArray, List.getElem?_cons_succ, List.getElem?_cons_zero]; exact rfl)
  obtain ⟨⟨x1, x2⟩, _⟩ := hHeld
  have hHeld := x1
  go_simp
  refine hK.out _ _ ?_
  clear hK K hHeld
  refine NoPanic.normal ?_
  try simp only [Act.put, List.setIfInBounds_toArray, List.set_cons_zero, List.set_cons_succ]
  have HF := kp (NdsOwn.app (x := n') Hownc.out HNp.out (Hfrc.out.less (Nat.le_trans hBw Hb2.out.size)) Hown5.out Hap5.out Hnn.out)
  have HBa5 := kp (show Box w5 ga 138 (arC As nx cs m An nn cn most) from (Hap5.out.farK hgac HneA.out).trans HBac.out)
  have HBa6 := kp (show Box (w5.setCell ⟨ga, 2, none⟩ (.slice A5 (nn + 1) c5)) ga 138 (arC As nx cs m A5 (nn + 1) c5 most) from HBa5.out.set 2 _)
  have HF6 := kp (show NdsOwn (w5.setCell ⟨ga, 2, none⟩ (.slice A5 (nn + 1) c5)) B (.slice A5 (nn + 1) c5) (nds ++ [n']) from HF.out.over ⟨by simp, fun k hk _ => Below.heap_setCell w5 ⟨ga, 2, none⟩ _ k (by have := hgB0.out; dsimp only; omega)⟩)
  have Hlies := kp (show (Value.slice A5 (nn + 1) c5).ownBlock = (Value.slice An nn cn).ownBlock ∨ ∃ k, (Value.slice A5 (nn + 1) c5).ownBlock = some k ∧ w.heap.size ≤ k from by
   rcases Hap5.out.lies with h | ⟨k, h, hk⟩
   ·exact .inl h
   ·exact .inr ⟨k, h, Nat.le_trans Hbec.out.size hk⟩)
  have HT6 := kp (show Turn (fun k => k = ga ∨ isRow (.slice An nn cn) k) w (w5.setCell ⟨ga, 2, none⟩ (.slice A5 (nn + 1) c5)) from ((Turn.below Hbec.out).trans ⟨Hap5.out.grown.os, Hap5.out.grown.tape, Hap5.out.grown.output, Hap5.out.grown.size, fun k hk hp => Hap5.out.farK hk (fun e => hp (.inr e))⟩).trans (Turn.set _ _ _ (.inl rfl)))
  have Hfin := kp (HYes.out A5 c5 n' _ hfull Hpl.out HF6.out HBa6.out Hlies.out (Hfrc.out.less Hb2.out.size) HT6.out)
  obtain ⟨⟨b0, b1, b2, b3⟩, _⟩ := Box.four HBa6.out
  have hw : IntKind.i64.wrap ((nn : Int) + 1 - 1) = (nn : Int) := by rw [Int.add_sub_cancel]; exact IntWalk.i64_in _ (by omega)
  go_wp2_with fail
  exact Hfin.out
 ·have q1 : (most : Int) ≤ (nn : Int) := by omega
  have q1d : decide ((most : Int) ≤ (nn : Int)) = true := decide_eq_true q1
  have q1n : decide (most ≤ nn) = true := decide_eq_true (by omega)
  have Hf := kp (HNo.out _ hfull Hb2.out.drew)
  go_wp2_with fail
  exact Hf.out
end Go.Proofs.YthmbgbmcdbdecaaGreat.Tc
