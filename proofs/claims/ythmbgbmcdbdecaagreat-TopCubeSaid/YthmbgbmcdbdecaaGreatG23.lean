/- Parts of a proof: Layer 24: whether a cell, and a list of cells, may be. Layer 24: whether a node may be of a shape. Layer 24: copies of lists of cells; what lies apart from a row. -/
import Derived.Test.YthmbgbmcdbdecaaGreatG05
import Derived.Test.YthmbgbmcdbdecaaGreatG17
import Derived.Test.YthmbgbmcdbdecaaGreatG20
import Derived.Test.YthmbgbmcdbdecaaGreatG21
import Derived.Test.YthmbgbmcdbdecaaGreatG22
import Derived.Maps.Own
import Derived.Maps.OwnOps
import Derived.Maps.OwnSet
import Derived.Maps.Views
namespace Go.Proofs.YthmbgbmcdbdecaaGreat.Tc
open Go.RowKit Base
set_option linter.unusedVariables false
set_option linter.unusedSimpArgs false
section
attribute [local go_sem] arr_eq
def ClOk (last : Bool) (m : Nat) (c : Cl) : Prop := if last = true then c.child = 0 ∧ AgOk m c.ag else c.ag = agZero
set_option maxRecDepth 100000 in
set_option maxHeartbeats 4000000 in
theorem ncell_any (A : Option Addr) (n c m dim : Nat) (x : Cl) (w : World) (hn : 1 ≤ n) (hn2 : n ≤ 1000000) (hd : dim ≤ 1000000) (hm1 : 1 ≤ m) (hm : m ≤ 3) (hx : x.child ≤ 1000000) (ho : ClOk (decide (dim + 1 = n)) m x) :
 Calls Tryz.prog 123 #[.agg #[.slice A n c, .int .i64 m], .int .i64 (dim : Nat), .agg (clC x)] w fun e w' => e = .returned (.bool true) ∧ Below w.heap.size w w' := by
 obtain ⟨key, child, ac, s0, n0, x0, s1, n1, x1, s2, n2, x2⟩ := x
 have hb1 := (Below.refl w.heap.size w).alloc (Nat.le_refl _) (.cells #[.slice A n c, .int .i64 m] 83)
 have hb0 := hb1.alloc hb1.size (.cells (clC ⟨key, child, ac, s0, n0, x0, s1, n1, x1, s2, n2, x2⟩) 106)
 have HB2 := kp ((Box.new w 83 #[.slice A n c, .int .i64 m]).alloc (.cells (clC ⟨key, child, ac, s0, n0, x0, s1, n1, x1, s2, n2, x2⟩) 106))
 have HB3 := kp (Box.lay (w := w.alloc (.cells #[.slice A n c, .int .i64 m] 83)) (g := w.heap.size + 1) (t := 106) (cs := clC ⟨key, child, ac, s0, n0, x0, s1, n1, x1, s2, n2, x2⟩) (by simp))
 have Hb0 := kp hb0
 have HL := kp (fun w => last_any A n c m dim w hn hn2 hd)
 clear hb0 hb1
 dsimp only at hx
 generalize hQ : (fun (e : Ending) w' => e = .returned (.bool true) ∧ Below w.heap.size w w') = Q
 have HQ := kp (show ∀ w', Below w.heap.size w w' → Q (.returned (.bool true)) w' from fun w' hb => by rw [← hQ]; exact ⟨rfl, hb⟩)
 clear hQ
 by_cases hl : dim + 1 = n
 ·rw [decide_eq_true hl] at HL ho
  obtain ⟨h1, h2⟩ := ho
  change child = 0 at h1
  have HA := kp (fun w => agmay_any m ⟨ac, s0, n0, x0, s1, n1, x1, s2, n2, x2⟩ w hm1 hm h2)
  subst h1
  clear h2 hl hn hn2 hd hm1 hm
  go_enter Tryz.func123, Tryz.ntmps123
  obtain ⟨b0, b1, _, _⟩ := HB2.out.two
  go_wp2_with fail
  refine (HL.out _).mono ?_
  clear b0 b1
  generalize (w.alloc (.cells #[.slice A n c, .int .i64 m] 83)).alloc (.cells (clC ⟨key, 0, ac, s0, n0, x0, s1, n1, x1, s2, n2, x2⟩) 106) = W0 at *
  rintro e w1 ⟨rfl, hb1⟩
  have Hb1 := kp (Hb0.out.trans (hb1.mono Hb0.out.size))
  obtain ⟨b0, b1, _, _⟩ := (HB2.out.under hb1).two
  obtain ⟨⟨d0, d1, d2, d3, d4, d5, d6, d7, d8, d9, d10, d11⟩, _⟩ := Box.twelve (HB3.out.under hb1)
  clear hb1
  go_wp2_with fail
  refine (HA.out _).mono ?_
  rintro e w2 ⟨rfl, hb2⟩
  have Hf := kp (HQ.out _ (Hb1.out.trans (hb2.mono Hb1.out.size)))
  clear hb2 b0 b1 d0 d1 d2 d3 d4 d5 d6 d7 d8 d9 d10 d11
  go_wp2_with fail
  exact Hf.out
 ·rw [decide_eq_false hl] at HL ho
  have h1 : (⟨ac, s0, n0, x0, s1, n1, x1, s2, n2, x2⟩ : Ag) = agZero := ho
  unfold agZero at h1
  injection h1 with h1 h2 h3 h4 h5 h6 h7 h8 h9 h10
  subst h1 h2 h3 h4 h5 h6 h7 h8 h9 h10
  have q1 : (0 : Int) ≤ (child : Int) := by omega
  have q1d : decide ((0 : Int) ≤ (child : Int)) = true := decide_eq_true q1
  clear ho hl hn hn2 hd hm1 hm
  go_enter Tryz.func123, Tryz.ntmps123
  obtain ⟨b0, b1, _, _⟩ := HB2.out.two
  go_wp2_with fail
  refine (HL.out _).mono ?_
  clear b0 b1
  generalize (w.alloc (.cells #[.slice A n c, .int .i64 m] 83)).alloc (.cells (clC ⟨key, child, 0, 0, 0, 0, 0, 0, 0, 0, 0, 0⟩) 106) = W0 at *
  rintro e w1 ⟨rfl, hb1⟩
  have Hf := kp (HQ.out _ (Hb0.out.trans (hb1.mono Hb0.out.size)))
  obtain ⟨⟨d0, d1, d2, d3, d4, d5, d6, d7, d8, d9, d10, d11⟩, _⟩ := Box.twelve (HB3.out.under hb1)
  clear hb1
  go_wp2_with fail
  exact Hf.out
structure LsOk (last : Bool) (m size : Nat) (l : List Cl) : Prop where
 n1 : 1 ≤ l.length
 key : ∀ c ∈ l, c.key < size
 child : ∀ c ∈ l, c.child ≤ 1000000
 cell : ∀ c ∈ l, ClOk last m c
 rise : ∀ i (h : i + 1 < l.length), l[i].key < l[i + 1].key
set_option maxRecDepth 100000 in
set_option maxHeartbeats 4000000 in
theorem nlist_any (A A' : Option Addr) (n c m dim size c' : Nat) (l : List Cl) (w : World) (hr : Row w w.heap.size A' (l.flatMap clV)) (hl2 : l.length ≤ 1000000) (hn : 1 ≤ n) (hn2 : n ≤ 1000000) (hd : dim ≤ 1000000) (hm1 : 1 ≤ m) (hm : m ≤ 3) (hs : size ≤ 1000000) (ho : LsOk (decide (dim + 1 = n)) m size l) :
 Calls Tryz.prog 122 #[.agg #[.slice A n c, .int .i64 m], .int .i64 (dim : Nat), .int .i64 (size : Nat), .slice A' l.length c'] w fun e w' => e = .returned (.int .i64 0) ∧ Below w.heap.size w w' := by
 have hb0 := (Below.refl w.heap.size w).alloc (Nat.le_refl _) (.cells #[.slice A n c, .int .i64 m] 83)
 have HB := kp (Box.new w 83 #[.slice A n c, .int .i64 m])
 have Hb0 := kp hb0
 have Hr := kp hr
 have HC := kp (fun x w h1 h2 => ncell_any A n c m dim x w hn hn2 hd hm1 hm h1 h2)
 have Hkey := kp ho.key
 have Hchild := kp ho.child
 have Hcell := kp ho.cell
 have Hrise := kp ho.rise
 have hl1 := ho.n1
 clear hr ho hb0 hn hn2 hd hm1 hm
 generalize hQ : (fun (e : Ending) w' => e = .returned (.int .i64 0) ∧ Below w.heap.size w w') = Q
 have HQ := kp (show ∀ w', Below w.heap.size w w' → Q (.returned (.int .i64 0)) w' from fun w' hb => by rw [← hQ]; exact ⟨rfl, hb⟩)
 clear hQ
 obtain ⟨k0, hk0⟩ : ∃ k0, l.length = k0 := ⟨_, rfl⟩
 have Hk0 := kp hk0
 rw [hk0] at hl1 hl2 ⊢
 clear hk0
 have q0 : ((k0 : Int) == 0) = false := by simp; omega
 go_enter Tryz.func122, Tryz.ntmps122
 go_wp2_with fail
 clear q0
 go_loopw [16] (fun v16 wr => ∃ k : Nat, k ≤ k0 ∧ v16 = .int .i64 k ∧ Box wr w.heap.size 83 #[.slice A n c, .int .i64 m] ∧ Below w.heap.size w wr) (fun v16 _ => k0 - (intOf v16).toNat)
 case atStart => exact ⟨0, Nat.zero_le _, rfl, HB.out, Hb0.out⟩
 case round =>
  clear HB Hb0
  obtain ⟨k, hk, rfl, hbx, hbe⟩ := hrel
  have Hbx := kp hbx
  have Hbe := kp hbe
  clear hbx hbe
  by_cases hlt : k < k0
  ·have hkl : k < l.length := by rw [Hk0.out]; exact hlt
   have hrw := (Hr.out.below Hbe.out).more Hbe.out.size
   obtain ⟨b, off, hA, hb, c0, c1, c2, c3, c4, c5, c6, c7, c8, c9, c10, c11⟩ := cells_at hrw k hkl
   have Hrw := kp hrw
   have Hx := kp (Hcell.out _ (List.getElem_mem hkl))
   have hxk := Hkey.out _ (List.getElem_mem hkl)
   have Hxc := kp (Hchild.out _ (List.getElem_mem hkl))
   have Hlk := kp (show ∀ q (h : q + 1 = k), (l[q]'(by omega)).key < (l[k]'hkl).key from fun q h => by subst h; exact Hrise.out q hkl)
   generalize (l[k]'hkl) = x at *
   have hbG := (Below.refl wr.heap.size wr).alloc (Nat.le_refl _) (.cells (clC x) 106)
   have HBg := kp (Box.new wr 106 (clC x))
   have Hb2 := kp (Hbe.out.trans (hbG.mono Hbe.out.size))
   have Hbx2 := kp (Hbx.out.under hbG)
   have Hrw2 := kp ((hrw.below hbG).more hbG.size)
   clear hrw hbG
   have hi0 : (0 : Int) ≤ (k : Int) := by omega
   have hi1 : (k : Int) < (k0 : Int) := by omega
   rw [hA]
   have HA := kp hA
   clear hA
   go_upto_region 6 with fail
   clear c0 c1 c2 c3 c4 c5 c6 c7 c8 c9 c10 c11
   generalize wr.alloc (.cells (clC x) 106) = W2 at *
   generalize wr.heap.size = gC at *
   obtain ⟨⟨a0, a1, a2, a3, a4, a5, a6, a7, a8, a9, a10, a11⟩, _⟩ := Box.twelve HBg.out
   obtain ⟨x0, x1, _, _⟩ := Hbx2.out.two
   have HCk := kp (fun w => HC.out x w Hxc.out Hx.out)
   have q1 : ¬ ((x.key : Nat) : Int) < 0 := by omega
   have q1d : decide (((x.key : Nat) : Int) < 0) = false := decide_eq_false q1
   have q2 : ¬ ((size : Nat) : Int) ≤ ((x.key : Nat) : Int) := by omega
   have q2d : decide (((size : Nat) : Int) ≤ ((x.key : Nat) : Int)) = false := decide_eq_false q2
   have q2n : decide (size ≤ x.key) = false := decide_eq_false (by omega)
   rcases k with _ | q
   ·have r0 : decide ((0 : Int) < ((0 : Nat) : Int)) = false := rfl
    go_wp2_with fail
    refine wp_region_noPanic ?_
    refine wp_region_T (t := 99) (S := (fun _ => True)) (by kernel_rfl) trivial (fun hHeld => ?_)
    refine tk 0 hHeld ?_
    refine tk 1 hHeld ?_
    refine tk 2 hHeld ?_
    refine sk 3 hHeld ?_
    refine sk 4 hHeld ?_
    refine sk 5 hHeld ?_
    refine sk 6 hHeld ?_
    refine sk 7 hHeld ?_
    refine sk 8 hHeld ?_
    refine sk 9 hHeld ?_
    refine sk 10 hHeld ?_
    refine sk 11 hHeld ?_
    refine tk 12 hHeld ?_
    refine tk 13 hHeld ?_
    refine wpAnyT_done (by kernel_rfl) ?_ _
    try clear hHeld
    refine NoPanic.normal ?_
    go_wp2_with fail
    refine (HCk.out _).mono ?_
    rintro e w3 ⟨rfl, hb3⟩
    have Hbx3 := kp ((Hbx2.out.drew).under hb3)
    have Hb3 := kp (Hb2.out.drew.trans (hb3.mono Hb2.out.size))
    clear hb3
    go_wp2_with fail
    exact ⟨⟨1, by omega, by go_num, Hbx3.out, Hb3.out⟩, by simp [intOf]; omega⟩
   ·have hql : q < l.length := by rw [Hk0.out]; omega
    obtain ⟨b', off', hA', hb', p0, _⟩ := cells_at Hrw2.out q hql
    have hAe := HA.out.symm.trans hA'
    injection hAe with hAe
    injection hAe with ha1 ha2 _
    subst ha1 ha2
    have hcl := Hlk.out q rfl
    generalize (l[q]'hql).key = pk at *
    have r0 : decide ((0 : Int) < ((q : Int) + 1)) = true := decide_eq_true (by omega)
    have r1 : ¬ ((x.key : Nat) : Int) ≤ ((pk : Nat) : Int) := by omega
    have r1d : decide (((x.key : Nat) : Int) ≤ ((pk : Nat) : Int)) = false := decide_eq_false r1
    have r1n : decide (x.key ≤ pk) = false := decide_eq_false (by omega)
    have hwq : IntKind.i64.wrap (q : Int) = (q : Int) := IntWalk.i64_in _ (by omega)
    have hq0 : (0 : Int) ≤ (q : Int) := by omega
    have hq1 : (q : Int) < (k0 : Int) := by omega
    clear hcl hA' hb'
    go_wp2_with fail
    refine wp_region_noPanic ?_
    refine wp_region_T (t := 99) (S := (fun w' => w'.cell? ⟨b, off + q * 12, none⟩ = some (.int .i64 (pk : Nat)) ∧ w'.cell? ⟨gC, 0, none⟩ = some (.int .i64 (x.key : Nat)))) (by kernel_rfl) ⟨p0, a0⟩ (fun hHeld => ?_)
    refine tk 0 hHeld ?_
    refine tk 1 hHeld ?_
    refine tk 2 hHeld ?_
    refine tk 3 hHeld ?_
    refine tk 4 hHeld ?_
    refine tk 5 hHeld ?_
    refine tk 6 hHeld ?_
    refine tk 7 hHeld ?_
    refine tk 8 hHeld ?_
    refine tk 9 hHeld ?_
    refine tk 10 hHeld ?_
    refine tk 11 hHeld ?_
    refine tk 12 hHeld ?_
    refine tk 13 hHeld ?_
    refine wpAnyT_done (by kernel_rfl) ?_ _
    try clear hHeld
    refine NoPanic.normal ?_
    go_wp2_with fail
    refine (HCk.out _).mono ?_
    rintro e w3 ⟨rfl, hb3⟩
    have Hbx3 := kp ((Hbx2.out.drew).under hb3)
    have Hb3 := kp (Hb2.out.drew.trans (hb3.mono Hb2.out.size))
    clear hb3
    go_wp2_with fail
    exact ⟨⟨q + 2, by omega, by go_num, Hbx3.out, Hb3.out⟩, by simp [intOf]; omega⟩
  ·obtain rfl : k = k0 := by omega
   have Hf := kp (HQ.out _ Hbe.out)
   go_wp2_with fail
   exact Hf.out
end
structure PnOk (last : Bool) (X : List Nat) (m : Nat) (p : PNode) : Prop where
 ls : p.lists.length = X.length
 n1 : 1 ≤ p.lists.length
 n4 : p.lists.length ≤ 4
 long : ∀ l ∈ p.lists, l.length ≤ 1000000
 size : ∀ y ∈ X, y ≤ 1000000
 each : ∀ (k : Nat) (l : List Cl) (y : Nat), p.lists[k]? = some l → X[k]? = some y → LsOk last m y l
 fall : ∀ (k : Nat) (l l' : List Cl), p.lists[k]? = some l → p.lists[k + 1]? = some l' → l'.length ≤ l.length
 key0 : p.all.key = 0
 child : p.all.child ≤ 1000000
 all : ClOk last m p.all
theorem lists_at {ls : List Ll} {k : Nat} (h : k < ls.length) : (ls.map Ll.cs)[k]? = some ls[k].cs := by
 rw [List.getElem?_map, List.getElem?_eq_getElem h]; rfl
set_option maxRecDepth 100000 in
set_option maxHeartbeats 8000000 in
theorem ncheck_any (A : Option Addr) (c m : Nat) (xs : List Fa) (n : Nd) (w : World) (h : IlsAt w w.heap.size A xs) (hr : NdAt w w.heap.size n) (hn2 : xs.length ≤ 16) (hm1 : 1 ≤ m) (hm : m ≤ 3) (hdim : n.dim < xs.length) (ho : PnOk (decide (n.dim + 1 = xs.length)) (xs[n.dim]'hdim).keys m (plN n)) :
 Calls Tryz.prog 99 #[.agg #[.slice A xs.length c, .int .i64 m], .agg (ndC n)] w fun e w' => e = .returned (.int .i64 0) ∧ Below w.heap.size w w' := by
 obtain ⟨dim, nA, ls, nc, key, child, ac, s0, n0, x0, s1, n1, x1, s2, n2, x2⟩ := n
 have hls := ho.ls
 have hn1 := ho.n1
 have hn4 := ho.n4
 have hkey0 := ho.key0
 have Hlong := kp ho.long
 have Hsize := kp ho.size
 have Heach := kp ho.each
 have Hfall := kp ho.fall
 have Hchild := kp ho.child
 have Hall := kp ho.all
 clear ho
 dsimp only [plN] at hdim hls hn1 hn4 hkey0 Hlong Hsize Heach Hfall Hchild Hall
 rw [List.length_map] at hls hn1 hn4
 have HL := kp (fun A' (size : Nat) c' (l : List Cl) w h1 h2 h3 h4 => nlist_any A A' xs.length c m dim size c' l w h1 h2 (by omega) (by omega) (by omega) hm1 hm h3 h4)
 have HC := kp (fun w => ncell_any A xs.length c m dim ⟨key, child, ac, s0, n0, x0, s1, n1, x1, s2, n2, x2⟩ w (by omega) (by omega) (by omega) hm1 hm Hchild.out Hall.out)
 obtain ⟨bx, ox, rfl, hbx, x00⟩ := Row.at_ h.row (k := dim) (by rw [List.length_map]; exact hdim)
 rw [List.getElem_map] at x00
 unfold ilV at x00
 have hX := h.each _ (List.getElem_mem hdim)
 generalize (xs[dim]'hdim) = X at *
 rw [← hls] at x00
 have HXl := kp hls
 clear hls
 obtain ⟨nx, hnx⟩ : ∃ nx, xs.length = nx := ⟨_, rfl⟩
 obtain ⟨lx, hlx⟩ : ∃ lx, ls.length = lx := ⟨_, rfl⟩
 have Hlx := kp hlx
 dsimp only [ndC]
 rw [hnx] at HL HC hn2 hdim Heach ⊢
 rw [hlx] at x00 hn1 hn4 ⊢
 clear hnx hlx Hchild Hall hm1 hm h
 have hb1 := (Below.refl w.heap.size w).alloc (Nat.le_refl _) (.cells #[.slice (some ⟨bx, ox, none⟩) nx c, .int .i64 m] 83)
 have hb0 := hb1.alloc hb1.size (.cells #[.int .i64 (dim : Nat), .slice nA lx nc, .int .i64 (key : Nat), .int .i64 (child : Nat), .int .i64 ac, .int .i64 s0, .int .i64 n0, .int .i64 x0, .int .i64 s1, .int .i64 n1, .int .i64 x1, .int .i64 s2, .int .i64 n2, .int .i64 x2] 108)
 have HB2 := kp ((Box.new w 83 #[.slice (some ⟨bx, ox, none⟩) nx c, .int .i64 m]).alloc (.cells #[.int .i64 (dim : Nat), .slice nA lx nc, .int .i64 (key : Nat), .int .i64 (child : Nat), .int .i64 ac, .int .i64 s0, .int .i64 n0, .int .i64 x0, .int .i64 s1, .int .i64 n1, .int .i64 x1, .int .i64 s2, .int .i64 n2, .int .i64 x2] 108))
 have HB3 := kp (Box.lay (w := w.alloc (.cells #[.slice (some ⟨bx, ox, none⟩) nx c, .int .i64 m] 83)) (g := w.heap.size + 1) (t := 108) (cs := #[.int .i64 (dim : Nat), .slice nA lx nc, .int .i64 (key : Nat), .int .i64 (child : Nat), .int .i64 ac, .int .i64 s0, .int .i64 n0, .int .i64 x0, .int .i64 s1, .int .i64 n1, .int .i64 x1, .int .i64 s2, .int .i64 n2, .int .i64 x2]) (by simp))
 clear hb1
 generalize hW0 : (w.alloc (.cells #[.slice (some ⟨bx, ox, none⟩) nx c, .int .i64 m] 83)).alloc (.cells #[.int .i64 (dim : Nat), .slice nA lx nc, .int .i64 (key : Nat), .int .i64 (child : Nat), .int .i64 ac, .int .i64 s0, .int .i64 n0, .int .i64 x0, .int .i64 s1, .int .i64 n1, .int .i64 x1, .int .i64 s2, .int .i64 n2, .int .i64 x2] 108) = W0 at *
 have Hb0 := kp hb0
 have HX := kp ((hX.below hb0).more hb0.size)
 have HR0 := kp ((hr.below hb0).more hb0.size)
 replace x00 := (hb0.cell (p := ⟨bx, ox + dim, none⟩) hbx).trans x00
 clear hX hr hb0 hbx
 generalize hQ : (fun (e : Ending) w' => e = .returned (.int .i64 0) ∧ Below w.heap.size w w') = Q
 have HQ := kp (show ∀ w', Below w.heap.size w w' → Q (.returned (.int .i64 0)) w' from fun w' hb => by rw [← hQ]; exact ⟨rfl, hb⟩)
 clear hQ
 obtain ⟨b0, b1, _, _⟩ := HB2.out.two
 obtain ⟨d0, d1, d2, d3, d4, d5, d6, d7, d8, d9, d10, d11, d12, d13⟩ := (Box.fourteen HB3.out).1
 have q1 : ¬ ((dim : Nat) : Int) < 0 := by omega
 have q1d : decide (((dim : Nat) : Int) < 0) = false := decide_eq_false q1
 have q2 : ¬ ((nx : Nat) : Int) ≤ ((dim : Nat) : Int) := by omega
 have q2d : decide (((nx : Nat) : Int) ≤ ((dim : Nat) : Int)) = false := decide_eq_false q2
 have q2n : decide (nx ≤ dim) = false := decide_eq_false (by omega)
 have q3 : (((lx : Nat) : Int) == 0) = false := by simp; omega
 have q4 : (((lx : Nat) : Int) != ((lx : Nat) : Int)) = false := by simp
 have q5 : (((key : Nat) : Int) != 0) = false := by simp; omega
 clear hkey0
 have p0 : (0 : Int) ≤ ((dim : Nat) : Int) := by omega
 have p1 : ((dim : Nat) : Int) < ((nx : Nat) : Int) := by omega
 go_enter Tryz.func99, Tryz.ntmps99
 go_upto_region 2 with fail
 clear hW0
 refine wp_region_noPanic ?_
 refine wp_region_T (t := 99) (S := (fun w' => (w'.cell? ⟨w.heap.size, 0, none⟩ = some (.slice (some ⟨bx, ox, none⟩) nx c) ∧ w'.cell? ⟨w.heap.size + 1, 0, none⟩ = some (.int .i64 (dim : Nat))) ∧ w'.cell? ⟨w.heap.size + 1, 1, none⟩ = some (.slice nA lx nc) ∧ w'.cell? ⟨bx, ox + dim, none⟩ = some (.slice X.A lx X.c))) (by kernel_rfl) ⟨⟨b0, d0⟩, d1, x00⟩ (fun hHeld => ?_)
 refine tk 0 hHeld ?_
 refine tk 1 hHeld ?_
 refine tk 2 hHeld ?_
 refine tk 3 hHeld ?_
 refine tk 4 hHeld ?_
 refine tk 5 hHeld ?_
 refine tk 6 hHeld ?_
 refine tk 7 hHeld ?_
 refine tk 8 hHeld ?_
 refine tk 9 hHeld ?_
 refine tk 10 hHeld ?_
 refine tk 11 hHeld ?_
 refine tk 12 hHeld ?_
 refine tk 13 hHeld ?_
 refine tk 14 hHeld ?_
 refine tk 15 hHeld ?_
 refine tk 16 hHeld ?_
 refine tk 17 hHeld ?_
 refine tk 18 hHeld ?_
 refine tk 19 hHeld ?_
 refine tk 20 hHeld ?_
 refine tk 21 hHeld ?_
 refine tk 22 hHeld ?_
 refine tk 23 hHeld ?_
 refine tk 24 hHeld ?_
 refine tk 25 hHeld ?_
 refine tk 26 hHeld ?_
 refine tk 27 hHeld ?_
 refine tk 28 hHeld ?_
 refine tk 29 hHeld ?_
 refine wpAnyT_done (by kernel_rfl) ?_ _
 try clear hHeld
 refine NoPanic.normal ?_
 go_wp2_with fail
 clear b0 b1 d0 d1 d2 d3 d4 d5 d6 d7 d8 d9 d10 d11 d12 d13 q1 q1d q2 q2d q2n q3 q4
 go_loopw [41] (fun v41 wr => ∃ k : Nat, k ≤ lx ∧ v41 = .int .i64 k ∧ Below W0.heap.size W0 wr) (fun v41 _ => lx - (intOf v41).toNat)
 case atStart => exact ⟨0, Nat.zero_le _, rfl, (Below.refl _ _).drew⟩
 case round =>
  obtain ⟨k, hk, rfl, hbe⟩ := hrel
  have Hbe := kp hbe
  have HB2r := kp (HB2.out.under hbe)
  have HB3r := kp (HB3.out.under hbe)
  have y00 := cell_keep hbe x00
  clear hbe
  obtain ⟨b0, b1, _, _⟩ := HB2r.out.two
  obtain ⟨d0, d1, d2, d3, d4, d5, d6, d7, d8, d9, d10, d11, d12, d13⟩ := (Box.fourteen HB3r.out).1
  by_cases hlt : k < lx
  ·have hkl : k < ls.length := by rw [Hlx.out]; exact hlt
   have hkX : k < X.keys.length := by rw [← HXl.out]; exact hkl
   have hnd := (HR0.out.below Hbe.out).more Hbe.out.size
   obtain ⟨bl, ol, hA, hbl, l0⟩ := Row.at_ hnd.row (k := k) (by rw [List.length_map]; exact hkl)
   rw [List.getElem_map] at l0
   obtain ⟨bk, ok, hAk, hbk, k0⟩ := Row.at_ ((HX.out.below Hbe.out).more Hbe.out.size) (k := k) (by rw [natV_len]; exact hkX)
   unfold natV at k0
   rw [List.getElem_map] at k0
   have hsz := Hsize.out _ (List.getElem_mem hkX)
   have hll := Hlong.out _ (List.mem_map_of_mem (List.getElem_mem hkl))
   have HLk := kp (fun w' (hb : Below wr.heap.size wr w') => HL.out (ls[k]'hkl).A (X.keys[k]'hkX) (ls[k]'hkl).c (ls[k]'hkl).cs w' (((hnd.each _ (List.getElem_mem hkl)).below hb).more hb.size) hll hsz (Heach.out k _ _ (lists_at hkl) (List.getElem?_eq_getElem hkX)))
   have Hfk := kp (show ∀ q (h : q + 1 = k), (ls[k]'hkl).cs.length ≤ (ls[q]'(by omega)).cs.length from fun q h => by subst h; exact Hfall.out q _ _ (lists_at (by omega)) (lists_at hkl))
   unfold llV at l0
   generalize (X.keys[k]'hkX) = sz at *
   generalize (ls[k]'hkl).cs.length = ll at *
   generalize (ls[k]'hkl).A = lA at *
   generalize (ls[k]'hkl).c = lc at *
   dsimp only at hA
   subst hA
   rw [hAk] at y00
   clear hAk hnd
   have hk0 : (0 : Int) ≤ (k : Int) := by omega
   have hk1 : (k : Int) < (lx : Int) := by omega
   have hbx := cell_block_lt y00
   dsimp only at hbx
   have hb2 := HB2r.out.lt
   have hb3 := HB3r.out.lt
   go_upto_region 6 with fail
   refine wp_region_noPanic ?_
   refine wp_region_T (t := 99) (S := (fun w' => (w'.cell? ⟨w.heap.size, 0, none⟩ = some (.slice (some ⟨bx, ox, none⟩) nx c) ∧ w'.cell? ⟨w.heap.size, 1, none⟩ = some (.int .i64 m)) ∧ w'.cell? ⟨w.heap.size + 1, 0, none⟩ = some (.int .i64 (dim : Nat)) ∧ w'.cell? ⟨bx, ox + dim, none⟩ = some (.slice (some ⟨bk, ok, none⟩) lx X.c) ∧ w'.cell? ⟨bk, ok + k, none⟩ = some (.int .i64 (sz : Nat)))) (by kernel_rfl) ⟨⟨b0, b1⟩, d0, y00, k0⟩ (fun hHeld => ?_)
   refine tk 0 hHeld ?_
   refine tk 1 hHeld ?_
   refine tk 2 hHeld ?_
   refine tk 3 hHeld ?_
   refine tk 4 hHeld ?_
   refine tk 5 hHeld ?_
   refine tk 6 hHeld ?_
   refine tk 7 hHeld ?_
   refine tk 8 hHeld ?_
   refine tk 9 hHeld ?_
   refine tk 10 hHeld ?_
   refine tk 11 hHeld ?_
   refine tk 12 hHeld ?_
   refine wpAnyT_one (i := 13) (o := ?op13) (by kernel_rfl) ?ap13 (by decide) (fun K hK => ?bp13)
   case ap13 => (simp only [List.getElem?_toArray, List.getElem?_cons_succ, List.getElem?_cons_zero]; exact rfl)
   go_simp
   refine (HLk.out _ ((Below.refl _ _).drew)).mono ?_
   rintro e wc ⟨rfl, hwc⟩
   have Hwc := kp (show Below wr.heap.size wr wc from (Below.refl _ _).drew.trans hwc)
   clear hwc
   refine hK.out _ _ ?_ (fun hHeld2 => ?_)
   ·exact ⟨⟨cell_keep Hwc.out b0, cell_keep Hwc.out b1⟩, cell_keep Hwc.out d0, cell_keep Hwc.out y00, cell_keep Hwc.out k0⟩
   clear hK K hHeld
   have hHeld := hHeld2
   clear hHeld2
   try simp only [Act.put, List.setIfInBounds_toArray, List.set_cons_zero, List.set_cons_succ]
   refine tk 14 hHeld ?_
   refine wpAnyT_done (by kernel_rfl) ?_ _
   try clear hHeld
   refine NoPanic.normal ?_
   have Hbe2 := kp (Hbe.out.trans (Hwc.out.mono Hbe.out.size))
   have HB2c := kp (HB2r.out.under Hwc.out)
   have HB3c := kp (HB3r.out.under Hwc.out)
   have hnd2 := (HR0.out.below Hbe2.out).more Hbe2.out.size
   have Hrow2 := kp hnd2.row
   clear hnd2 b0 b1 d0 d1 d2 d3 d4 d5 d6 d7 d8 d9 d10 d11 d12 d13
   obtain ⟨b0, b1, _, _⟩ := HB2c.out.two
   obtain ⟨d0, d1, d2, d3, d4, d5, d6, d7, d8, d9, d10, d11, d12, d13⟩ := (Box.fourteen HB3c.out).1
   rcases k with _ | q
   ·have r0 : decide ((0 : Int) < ((0 : Nat) : Int)) = false := rfl
    go_wp2_with fail
    exact ⟨⟨1, by omega, by go_num, Hbe2.out⟩, by simp [intOf]; omega⟩
   ·have hql : q < ls.length := by rw [Hlx.out]; omega
    obtain ⟨bl', ol', hA', hbl', l1⟩ := Row.at_ Hrow2.out (k := q) (by rw [List.length_map]; exact hql)
    rw [List.getElem_map] at l1
    unfold llV at l1
    have hfq := Hfk.out q rfl
    dsimp only at hA'
    injection hA' with hA'
    injection hA' with ha1 ha2 _
    subst ha1 ha2
    generalize (ls[q]'hql).cs.length = lq at *
    generalize (ls[q]'hql).A = qA at *
    generalize (ls[q]'hql).c = qc at *
    have r0 : decide ((0 : Int) < ((q : Int) + 1)) = true := decide_eq_true (by omega)
    have r1 : ¬ ((lq : Nat) : Int) < ((ll : Nat) : Int) := by omega
    have r1d : decide (((lq : Nat) : Int) < ((ll : Nat) : Int)) = false := decide_eq_false r1
    have r1n : decide (lq < ll) = false := decide_eq_false (by omega)
    have hwq : IntKind.i64.wrap (q : Int) = (q : Int) := IntWalk.i64_in _ (by omega)
    have hq0 : (0 : Int) ≤ (q : Int) := by omega
    have hq1 : (q : Int) < (lx : Int) := by omega
    go_wp2_with fail
    exact ⟨⟨q + 2, by omega, by go_num, Hbe2.out⟩, by simp [intOf]; omega⟩
  ·obtain rfl : k = lx := by omega
   go_wp2_with fail
   refine (HC.out _).mono ?_
   rintro e w3 ⟨rfl, hb3⟩
   have Hf := kp (HQ.out _ (Hb0.out.trans ((Hbe.out.trans (hb3.mono Hbe.out.size)).mono Hb0.out.size)))
   clear hb3
   go_wp2_with fail
   exact Hf.out
def setAll (w : World) (g o : Nat) : List Value → World
 | [] => w
 | v :: vs => setAll (w.setCell ⟨g, o, none⟩ v) g (o + 1) vs
theorem setAll_other {k g : Nat} (hk : k ≠ g) : ∀ (vs : List Value) (w : World) (o : Nat), (setAll w g o vs).heap[k]? = w.heap[k]?
 | [], _, _ => rfl
 | v :: vs, w, o => (setAll_other hk vs _ _).trans (Below.heap_setCell w ⟨g, o, none⟩ v k hk)
theorem setAll_size (g : Nat) : ∀ (vs : List Value) (w : World) (o : Nat), (setAll w g o vs).heap.size = w.heap.size
 | [], _, _ => rfl
 | v :: vs, w, o => (setAll_size g vs _ _).trans (by simp)
theorem below_setAll {B g : Nat} {x : World} (hg : B ≤ g) : ∀ (vs : List Value) (w : World) (o : Nat), Below B x w → Below B x (setAll w g o vs)
 | [], _, _, h => h
 | v :: vs, w, o, h => below_setAll hg vs _ _ (h.setCell (p := ⟨g, o, none⟩) hg v)
theorem turn_setAll {p : Nat → Prop} {g : Nat} {x : World} (hg : p g) : ∀ (vs : List Value) (w : World) (o : Nat), Turn p x w → Turn p x (setAll w g o vs)
 | [], _, _, h => h
 | v :: vs, w, o, h => turn_setAll hg vs _ _ (h.trans (Turn.set w ⟨g, o, none⟩ v hg))
theorem box_setAll {g : Nat} {t : TypeId} : ∀ (vs : List Value) (w : World) (pre post : List Value), Box w g t (pre ++ post).toArray → vs.length = post.length → Box (setAll w g pre.length vs) g t (pre ++ vs).toArray
 | [], w, pre, post, h, hl => by
  have : post = [] := List.length_eq_zero_iff.1 hl.symm
  subst this
  exact h
 | v :: vs, w, pre, [], h, hl => by cases hl
 | v :: vs, w, pre, p :: post, h, hl => by
  have h1 := h.set pre.length v
  have e : ((pre ++ p :: post).toArray.setIfInBounds pre.length v) = ((pre ++ [v]) ++ post).toArray := by simp
  rw [e] at h1
  have h2 := box_setAll vs _ (pre ++ [v]) post h1 (by simpa using hl)
  rw [List.length_append, List.append_assoc] at h2
  exact h2
theorem box_setAll0 {g : Nat} {t : TypeId} {w : World} {cs : Array Value} (h : Box w g t cs) (vs : List Value) (hl : vs.length = cs.size) : Box (Tc.setAll w g 0 vs) g t vs.toArray := by
 have := box_setAll vs w [] cs.toList (by simpa using h) (by simpa using hl)
 simpa using this
def Ap (w : World) (v : Value) (A : Option Addr) (vs : List Value) : Prop := Row w w.heap.size A vs ∧ ∀ b off, A = some ⟨b, off, none⟩ → vs ≠ [] → v.ownBlock ≠ some b
def From (B : Nat) (A : Option Addr) (vs : List Value) : Prop := ∀ b off, A = some ⟨b, off, none⟩ → vs ≠ [] → B ≤ b
theorem Ap.app {wr w' : World} {v v' : Value} {A : Option Addr} {vs : List Value} (h : Ap wr v A vs) (ha : App wr w' v v') : Ap w' v' A vs := by
 refine ⟨(Row.app h.1 ha (Nat.le_refl _) h.2).more ha.grown.size, fun b off e hne => ?_⟩
 rcases ha.lies with hl | ⟨k, hl, hk⟩
 ·rw [hl]; exact h.2 b off e hne
 ·rw [hl]
  intro hh
  injection hh with hh
  rcases h.1 with h0 | ⟨b', off', e', hb', _⟩
  ·exact hne h0
  ·rw [e] at e'
   injection e' with e'
   injection e' with e1 _ _
   omega
theorem Ap.below {w w' : World} {v : Value} {A : Option Addr} {vs : List Value} (h : Ap w v A vs) (hb : Below w.heap.size w w') : Ap w' v A vs := ⟨(h.1.below hb).more hb.size, h.2⟩
theorem Ap.new {w : World} {v : Value} {A : Option Addr} {vs : List Value} {B n m c : Nat} {e : TypeId} (hown : w.ownsRow B e m (.slice A n c) n vs) (hv : ∀ k, v.ownBlock = some k → k < B) : Ap w v A vs := by
 refine ⟨row_ownK hown, fun b off e hne hh => ?_⟩
 have h1 := hv b hh
 rw [e] at hown
 have h2 := (hown.lt b rfl).1
 omega
theorem From.own {w : World} {A : Option Addr} {vs : List Value} {B0 B n m c : Nat} {e : TypeId} (hown : w.ownsRow B e m (.slice A n c) n vs) (hB : B0 ≤ B) : From B0 A vs := by
 intro b off h hne
 rw [h] at hown
 exact Nat.le_trans hB (hown.lt b rfl).1
theorem From.less {B B' : Nat} {A : Option Addr} {vs : List Value} (h : From B A vs) (hB : B' ≤ B) : From B' A vs := fun b off e hne => Nat.le_trans hB (h b off e hne)
theorem Ap.far {w : World} {B : Nat} {v : Value} {A : Option Addr} {vs : List Value} (h : Ap w v A vs) (hf : From B A vs) {p : Addr} (hp : p.block < B) (u : Value) : Ap (w.setCell p u) v A vs := by
 refine ⟨?_, h.2⟩
 rw [show (w.setCell p u).heap.size = w.heap.size by simp]
 exact row_same h.1 (fun b off e hne => Below.heap_setCell w p u b (by have := hf b off e hne; omega))
theorem own_far {w : World} {B : Nat} {e : TypeId} {sz n : Nat} {v : Value} {xs : List Value} (h : w.ownsRow B e sz v n xs) {p : Addr} (hp : p.block < B) (u : Value) : (w.setCell p u).ownsRow B e sz v n xs := by
 obtain ⟨h1, h2⟩ := h
 refine ⟨h1, ?_⟩
 rcases h2 with h2 | ⟨g, cap, cur, e, hB, hh, r⟩
 ·exact .inl h2
 ·exact .inr ⟨g, cap, cur, e, hB, (Below.heap_setCell w p u g (by omega)).trans hh, r⟩
def LlsOwn (w : World) (B : Nat) (v : Value) (ls : List Ll) : Prop := w.ownsRow B 142 1 v ls.length (ls.map llV) ∧ ∀ l ∈ ls, Ap w v l.A (l.cs.flatMap clV) ∧ From B l.A (l.cs.flatMap clV)
theorem LlsOwn.nil (w : World) (B : Nat) : LlsOwn w B (.slice none 0 0) [] := ⟨own_nil _ _ _ _, fun x hx => by cases hx⟩
theorem LlsOwn.below {w w' : World} {B : Nat} {v : Value} {ls : List Ll} (h : LlsOwn w B v ls) (hb : Below w.heap.size w w') : LlsOwn w' B v ls := ⟨own_below h.1 hb, fun l hl => ⟨(h.2 l hl).1.below hb, (h.2 l hl).2⟩⟩
theorem LlsOwn.base {w : World} {B B' : Nat} {v : Value} {ls : List Ll} (h : LlsOwn w B v ls) (hB : B' ≤ B) : LlsOwn w B' v ls := ⟨own_base h.1 hB, fun l hl => ⟨(h.2 l hl).1, (h.2 l hl).2.less hB⟩⟩
theorem LlsOwn.far {w : World} {B : Nat} {v : Value} {ls : List Ll} (h : LlsOwn w B v ls) {p : Addr} (hp : p.block < B) (u : Value) : LlsOwn (w.setCell p u) B v ls := ⟨own_far h.1 hp u, fun l hl => ⟨(h.2 l hl).1.far (h.2 l hl).2 hp u, (h.2 l hl).2⟩⟩
theorem LlsOwn.app {w w' : World} {B n c n' c' : Nat} {A A' : Option Addr} {ls : List Ll} {l : Ll} (h : LlsOwn w B (.slice A n c) ls) (hl : Ap w (.slice A n c) l.A (l.cs.flatMap clV)) (hf : From B l.A (l.cs.flatMap clV))
 (ho : w'.ownsRow B 142 1 (.slice A' n' c') (n + 1) (ls.map llV ++ [llV l])) (ha : App w w' (.slice A n c) (.slice A' n' c')) (hn : ls.length = n) : LlsOwn w' B (.slice A' n' c') (ls ++ [l]) := by
 refine ⟨?_, fun x hx => ?_⟩
 ·rw [List.length_append, hn, List.map_append]
  exact ho
 ·rcases List.mem_append.1 hx with hx | hx
  ·exact ⟨(h.2 x hx).1.app ha, (h.2 x hx).2⟩
  ·rw [List.mem_singleton.1 hx]; exact ⟨hl.app ha, hf⟩
theorem LlsOwn.at_ {w : World} {B n c : Nat} {A : Option Addr} {ls : List Ll} (h : LlsOwn w B (.slice A n c) ls) : Row w w.heap.size A (ls.map llV) ∧ ∀ l ∈ ls, Row w w.heap.size l.A (l.cs.flatMap clV) := by
 obtain ⟨A', c', e⟩ := own_form h.1
 injection e with e1 e2 e3
 subst e1 e2 e3
 exact ⟨row_ownK h.1, fun x hx => (h.2 x hx).1.1⟩
def NdFrom (B : Nat) (n : Nd) : Prop := From B n.A (n.ls.map llV) ∧ ∀ l ∈ n.ls, From B l.A (l.cs.flatMap clV)
theorem LlsOwn.from_ {w : World} {B n c : Nat} {A : Option Addr} {ls : List Ll} (h : LlsOwn w B (.slice A n c) ls) : From B A (ls.map llV) ∧ ∀ l ∈ ls, From B l.A (l.cs.flatMap clV) := by
 obtain ⟨A', c', e⟩ := own_form h.1
 injection e with e1 e2 e3
 subst e1 e2 e3
 exact ⟨From.own h.1 (Nat.le_refl _), fun x hx => (h.2 x hx).2⟩
theorem cl_flat_one (l : List Cl) : ∀ u ∈ l.flatMap clV, u.oneCell' = true := by
 intro u hu
 obtain ⟨c, _, hc⟩ := List.mem_flatMap.1 hu
 exact cl_one c u hc
set_option maxHeartbeats 1000000 in
theorem cloneCells_some (a : Addr) (n c : Nat) (vs : List Value) (w : World) (hn : n ≤ 1000000) (hv : vs.length = n * 12) (hc : ∀ j u, vs[j]? = some u → w.cell? (a.add j) = some u) (h1 : ∀ u ∈ vs, u.oneCell' = true) :
 Calls Tryz.prog 104 #[.slice (some a) n c] w (Cloned 106 12 n vs w) := by
 have q : ∀ (w : World) (a : Option Addr) (n c n' c' : Nat), (binOp .eql 142 (.slice a n c) (.slice none n' c')).run Tryz.prog w = .ok (.bool a.isNone) w := fun w a n c n' c' => Lib.run_eql_slice_nil w _ _ a n c n' c' Tryz.underlying142
 obtain ⟨i0, ti0, tz0, tz1, tz2⟩ := info_parts info_cell
 have Hc := kp hc
 have Hv := kp hv
 have H1 := kp h1
 have Hn := kp hn
 have HQ := kp (show ∀ v' w', w'.ownsRow w.heap.size 106 12 v' n vs → Below w.heap.size w w' → Cloned 106 12 n vs w (.returned v') w' from fun v' w' a b => ⟨v', rfl, a, b⟩)
 clear hc hv h1 hn
 generalize hQ : Cloned 106 12 n vs w = Q at *
 clear hQ
 go_enter Tryz.func104, Tryz.ntmps104
 go_wp2_with (at_builtin; refine wpList_append_own _ rfl _ _ 142 rfl w.heap.size 106 i0 _ 12 96 Tryz.underlying142 ti0 tz0 tz1 tz2 rfl (by decide) _ _ _ rfl (World.ownsRow_made w #[] 0 (Nat.le_refl _) (Nat.zero_le _) rfl) a n c vs rfl ?qc1 ?qc2 ?qc3 ?qc4 ?qc5 ?qc6 ?_)
 case qc1 => exact Hv.out
 case qc2 =>
  intro j u hj
  exact Lib.cell?_alloc_some _ (Hc.out j u hj)
 case qc3 => exact H1.out
 case qc4 => have := Hn.out; rw [Nat.zero_add]; unfold maxLen; omega
 case qc5 => have := Hn.out; rw [Nat.zero_add]; omega
 case qc6 => simp
 intro v' w1 hown hgrow hnil
 have Hown := kp hown
 have Hgr := kp hgrow
 clear hown hgrow hnil
 go_wp2_with fail
 exact HQ.out _ _ (by simpa using Hown.out) (((Below.refl _ w).alloc (Nat.le_refl _) _).grown Hgr.out (by simp) (by intro k hk; simp [Value.ownBlock] at hk; omega))
set_option maxHeartbeats 1000000 in
theorem cloneCells_nil (n c : Nat) (w : World) : Calls Tryz.prog 104 #[.slice none n c] w (Cloned 106 12 0 [] w) := by
 have q : ∀ (w : World) (a : Option Addr) (n c n' c' : Nat), (binOp .eql 142 (.slice a n c) (.slice none n' c')).run Tryz.prog w = .ok (.bool a.isNone) w := fun w a n c n' c' => Lib.run_eql_slice_nil w _ _ a n c n' c' Tryz.underlying142
 go_enter Tryz.func104, Tryz.ntmps104
 go_wp2_with fail
 go_ret
 exact ⟨_, rfl, own_nil _ _ _ _, Below.refl _ _⟩
theorem cloneCells_any (A : Option Addr) (c : Nat) (l : List Cl) (w : World) (hn : l.length ≤ 1000000) (hr : Row w w.heap.size A (l.flatMap clV)) :
 Calls Tryz.prog 104 #[.slice A l.length c] w (Cloned 106 12 l.length (l.flatMap clV) w) := by
 rcases A with _ | a
 ·have h0 : l.flatMap clV = [] := by
   rcases hr with h | ⟨b, off, h, _⟩
   ·exact h
   ·cases h
  have h1 : l.length = 0 := by
   have := flat_len clV_len l
   rw [h0] at this
   simp at this
   omega
  rw [h0, h1]
  exact cloneCells_nil _ _ _
 ·exact cloneCells_some a l.length c (l.flatMap clV) w hn (flat_len clV_len l) (cells_of_row hr) (cl_flat_one l)
end Go.Proofs.YthmbgbmcdbdecaaGreat.Tc
