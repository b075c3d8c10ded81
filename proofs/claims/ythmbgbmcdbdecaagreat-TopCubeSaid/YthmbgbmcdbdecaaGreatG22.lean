/- Parts of a proof: Layer 19: whether facts may be of a shape. Layer 24: cells, lists of cells, nodes, as they lie in memory. -/
import Derived.Test.YthmbgbmcdbdecaaGreatG05
import Derived.Test.YthmbgbmcdbdecaaGreatG12
import Derived.Test.YthmbgbmcdbdecaaGreatG21
import Derived.Maps.Own
import Derived.Maps.OwnOps
import Derived.Maps.OwnSet
import Derived.Maps.Views
import Derived.RangeFuncNested
import Derived.RangeFuncBound
import Derived.RangeFuncCalls
import Derived.RangeFuncLeaves
import Derived.RangeFuncBox
import Derived.Shelf.Abstract
import Derived.Shelf.RegionOpen
import Derived.OwnWalkIn
import Derived.TacticsInMore
import Derived.LoopNIn
import Derived.LoopIn
import Derived.ChangeKeysEq
namespace Go.Proofs.YthmbgbmcdbdecaaGreat.Tc
open Go.RowKit Base
set_option linter.unusedVariables false
set_option linter.unusedSimpArgs false
def Rises (l : List Fa) : Prop := ∀ i (h : i + 1 < l.length), cmpN l[i].keys l[i + 1].keys < 0
set_option maxRecDepth 100000 in
set_option maxHeartbeats 4000000 in
theorem factrow_any (A A' : Option Addr) (c c' m : Nat) (xs l : List Fa) (w : World) (h : IlsAt w w.heap.size A xs) (hr : FasAt w w.heap.size A' l) (hn16 : xs.length ≤ 16) (hln : l.length ≤ 1000000) (hm1 : 1 ≤ m) (hm : m ≤ 3) (ho : ∀ f ∈ l, FaOk xs m f) (hs : Rises l) :
 Calls Tryz.prog 28 #[.agg #[.slice A xs.length c, .int .i64 m], .slice A' l.length c'] w fun e w' => e = .returned (.int .i64 0) ∧ Below w.heap.size w w' := by
 have hb0 := (Below.refl w.heap.size w).alloc (Nat.le_refl _) (.cells #[.slice A xs.length c, .int .i64 m] 83)
 have HB := kp (Box.new w 83 #[.slice A xs.length c, .int .i64 m])
 have Hb0 := kp hb0
 have Hh := kp h
 have Hr := kp hr
 have Ho := kp ho
 have Hs := kp hs
 have HC := kp (fun f w h1 h2 h3 => factcheck_any A c m xs f w h1 h2 hn16 hm1 hm h3)
 have HCmp := kp factcmp_any
 have Hk := kp (show ∀ f ∈ l, f.keys.length ≤ 1000000 from fun f hf => by have := (ho f hf).n; omega)
 clear h hr ho hs hb0
 generalize hQ : (fun (e : Ending) w' => e = .returned (.int .i64 0) ∧ Below w.heap.size w w') = Q
 have HQ := kp (show ∀ w', Below w.heap.size w w' → Q (.returned (.int .i64 0)) w' from fun w' hb => by rw [← hQ]; exact ⟨rfl, hb⟩)
 clear hQ
 obtain ⟨n, hn⟩ : ∃ n, l.length = n := ⟨_, rfl⟩
 have Hn := kp hn
 rw [hn] at hln ⊢
 clear hn
 go_enter Tryz.func28, Tryz.ntmps28
 go_wp2_with fail
 go_loopw [10] (fun v10 wr => ∃ k : Nat, k ≤ n ∧ v10 = .int .i64 k ∧ Box wr w.heap.size 83 #[.slice A xs.length c, .int .i64 m] ∧ Below w.heap.size w wr) (fun v10 _ => n - (intOf v10).toNat)
 case atStart => exact ⟨0, Nat.zero_le _, rfl, HB.out, Hb0.out⟩
 case round =>
  clear HB Hb0
  obtain ⟨k, hk, rfl, hbx, hbe⟩ := hrel
  have Hbx := kp hbx
  have Hbe := kp hbe
  clear hbx hbe
  by_cases hlt : k < n
  ·have hkl : k < l.length := by rw [Hn.out]; exact hlt
   have hfs := (Hr.out.below Hbe.out).more Hbe.out.size
   obtain ⟨b, off, hA, hb, c0, c1, c2, c3, c4, c5, c6, c7, c8, c9, c10⟩ := hfs.cells k hkl
   have hf := hfs.keys _ (List.getElem_mem hkl)
   have Hfo := kp (Ho.out _ (List.getElem_mem hkl))
   have Hkk := kp (Hk.out _ (List.getElem_mem hkl))
   have Hfs := kp hfs
   have Hlk := kp (show ∀ q (h : q + 1 = k), cmpN (l[q]'(by omega)).keys (l[k]'hkl).keys < 0 from fun q h => by subst h; exact Hs.out q hkl)
   generalize (l[k]'hkl) = f at *
   have hbG := (Below.refl wr.heap.size wr).alloc (Nat.le_refl _) (.cells (factC f) 78)
   have HBg := kp (Box.new wr 78 (factC f))
   have Hb2 := kp (Hbe.out.trans (hbG.mono Hbe.out.size))
   have Hbx2 := kp (Hbx.out.under hbG)
   have Hfs2 := kp ((hfs.below hbG).more hbG.size)
   have Hf := kp ((hf.below hbG).more hbG.size)
   clear hfs hf hbG
   have hi0 : (0 : Int) ≤ (k : Int) := by omega
   have hi1 : (k : Int) < (n : Int) := by omega
   rw [hA]
   have HA := kp hA
   clear hA
   go_upto_region 4 with fail
   clear c0 c1 c2 c3 c4 c5 c6 c7 c8 c9 c10
   generalize wr.alloc (.cells (factC f) 78) = W2 at *
   generalize wr.heap.size = gF at *
   obtain ⟨a0, a1, a2, a3, a4, a5, a6, a7, a8, a9, a10⟩ := Box.eleven HBg.out
   obtain ⟨x0, x1, _, _⟩ := Hbx2.out.two
   have HCk := kp (HC.out f W2 ((Hh.out.below Hb2.out).more Hb2.out.size) Hf.out Hfo.out)
   go_wp2_with fail
   refine HCk.out.mono ?_
   rintro e w3 ⟨rfl, hb3⟩
   have Hb3 := kp (Hb2.out.trans (hb3.mono Hb2.out.size))
   have HBg3 := kp (HBg.out.under hb3)
   have Hbx3 := kp (Hbx2.out.under hb3)
   have Hfs3 := kp ((Hfs2.out.below hb3).more hb3.size)
   have Hf3 := kp ((Hf.out.below hb3).more hb3.size)
   clear hb3 a0 a1 a2 a3 a4 a5 a6 a7 a8 a9 a10 x0 x1
   obtain ⟨a0, a1, a2, a3, a4, a5, a6, a7, a8, a9, a10⟩ := Box.eleven HBg3.out
   rcases k with _ | q
   ·have r0 : decide ((0 : Int) < ((0 : Nat) : Int)) = false := rfl
    go_wp2_with fail
    refine wp_region_noPanic ?_
    refine wp_region_T (t := 99) (S := (fun _ => True)) (by kernel_rfl) trivial (fun hHeld => ?_)
    refine tk 0 hHeld ?_
    refine tk 1 hHeld ?_
    refine tk 2 hHeld ?_
    refine sk 3 hHeld ?_
    refine sk 4 hHeld ?_
    refine sk 5 hHeld ?_
    refine sk 6 hHeld ?_
    refine sk 7 hHeld ?_
    refine sk 8 hHeld ?_
    refine sk 9 hHeld ?_
    refine sk 10 hHeld ?_
    refine tk 11 hHeld ?_
    refine wpAnyT_done (by kernel_rfl) ?_ _
    try clear hHeld
    refine NoPanic.normal ?_
    go_wp2_with fail
    exact ⟨⟨1, by omega, by go_num, Hbx3.out.drew, Hb3.out.drew⟩, by simp [intOf]; omega⟩
   ·have hql : q < l.length := by rw [Hn.out]; omega
    obtain ⟨b', off', hA', hb', p0, p1, p2, p3, p4, p5, p6, p7, p8, p9, p10⟩ := Hfs3.out.cells q hql
    have hAe := HA.out.symm.trans hA'
    injection hAe with hAe
    injection hAe with ha1 ha2 _
    subst ha1 ha2
    have hcl := Hlk.out q rfl
    have HCp := kp (show Calls Tryz.prog 52 #[.agg (factC (l[q]'hql)), .agg (factC f)] w3.drew _ from HCmp.out (l[q]'hql) f w3.drew (Hk.out _ (List.getElem_mem hql)) Hkk.out (Hfs3.out.keys _ (List.getElem_mem hql)) Hf3.out)
    generalize (l[q]'hql) = p at *
    have hVd : decide ((0 : Int) ≤ cmpN p.keys f.keys) = false := decide_eq_false (by omega)
    generalize cmpN p.keys f.keys = V at *
    have r0 : decide ((0 : Int) < ((q : Int) + 1)) = true := decide_eq_true (by omega)
    have hwq : IntKind.i64.wrap (q : Int) = (q : Int) := IntWalk.i64_in _ (by omega)
    have hq0 : (0 : Int) ≤ (q : Int) := by omega
    have hq1 : (q : Int) < (n : Int) := by omega
    have hbd : b < w3.heap.size := hb'
    have hFd : gF < w3.heap.size := HBg3.out.lt
    clear hcl
    go_wp2_with fail
    refine wp_region_noPanic ?_
    refine wp_region_T (t := 99) (S := (fun w' => (w'.cell? ⟨b, off + q * 11, none⟩ = some (.slice p.A p.keys.length p.c) ∧ w'.cell? ⟨b, off + q * 11 + 1, none⟩ = some (.int .i64 p.ag.c) ∧ w'.cell? ⟨b, off + q * 11 + 2, none⟩ = some (.int .i64 p.ag.s0) ∧ w'.cell? ⟨b, off + q * 11 + 3, none⟩ = some (.int .i64 p.ag.n0) ∧ w'.cell? ⟨b, off + q * 11 + 4, none⟩ = some (.int .i64 p.ag.x0) ∧ w'.cell? ⟨b, off + q * 11 + 5, none⟩ = some (.int .i64 p.ag.s1) ∧ w'.cell? ⟨b, off + q * 11 + 6, none⟩ = some (.int .i64 p.ag.n1) ∧ w'.cell? ⟨b, off + q * 11 + 7, none⟩ = some (.int .i64 p.ag.x1) ∧ w'.cell? ⟨b, off + q * 11 + 8, none⟩ = some (.int .i64 p.ag.s2) ∧ w'.cell? ⟨b, off + q * 11 + 9, none⟩ = some (.int .i64 p.ag.n2) ∧ w'.cell? ⟨b, off + q * 11 + 10, none⟩ = some (.int .i64 p.ag.x2)) ∧ (w'.cell? ⟨gF, 0, none⟩ = some (.slice f.A f.keys.length f.c) ∧ w'.cell? ⟨gF, 1, none⟩ = some (.int .i64 f.ag.c) ∧ w'.cell? ⟨gF, 2, none⟩ = some (.int .i64 f.ag.s0) ∧ w'.cell? ⟨gF, 3, none⟩ = some (.int .i64 f.ag.n0) ∧ w'.cell? ⟨gF, 4, none⟩ = some (.int .i64 f.ag.x0) ∧ w'.cell? ⟨gF, 5, none⟩ = some (.int .i64 f.ag.s1) ∧ w'.cell? ⟨gF, 6, none⟩ = some (.int .i64 f.ag.n1) ∧ w'.cell? ⟨gF, 7, none⟩ = some (.int .i64 f.ag.x1) ∧ w'.cell? ⟨gF, 8, none⟩ = some (.int .i64 f.ag.s2) ∧ w'.cell? ⟨gF, 9, none⟩ = some (.int .i64 f.ag.n2) ∧ w'.cell? ⟨gF, 10, none⟩ = some (.int .i64 f.ag.x2)))) (by kernel_rfl) ⟨⟨p0, p1, p2, p3, p4, p5, p6, p7, p8, p9, p10⟩, ⟨a0, a1, a2, a3, a4, a5, a6, a7, a8, a9, a10⟩⟩ (fun hHeld => ?_)
    refine tk 0 hHeld ?_
    refine tk 1 hHeld ?_
    refine tk 2 hHeld ?_
    refine tk 3 hHeld ?_
    refine tk 4 hHeld ?_
    refine tk 5 hHeld ?_
    refine tk 6 hHeld ?_
    refine tk 7 hHeld ?_
    refine tk 8 hHeld ?_
    refine wpAnyT_one (i := 9) (o := ?oq9) (by kernel_rfl) ?aq9 (by decide) (fun K hK => ?bq9)
    case aq9 => (simp only [List.getElem?_toArray, List.getElem?_cons_succ, List.getElem?_cons_zero]; exact rfl)
    go_simp
    refine HCp.out.mono ?_
    rintro e wc ⟨rfl, hwc⟩
    have Hwc := kp hwc
    clear hwc
    refine hK.out _ _ ?_ (fun hHeld2 => ?_)
    ·have e1 : ∀ i, wc.cell? ⟨b, i, none⟩ = w3.drew.cell? ⟨b, i, none⟩ := fun i => World.cell?_of_block (a := ⟨b, i, none⟩) (by rw [Hwc.out]; exact (Below.heap_alloc _ _ _ (by simp; omega)).trans (Below.heap_alloc _ _ _ hbd))
     have e2 : ∀ i, wc.cell? ⟨gF, i, none⟩ = w3.drew.cell? ⟨gF, i, none⟩ := fun i => World.cell?_of_block (a := ⟨gF, i, none⟩) (by rw [Hwc.out]; exact (Below.heap_alloc _ _ _ (by simp; omega)).trans (Below.heap_alloc _ _ _ hFd))
     simp only [e1, e2]
     exact ⟨⟨p0, p1, p2, p3, p4, p5, p6, p7, p8, p9, p10⟩, ⟨a0, a1, a2, a3, a4, a5, a6, a7, a8, a9, a10⟩⟩
    clear hK K hHeld
    have hHeld := hHeld2
    clear hHeld2
    try simp only [Act.put, List.setIfInBounds_toArray, List.set_cons_zero, List.set_cons_succ]
    refine tk 10 hHeld ?_
    refine tk 11 hHeld ?_
    refine wpAnyT_done (by kernel_rfl) ?_ _
    try clear hHeld
    refine NoPanic.normal ?_
    have hbc := (show Below w3.drew.heap.size w3.drew wc by rw [Hwc.out]; exact ((Below.refl _ _).alloc (Nat.le_refl _) _).alloc (by simp) _)
    have Hbxc := kp (Box.under (w := w3.drew) Hbx3.out hbc)
    have Hbec := kp (Hb3.out.drew.trans (hbc.mono Hb3.out.size))
    clear hbc
    go_wp2_with fail
    exact ⟨⟨q + 2, by omega, by go_num, Hbxc.out, Hbec.out⟩, by simp [intOf]; omega⟩
  ·obtain rfl : k = n := by omega
   have Hf := kp (HQ.out _ Hbe.out)
   go_wp2_with fail
   exact Hf.out
structure Cl where
 key : Nat
 child : Nat
 ag : Ag
abbrev clV (c : Cl) : List Value := [.int .i64 (c.key : Nat), .int .i64 (c.child : Nat), .int .i64 c.ag.c, .int .i64 c.ag.s0, .int .i64 c.ag.n0, .int .i64 c.ag.x0, .int .i64 c.ag.s1, .int .i64 c.ag.n1, .int .i64 c.ag.x1, .int .i64 c.ag.s2, .int .i64 c.ag.n2, .int .i64 c.ag.x2]
abbrev clC (c : Cl) : Array Value := #[.int .i64 (c.key : Nat), .int .i64 (c.child : Nat), .int .i64 c.ag.c, .int .i64 c.ag.s0, .int .i64 c.ag.n0, .int .i64 c.ag.x0, .int .i64 c.ag.s1, .int .i64 c.ag.n1, .int .i64 c.ag.x1, .int .i64 c.ag.s2, .int .i64 c.ag.n2, .int .i64 c.ag.x2]
theorem clV_len (c : Cl) : (clV c).length = 12 := rfl
theorem cl_one (c : Cl) : ∀ u ∈ (clC c).toList, u.oneCell' = true := by
 intro u hu
 simp only [clC, List.mem_cons, List.not_mem_nil, or_false] at hu
 rcases hu with rfl | rfl | rfl | rfl | rfl | rfl | rfl | rfl | rfl | rfl | rfl | rfl <;> rfl
theorem info_cell : (Tryz.prog.info? 106).map (fun i => (i.zero, i.size, i.bytes)) = some (some (.agg #[.int .i64 0, .int .i64 0, .int .i64 0, .int .i64 0, .int .i64 0, .int .i64 0, .int .i64 0, .int .i64 0, .int .i64 0, .int .i64 0, .int .i64 0, .int .i64 0]), 12, 96) := by kernel_rfl
theorem info_node : (Tryz.prog.info? 108).map (fun i => (i.zero, i.size, i.bytes)) = some (some (.agg #[.int .i64 0, .slice none 0 0, .int .i64 0, .int .i64 0, .int .i64 0, .int .i64 0, .int .i64 0, .int .i64 0, .int .i64 0, .int .i64 0, .int .i64 0, .int .i64 0, .int .i64 0, .int .i64 0]), 14, 128) := by kernel_rfl
theorem info_cells : (Tryz.prog.info? 142).map (fun i => (i.zero, i.size, i.bytes)) = some (some (.slice none 0 0), 1, 24) := by kernel_rfl
def clZero : Cl := ⟨0, 0, agZero⟩
structure Ll where
 A : Option Addr
 cs : List Cl
 c : Nat
def llV (l : Ll) : Value := .slice l.A l.cs.length l.c
structure Nd where
 dim : Nat
 A : Option Addr
 ls : List Ll
 c : Nat
 all : Cl
abbrev ndV (n : Nd) : List Value := [.int .i64 (n.dim : Nat), .slice n.A n.ls.length n.c, .int .i64 (n.all.key : Nat), .int .i64 (n.all.child : Nat), .int .i64 n.all.ag.c, .int .i64 n.all.ag.s0, .int .i64 n.all.ag.n0, .int .i64 n.all.ag.x0, .int .i64 n.all.ag.s1, .int .i64 n.all.ag.n1, .int .i64 n.all.ag.x1, .int .i64 n.all.ag.s2, .int .i64 n.all.ag.n2, .int .i64 n.all.ag.x2]
abbrev ndC (n : Nd) : Array Value := #[.int .i64 (n.dim : Nat), .slice n.A n.ls.length n.c, .int .i64 (n.all.key : Nat), .int .i64 (n.all.child : Nat), .int .i64 n.all.ag.c, .int .i64 n.all.ag.s0, .int .i64 n.all.ag.n0, .int .i64 n.all.ag.x0, .int .i64 n.all.ag.s1, .int .i64 n.all.ag.n1, .int .i64 n.all.ag.x1, .int .i64 n.all.ag.s2, .int .i64 n.all.ag.n2, .int .i64 n.all.ag.x2]
theorem ndV_len (n : Nd) : (ndV n).length = 14 := rfl
theorem nd_one (n : Nd) : ∀ u ∈ (ndC n).toList, u.oneCell' = true := by
 intro u hu
 simp only [ndC, List.mem_cons, List.not_mem_nil, or_false] at hu
 rcases hu with rfl | rfl | rfl | rfl | rfl | rfl | rfl | rfl | rfl | rfl | rfl | rfl | rfl | rfl <;> rfl
structure PNode where
 dim : Nat
 lists : List (List Cl)
 all : Cl
def plN (n : Nd) : PNode := ⟨n.dim, n.ls.map Ll.cs, n.all⟩
structure NdAt (w : World) (B : Nat) (n : Nd) : Prop where
 row : Row w B n.A (n.ls.map llV)
 each : ∀ l ∈ n.ls, Row w B l.A (l.cs.flatMap clV)
theorem NdAt.below {w w' : World} {B : Nat} {n : Nd} (h : NdAt w B n) (hb : Below B w w') : NdAt w' B n := ⟨h.row.below hb, fun l hl => (h.each l hl).below hb⟩
theorem NdAt.more {w : World} {B B' : Nat} {n : Nd} (h : NdAt w B n) (hB : B ≤ B') : NdAt w B' n := ⟨h.row.more hB, fun l hl => (h.each l hl).more hB⟩
structure NdsAt (w : World) (B : Nat) (A : Option Addr) (l : List Nd) : Prop where
 row : Row w B A (l.flatMap ndV)
 each : ∀ n ∈ l, NdAt w B n
theorem NdsAt.below {w w' : World} {B : Nat} {A : Option Addr} {l : List Nd} (h : NdsAt w B A l) (hb : Below B w w') : NdsAt w' B A l := ⟨h.row.below hb, fun n hn => (h.each n hn).below hb⟩
theorem NdsAt.more {w : World} {B B' : Nat} {A : Option Addr} {l : List Nd} (h : NdsAt w B A l) (hB : B ≤ B') : NdsAt w B' A l := ⟨h.row.more hB, fun n hn => (h.each n hn).more hB⟩
theorem cells_at {w : World} {B : Nat} {A : Option Addr} {l : List Cl} (h : Row w B A (l.flatMap clV)) (k : Nat) (hk : k < l.length) :
 ∃ b off, A = some ⟨b, off, none⟩ ∧ b < B ∧ w.cell? ⟨b, off + k * 12, none⟩ = some (.int .i64 (l[k].key : Nat)) ∧ w.cell? ⟨b, off + k * 12 + 1, none⟩ = some (.int .i64 (l[k].child : Nat)) ∧ w.cell? ⟨b, off + k * 12 + 2, none⟩ = some (.int .i64 l[k].ag.c) ∧ w.cell? ⟨b, off + k * 12 + 3, none⟩ = some (.int .i64 l[k].ag.s0) ∧ w.cell? ⟨b, off + k * 12 + 4, none⟩ = some (.int .i64 l[k].ag.n0) ∧ w.cell? ⟨b, off + k * 12 + 5, none⟩ = some (.int .i64 l[k].ag.x0) ∧ w.cell? ⟨b, off + k * 12 + 6, none⟩ = some (.int .i64 l[k].ag.s1) ∧ w.cell? ⟨b, off + k * 12 + 7, none⟩ = some (.int .i64 l[k].ag.n1) ∧ w.cell? ⟨b, off + k * 12 + 8, none⟩ = some (.int .i64 l[k].ag.x1) ∧ w.cell? ⟨b, off + k * 12 + 9, none⟩ = some (.int .i64 l[k].ag.s2) ∧ w.cell? ⟨b, off + k * 12 + 10, none⟩ = some (.int .i64 l[k].ag.n2) ∧ w.cell? ⟨b, off + k * 12 + 11, none⟩ = some (.int .i64 l[k].ag.x2) := by
 obtain ⟨b, off, e, hb, hc⟩ := Row.rec clV_len h (by omega) k hk
 exact ⟨b, off, e, hb, hc 0 _ rfl, hc 1 _ rfl, hc 2 _ rfl, hc 3 _ rfl, hc 4 _ rfl, hc 5 _ rfl, hc 6 _ rfl, hc 7 _ rfl, hc 8 _ rfl, hc 9 _ rfl, hc 10 _ rfl, hc 11 _ rfl⟩
theorem nodes_at {w : World} {B : Nat} {A : Option Addr} {l : List Nd} (h : Row w B A (l.flatMap ndV)) (k : Nat) (hk : k < l.length) :
 ∃ b off, A = some ⟨b, off, none⟩ ∧ b < B ∧ w.cell? ⟨b, off + k * 14, none⟩ = some (.int .i64 (l[k].dim : Nat)) ∧ w.cell? ⟨b, off + k * 14 + 1, none⟩ = some (.slice l[k].A l[k].ls.length l[k].c) ∧ w.cell? ⟨b, off + k * 14 + 2, none⟩ = some (.int .i64 (l[k].all.key : Nat)) ∧ w.cell? ⟨b, off + k * 14 + 3, none⟩ = some (.int .i64 (l[k].all.child : Nat)) ∧ w.cell? ⟨b, off + k * 14 + 4, none⟩ = some (.int .i64 l[k].all.ag.c) ∧ w.cell? ⟨b, off + k * 14 + 5, none⟩ = some (.int .i64 l[k].all.ag.s0) ∧ w.cell? ⟨b, off + k * 14 + 6, none⟩ = some (.int .i64 l[k].all.ag.n0) ∧ w.cell? ⟨b, off + k * 14 + 7, none⟩ = some (.int .i64 l[k].all.ag.x0) ∧ w.cell? ⟨b, off + k * 14 + 8, none⟩ = some (.int .i64 l[k].all.ag.s1) ∧ w.cell? ⟨b, off + k * 14 + 9, none⟩ = some (.int .i64 l[k].all.ag.n1) ∧ w.cell? ⟨b, off + k * 14 + 10, none⟩ = some (.int .i64 l[k].all.ag.x1) ∧ w.cell? ⟨b, off + k * 14 + 11, none⟩ = some (.int .i64 l[k].all.ag.s2) ∧ w.cell? ⟨b, off + k * 14 + 12, none⟩ = some (.int .i64 l[k].all.ag.n2) ∧ w.cell? ⟨b, off + k * 14 + 13, none⟩ = some (.int .i64 l[k].all.ag.x2) := by
 obtain ⟨b, off, e, hb, hc⟩ := Row.rec ndV_len h (by omega) k hk
 exact ⟨b, off, e, hb, hc 0 _ rfl, hc 1 _ rfl, hc 2 _ rfl, hc 3 _ rfl, hc 4 _ rfl, hc 5 _ rfl, hc 6 _ rfl, hc 7 _ rfl, hc 8 _ rfl, hc 9 _ rfl, hc 10 _ rfl, hc 11 _ rfl, hc 12 _ rfl, hc 13 _ rfl⟩
theorem Box.twelve {w : World} {g : Nat} {t : TypeId} {a0 a1 a2 a3 a4 a5 a6 a7 a8 a9 a10 a11 : Value} (h : Box w g t #[a0, a1, a2, a3, a4, a5, a6, a7, a8, a9, a10, a11]) :
 (w.cell? ⟨g, 0, none⟩ = some a0 ∧ w.cell? ⟨g, 1, none⟩ = some a1 ∧ w.cell? ⟨g, 2, none⟩ = some a2 ∧ w.cell? ⟨g, 3, none⟩ = some a3 ∧ w.cell? ⟨g, 4, none⟩ = some a4 ∧ w.cell? ⟨g, 5, none⟩ = some a5 ∧ w.cell? ⟨g, 6, none⟩ = some a6 ∧ w.cell? ⟨g, 7, none⟩ = some a7 ∧ w.cell? ⟨g, 8, none⟩ = some a8 ∧ w.cell? ⟨g, 9, none⟩ = some a9 ∧ w.cell? ⟨g, 10, none⟩ = some a10 ∧ w.cell? ⟨g, 11, none⟩ = some a11) ∧ (w.frozen? ⟨g, 0, none⟩ = false ∧ w.frozen? ⟨g, 1, none⟩ = false ∧ w.frozen? ⟨g, 2, none⟩ = false ∧ w.frozen? ⟨g, 3, none⟩ = false ∧ w.frozen? ⟨g, 4, none⟩ = false ∧ w.frozen? ⟨g, 5, none⟩ = false ∧ w.frozen? ⟨g, 6, none⟩ = false ∧ w.frozen? ⟨g, 7, none⟩ = false ∧ w.frozen? ⟨g, 8, none⟩ = false ∧ w.frozen? ⟨g, 9, none⟩ = false ∧ w.frozen? ⟨g, 10, none⟩ = false ∧ w.frozen? ⟨g, 11, none⟩ = false) :=
 ⟨⟨h.cell 0, h.cell 1, h.cell 2, h.cell 3, h.cell 4, h.cell 5, h.cell 6, h.cell 7, h.cell 8, h.cell 9, h.cell 10, h.cell 11⟩, h.free 0, h.free 1, h.free 2, h.free 3, h.free 4, h.free 5, h.free 6, h.free 7, h.free 8, h.free 9, h.free 10, h.free 11⟩
theorem Box.fourteen {w : World} {g : Nat} {t : TypeId} {a0 a1 a2 a3 a4 a5 a6 a7 a8 a9 a10 a11 a12 a13 : Value} (h : Box w g t #[a0, a1, a2, a3, a4, a5, a6, a7, a8, a9, a10, a11, a12, a13]) :
 (w.cell? ⟨g, 0, none⟩ = some a0 ∧ w.cell? ⟨g, 1, none⟩ = some a1 ∧ w.cell? ⟨g, 2, none⟩ = some a2 ∧ w.cell? ⟨g, 3, none⟩ = some a3 ∧ w.cell? ⟨g, 4, none⟩ = some a4 ∧ w.cell? ⟨g, 5, none⟩ = some a5 ∧ w.cell? ⟨g, 6, none⟩ = some a6 ∧ w.cell? ⟨g, 7, none⟩ = some a7 ∧ w.cell? ⟨g, 8, none⟩ = some a8 ∧ w.cell? ⟨g, 9, none⟩ = some a9 ∧ w.cell? ⟨g, 10, none⟩ = some a10 ∧ w.cell? ⟨g, 11, none⟩ = some a11 ∧ w.cell? ⟨g, 12, none⟩ = some a12 ∧ w.cell? ⟨g, 13, none⟩ = some a13) ∧ (w.frozen? ⟨g, 0, none⟩ = false ∧ w.frozen? ⟨g, 1, none⟩ = false ∧ w.frozen? ⟨g, 2, none⟩ = false ∧ w.frozen? ⟨g, 3, none⟩ = false ∧ w.frozen? ⟨g, 4, none⟩ = false ∧ w.frozen? ⟨g, 5, none⟩ = false ∧ w.frozen? ⟨g, 6, none⟩ = false ∧ w.frozen? ⟨g, 7, none⟩ = false ∧ w.frozen? ⟨g, 8, none⟩ = false ∧ w.frozen? ⟨g, 9, none⟩ = false ∧ w.frozen? ⟨g, 10, none⟩ = false ∧ w.frozen? ⟨g, 11, none⟩ = false ∧ w.frozen? ⟨g, 12, none⟩ = false ∧ w.frozen? ⟨g, 13, none⟩ = false) :=
 ⟨⟨h.cell 0, h.cell 1, h.cell 2, h.cell 3, h.cell 4, h.cell 5, h.cell 6, h.cell 7, h.cell 8, h.cell 9, h.cell 10, h.cell 11, h.cell 12, h.cell 13⟩, h.free 0, h.free 1, h.free 2, h.free 3, h.free 4, h.free 5, h.free 6, h.free 7, h.free 8, h.free 9, h.free 10, h.free 11, h.free 12, h.free 13⟩
theorem Box.four {w : World} {g : Nat} {t : TypeId} {a0 a1 a2 a3 : Value} (h : Box w g t #[a0, a1, a2, a3]) :
 (w.cell? ⟨g, 0, none⟩ = some a0 ∧ w.cell? ⟨g, 1, none⟩ = some a1 ∧ w.cell? ⟨g, 2, none⟩ = some a2 ∧ w.cell? ⟨g, 3, none⟩ = some a3) ∧ (w.frozen? ⟨g, 0, none⟩ = false ∧ w.frozen? ⟨g, 1, none⟩ = false ∧ w.frozen? ⟨g, 2, none⟩ = false ∧ w.frozen? ⟨g, 3, none⟩ = false) :=
 ⟨⟨h.cell 0, h.cell 1, h.cell 2, h.cell 3⟩, h.free 0, h.free 1, h.free 2, h.free 3⟩
set_option maxHeartbeats 1000000 in
theorem arr_eq (w : World) (a0 a1 a2 a3 a4 a5 a6 a7 a8 b0 b1 b2 b3 b4 b5 b6 b7 b8 : Int) : (Op.equalIn 9999 45 (.agg #[.int .i64 a0, .int .i64 a1, .int .i64 a2, .int .i64 a3, .int .i64 a4, .int .i64 a5, .int .i64 a6, .int .i64 a7, .int .i64 a8]) (.agg #[.int .i64 b0, .int .i64 b1, .int .i64 b2, .int .i64 b3, .int .i64 b4, .int .i64 b5, .int .i64 b6, .int .i64 b7, .int .i64 b8])).run Tryz.prog w = .ok (decide (a0 = b0 ∧ a1 = b1 ∧ a2 = b2 ∧ a3 = b3 ∧ a4 = b4 ∧ a5 = b5 ∧ a6 = b6 ∧ a7 = b7 ∧ a8 = b8)) w := by
 obtain ⟨i, hi⟩ : ∃ i, Tryz.prog.info? 44 = some i := Option.isSome_iff_exists.1 (by kernel_rfl)
 have hc : Tryz.prog.cellsOf 44 = 3 := by kernel_rfl
 rw [run_equalIn_array w 9998 _ _ Tryz.underlying45 hi, hc]
 simp [Op.eqItems, go_sem, List.range, List.range.loop]
 repeat' split
 all_goals simp_all
set_option maxHeartbeats 1000000 in
theorem last_any (A : Option Addr) (n c m dim : Nat) (w : World) (hn : 1 ≤ n) (hn2 : n ≤ 1000000) (hd : dim ≤ 1000000) :
 Calls Tryz.prog 75 #[.agg #[.slice A n c, .int .i64 m], .int .i64 (dim : Nat)] w fun e w' => e = .returned (.bool (decide (dim + 1 = n))) ∧ Below w.heap.size w w' := by
 have hb0 := (Below.refl w.heap.size w).alloc (Nat.le_refl _) (.cells #[.slice A n c, .int .i64 m] 83)
 have Hb0 := kp hb0
 have HV := kp (show ((dim : Int) == (n : Int) - 1) = decide (dim + 1 = n) by
  rw [Bool.eq_iff_iff]
  simp
  omega)
 clear hb0
 go_enter Tryz.func75, Tryz.ntmps75
 go_wp2_with fail
 go_ret
 exact ⟨by rw [← HV.out]; rfl, Hb0.out⟩
def countN (n : Nd) : Nat := 1 + (n.ls.map fun l => l.cs.length).sum
theorem count_take {ls : List Ll} {k : Nat} (hk : k < ls.length) : ((ls.take (k + 1)).map fun l => l.cs.length).sum = ((ls.take k).map fun l => l.cs.length).sum + ls[k].cs.length := by
 rw [List.take_succ_eq_append_getElem hk, List.map_append, List.sum_append]
 simp only [List.map_cons, List.map_nil, List.sum_cons, List.sum_nil, Nat.add_zero]
theorem count_le {ls : List Ll} {b : Nat} (h : ∀ l ∈ ls, l.cs.length ≤ b) (k : Nat) : ((ls.take k).map fun l => l.cs.length).sum ≤ k * b := by
 induction k with
 | zero => simp
 | succ k ih =>
  rw [Nat.succ_mul]
  by_cases hk : k < ls.length
  ·rw [count_take hk]
   have := h _ (List.getElem_mem hk)
   omega
  ·rw [List.take_of_length_le (by omega)] at ih ⊢
   omega
set_option maxHeartbeats 4000000 in
theorem count_any (n : Nd) (w : World) (h : NdAt w w.heap.size n) (hn : n.ls.length ≤ 4) (hl : ∀ l ∈ n.ls, l.cs.length ≤ 1000) :
 Calls Tryz.prog 40 #[.agg (ndC n)] w fun e w' => e = .returned (.int .i64 (countN n : Nat)) ∧ Below w.heap.size w w' := by
 have hb0 := (Below.refl w.heap.size w).alloc (Nat.le_refl _) (.cells (ndC n) 108)
 have Hb0 := kp hb0
 have HB := kp (Box.new w 108 (ndC n))
 have H0 := kp ((h.below hb0).more hb0.size)
 have Hle := kp (count_le hl)
 generalize hQ : (fun (e : Ending) w' => e = .returned (.int .i64 (countN n : Nat)) ∧ Below w.heap.size w w') = Q
 have HQ := kp (show ∀ (q : Nat) w', q = countN n → Below w.heap.size w w' → Q (.returned (.int .i64 (q : Nat))) w' from fun q w' hq hb => by rw [← hQ, hq]; exact ⟨rfl, hb⟩)
 clear hQ h hb0
 obtain ⟨⟨z0, z1, _⟩, _⟩ := Box.fourteen HB.out
 obtain ⟨m, hm⟩ : ∃ m, n.ls.length = m := ⟨_, rfl⟩
 have Hm := kp hm
 unfold ndC at Hb0 H0 z0 z1 ⊢
 rw [hm] at z1 hn Hb0 H0 ⊢
 clear hm HB
 go_enter Tryz.func40, Tryz.ntmps40
 go_wp2_with fail
 generalize w.alloc (.cells #[.int .i64 (n.dim : Nat), .slice n.A m n.c, .int .i64 (n.all.key : Nat), .int .i64 (n.all.child : Nat), .int .i64 n.all.ag.c, .int .i64 n.all.ag.s0, .int .i64 n.all.ag.n0, .int .i64 n.all.ag.x0, .int .i64 n.all.ag.s1, .int .i64 n.all.ag.n1, .int .i64 n.all.ag.x1, .int .i64 n.all.ag.s2, .int .i64 n.all.ag.n2, .int .i64 n.all.ag.x2] 108) = W0 at *
 go_loop [3, 9] (fun v3 v9 => ∃ (k s : Nat), k ≤ m ∧ v9 = .int .i64 k ∧ v3 = .int .i64 s ∧ s = 1 + ((n.ls.take k).map fun l => l.cs.length).sum) (fun _ v9 => m - (intOf v9).toNat)
 case atStart => exact ⟨0, 1, Nat.zero_le _, rfl, rfl, by simp⟩
 case round =>
  obtain ⟨k, s, hk, rfl, rfl, hs⟩ := hrel
  have Hs := kp hs
  clear hs
  by_cases hlt : k < m
  ·have hkl : k < n.ls.length := by rw [Hm.out]; exact hlt
   obtain ⟨b, off, hA, hb, c0⟩ := Row.at_ H0.out.row (k := k) (by rw [List.length_map]; exact hkl)
   rw [List.getElem_map] at c0
   have Hnx := kp (count_take hkl)
   have hsl : s ≤ 5000 := by have h1 := Hle.out k; have h2 := Hs.out; omega
   have hql : (n.ls[k]'hkl).cs.length ≤ 5000 := by have h1 := Hle.out (k + 1); have h2 := Hnx.out; omega
   unfold llV at c0
   generalize (n.ls[k]'hkl).cs.length = q at *
   generalize (n.ls[k]'hkl).A = lA at *
   generalize (n.ls[k]'hkl).c = lc at *
   have hi0 : (0 : Int) ≤ (k : Int) := by omega
   have hi1 : (k : Int) < (m : Int) := by omega
   rw [hA]
   clear hA
   go_wp2_with fail
   exact ⟨⟨k + 1, s + q, by omega, by go_num, by go_num, by rw [Hnx.out, Hs.out, Nat.add_assoc]⟩, by simp [intOf]; omega⟩
  ·obtain rfl : k = m := by omega
   have Hf := kp (HQ.out s _ (by rw [Hs.out]; unfold countN; rw [List.take_of_length_le (by rw [Hm.out]; exact Nat.le_refl _)]) Hb0.out)
   go_wp2_with fail
   exact Hf.out
end Go.Proofs.YthmbgbmcdbdecaaGreat.Tc
