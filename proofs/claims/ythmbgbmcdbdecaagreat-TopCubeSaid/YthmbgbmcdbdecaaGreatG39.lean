/- Parts of a proof: Layer 30: a cube's census. -/
import Derived.Test.YthmbgbmcdbdecaaGreatG05
import Derived.Test.YthmbgbmcdbdecaaGreatG38
namespace Go.Proofs.YthmbgbmcdbdecaaGreat.Tc
open Go.RowKit Base
set_option linter.unusedVariables false
set_option linter.unusedSimpArgs false
def sumC (P : List PNode) : Nat := (P.map countP).sum
theorem sumC_snoc (P : List PNode) (n : PNode) : sumC (P ++ [n]) = sumC P + countP n := by unfold sumC; rw [List.map_append, List.sum_append]; simp
theorem sumC_le {P : List PNode} {b : Nat} (h : ∀ n ∈ P, countP n ≤ b) : sumC P ≤ P.length * b := by
 induction P with
 | nil => exact Nat.zero_le _
 | cons n P ih =>
  have h1 := h n List.mem_cons_self
  have h2 := ih (fun x hx => h x (List.mem_cons_of_mem _ hx))
  unfold sumC at *
  rw [List.map_cons, List.sum_cons, List.length_cons, Nat.succ_mul]
  omega
def OfRet (nx : Nat) (P : List PNode) (w : World) (e : Ending) (w' : World) : Prop := e = .returned (.agg #[.int .i64 (P.length : Nat), .int .i64 (sumC P : Nat), .int .i64 (((treesP nx P).getLast?).getD 0 : Nat)]) ∧ Below w.heap.size w w'
set_option maxRecDepth 100000 in
set_option maxHeartbeats 8000000 in
theorem of_any (ga : Nat) (As An : Option Addr) (cs m cn most : Nat) (xs : List Fa) (nds : List Nd) (w : World) (hbx : Box w ga 138 (arC As xs.length cs m An nds.length cn most)) (hx : IlsAt w w.heap.size As xs) (h : NdsAt w w.heap.size An nds)
 (hn1 : 1 ≤ xs.length) (hn16 : xs.length ≤ 16) (hnn : nds.length ≤ 1000000) (hsm : ∀ n ∈ nds, NdSm n) (hl : ∀ n ∈ nds, ∀ l ∈ n.ls, l.cs.length ≤ 1000) (hsz : ∀ x ∈ xs, x.keys.length ≤ 1000)
 (hback : ∀ (i : Nat) (n : PNode), (nds.map plN)[i]? = some n → n.dim + 1 < xs.length → ∀ c ∈ cellsP n, c.child < i) :
 Calls Tryz.prog 14 #[.pointer (some ⟨ga, 0, none⟩)] w (OfRet xs.length (nds.map plN) w) := by
 have HQ := kp (show ∀ w', Below w.heap.size w w' → OfRet xs.length (nds.map plN) w (.returned (.agg #[.int .i64 ((nds.map plN).length : Nat), .int .i64 (sumC (nds.map plN) : Nat), .int .i64 (((treesP xs.length (nds.map plN)).getLast?).getD 0 : Nat)])) w' from fun w' h1 => ⟨rfl, h1⟩)
 have HN := kp (fun W hW => anodes_any ga As An xs.length cs m cn most nds W (hbx.under hW) ((h.below hW).more hW.size) hn1 hnn hsm)
 have HT := kp (fun W hW => trees_any ga As An cs m cn most xs nds W (hbx.under hW) ((hx.below hW).more hW.size) ((h.below hW).more hW.size) hn1 hn16 hnn hsm hl hsz hback)
 have Hys := kp (show ∀ ys : List Nd, ys.map plN = nds.map plN → ∀ n ∈ ys, n.ls.length ≤ 4 ∧ ∀ l ∈ n.ls, l.cs.length ≤ 1000 from fun ys e n hn => by
  have h1 : plN n ∈ nds.map plN := by rw [← e]; exact List.mem_map_of_mem hn
  obtain ⟨n', hn', e'⟩ := List.mem_map.1 h1
  have h2 : n'.ls.map Ll.cs = n.ls.map Ll.cs := by have := congrArg PNode.lists e'; exact this
  have h3 := congrArg List.length h2
  rw [List.length_map, List.length_map] at h3
  refine ⟨by have := (hsm n' hn').n4; omega, fun l hl' => ?_⟩
  have h4 : l.cs ∈ n'.ls.map Ll.cs := by rw [h2]; exact List.mem_map_of_mem hl'
  obtain ⟨l', hl'', e''⟩ := List.mem_map.1 h4
  rw [← e'']
  exact hl n' hn' l' hl'')
 have HPl := kp (show (nds.map plN).length ≤ 1000000 by rw [List.length_map]; exact hnn)
 generalize nds.map plN = P at *
 have HTl := kp (treesP_len xs.length P)
 generalize OfRet xs.length P w = Q at *
 generalize treesP xs.length P = T at *
 have hb1 := (Below.refl w.heap.size w).alloc (Nat.le_refl _) (.cells #[.int .i64 0, .int .i64 0, .int .i64 0] 53)
 have hb2 := hb1.alloc hb1.size (.cells #[.int .i64 0, .int .i64 0, .int .i64 0] 53)
 have HR := kp ((Box.new w 53 #[.int .i64 0, .int .i64 0, .int .i64 0]).alloc (.cells #[.int .i64 0, .int .i64 0, .int .i64 0] 53))
 have HO := kp (show Box ((w.alloc (.cells #[.int .i64 0, .int .i64 0, .int .i64 0] 53)).alloc (.cells #[.int .i64 0, .int .i64 0, .int .i64 0] 53)) (w.heap.size + 1) 53 #[.int .i64 0, .int .i64 0, .int .i64 0] from Box.lay (by simp))
 have hz2 : ((w.alloc (.cells #[.int .i64 0, .int .i64 0, .int .i64 0] 53)).alloc (.cells #[.int .i64 0, .int .i64 0, .int .i64 0] 53)).heap.size = w.heap.size + 2 := by simp
 have Hz2 := kp hz2
 have Hb2 := kp hb2
 clear hb1 hb2 hz2 hbx hx h hsm hl hsz hback
 generalize hW2 : (w.alloc (.cells #[.int .i64 0, .int .i64 0, .int .i64 0] 53)).alloc (.cells #[.int .i64 0, .int .i64 0, .int .i64 0] 53) = W2 at *
 have HN2 := kp (HN.out W2 Hb2.out)
 go_enter Tryz.func14, Tryz.ntmps14
 go_wp2_with fail
 refine HN2.out.mono ?_
 rintro e w2 ⟨A2, c2, ys, rfl, hys, hpl, hb3⟩
 rw [Hz2.out] at hys
 have Hys2 := kp hys
 have Hpl := kp hpl
 have Hsm := kp (Hys.out ys hpl)
 have HR2 := kp (HR.out.under hb3)
 have HO2 := kp (HO.out.under hb3)
 have Hb3 := kp (Hb2.out.trans (hb3.mono Hb2.out.size))
 have Hsz := kp (show w.heap.size + 2 ≤ w2.heap.size by have := hb3.size; rw [Hz2.out] at this; exact this)
 clear hys hpl hb3 hW2 HN HN2 HR HO Hys
 obtain ⟨n, hn⟩ : ∃ n, ys.length = n := ⟨_, rfl⟩
 have Hn := kp hn
 rw [hn]
 clear hn
 have hPn : P.length = n := by rw [← Hpl.out, List.length_map]; exact Hn.out
 have hn6 : n ≤ 1000000 := by have := HPl.out; omega
 have HPn := kp hPn
 have Hc4 := kp (show ∀ p ∈ P, countP p ≤ 4001 from fun p hp => by
  rw [← Hpl.out] at hp
  obtain ⟨y, hy, rfl⟩ := List.mem_map.1 hp
  obtain ⟨h1, h2⟩ := Hsm.out y hy
  have := count_le (fun l hl => h2 l hl) y.ls.length
  rw [List.take_of_length_le (Nat.le_refl _)] at this
  rw [← count_plN]
  unfold countN
  have : y.ls.length * 1000 ≤ 4 * 1000 := Nat.mul_le_mul_right _ h1
  omega)
 clear hPn
 go_wp2_with fail
 go_loopw [10] (fun v10 wr => ∃ (k : Nat), k ≤ n ∧ v10 = .int .i64 (k : Nat) ∧ Box wr w.heap.size 53 #[.int .i64 0, .int .i64 0, .int .i64 0] ∧ Box wr (w.heap.size + 1) 53 #[.int .i64 (k : Nat), .int .i64 (sumC (P.take k) : Nat), .int .i64 0] ∧ Over (w.heap.size + 2) w2 wr ∧ Below w.heap.size w wr) (fun v10 _ => n - (intOf v10).toNat)
 case atStart => exact ⟨0, Nat.zero_le _, rfl, HR2.out, HO2.out, ⟨Nat.le_refl _, fun _ _ _ => rfl⟩, Hb3.out⟩
 case round =>
  obtain ⟨k, hk, rfl, hR, hO, hov, hbe⟩ := hrel
  have HR3 := kp hR
  have HO3 := kp hO
  have Hov := kp hov
  have Hbe := kp hbe
  clear hR hO hov hbe
  by_cases hlt : k < n
  ·have hkd : k < ys.length := by rw [Hn.out]; exact hlt
   have hat := (Hys2.out.over Hov.out).at_
   obtain ⟨bn, on, hA, hbn, d0, d1, d2, d3, d4, d5, d6, d7, d8, d9, d10, d11, d12, d13⟩ := nodes_at hat.row k hkd
   have hsk := Hsm.out _ (List.getElem_mem hkd)
   have hatk := hat.each _ (List.getElem_mem hkd)
   have HT1 := kp (show sumC (P.take (k + 1)) = sumC (P.take k) + countN (ys[k]'hkd) by
    have hPk : P[k]? = some (plN (ys[k]'hkd)) := by rw [← Hpl.out, List.getElem?_map, List.getElem?_eq_getElem hkd]; rfl
    obtain ⟨hkP, e⟩ := List.getElem?_eq_some_iff.1 hPk
    rw [List.take_succ_eq_append_getElem hkP, e, sumC_snoc, count_plN])
   have hs1 : sumC (P.take k) ≤ 1000000 * 4001 := by
    have := sumC_le (P := P.take k) (b := 4001) (fun p hp => Hc4.out p (List.mem_of_mem_take hp))
    rw [List.length_take] at this
    have h2 : min k P.length * 4001 ≤ 1000000 * 4001 := Nat.mul_le_mul_right _ (by omega)
    omega
   have hcb : countN (ys[k]'hkd) ≤ 4001 := by
    have hPk : P[k]? = some (plN (ys[k]'hkd)) := by rw [← Hpl.out, List.getElem?_map, List.getElem?_eq_getElem hkd]; rfl
    rw [count_plN]
    exact Hc4.out _ (List.mem_of_getElem? hPk)
   have HC := kp (fun W (hW : Over (w.heap.size + 2) wr W) => count_any (ys[k]'hkd) W ((Hys2.out.over (Hov.out.trans hW)).at_.each _ (List.getElem_mem hkd)) hsk.1 hsk.2)
   generalize (ys[k]'hkd) = nd at *
   generalize sumC (P.take k) = s at *
   have hb3 := (Below.refl wr.heap.size wr).alloc (Nat.le_refl _) (.cells #[.int .i64 0, .slice none 0 0, .int .i64 0, .int .i64 0, .int .i64 0, .int .i64 0, .int .i64 0, .int .i64 0, .int .i64 0, .int .i64 0, .int .i64 0, .int .i64 0, .int .i64 0, .int .i64 0] 108)
   have HZ := kp (Box.new wr 108 #[.int .i64 0, .slice none 0 0, .int .i64 0, .int .i64 0, .int .i64 0, .int .i64 0, .int .i64 0, .int .i64 0, .int .i64 0, .int .i64 0, .int .i64 0, .int .i64 0, .int .i64 0, .int .i64 0])
   have Hb4 := kp (below_setAll (Nat.le_refl _) (ndV nd) _ 0 hb3)
   have HB4 := kp (show Box (setAll (wr.alloc (.cells #[.int .i64 0, .slice none 0 0, .int .i64 0, .int .i64 0, .int .i64 0, .int .i64 0, .int .i64 0, .int .i64 0, .int .i64 0, .int .i64 0, .int .i64 0, .int .i64 0, .int .i64 0, .int .i64 0] 108)) wr.heap.size 0 (ndV nd)) wr.heap.size 108 (ndC nd) from box_setAll0 HZ.out (ndV nd) rfl)
   obtain ⟨⟨r0, r1, r2, r3, r4, r5, r6, r7, r8, r9, r10, r11, r12, r13⟩, ⟨f0, f1, f2, f3, f4, f5, f6, f7, f8, f9, f10, f11, f12, f13⟩⟩ := Box.fourteen HZ.out
   have hi0 : (0 : Int) ≤ (k : Int) := by omega
   have hi1 : (k : Int) < (n : Int) := by omega
   generalize countN nd = cN at *
   clear hat hsk hatk hb3 HZ
   obtain ⟨dim, nA, ls, nc, ⟨key, child, ⟨ac, s0, n0, x0, s1, n1, x1, s2, n2, x2⟩⟩⟩ := nd
   dsimp only [ndC, ndV] at HC HB4 Hb4 d0 d1 d2 d3 d4 d5 d6 d7 d8 d9 d10 d11 d12 d13
   have HO4 := kp (HO3.out.under Hb4.out)
   generalize hW3 : wr.alloc (.cells #[.int .i64 0, .slice none 0 0, .int .i64 0, .int .i64 0, .int .i64 0, .int .i64 0, .int .i64 0, .int .i64 0, .int .i64 0, .int .i64 0, .int .i64 0, .int .i64 0, .int .i64 0, .int .i64 0] 108) = W3 at *
   generalize hW4 : setAll W3 wr.heap.size 0 _ = W4 at *
   simp only [setAll, Nat.zero_add, Nat.reduceAdd] at hW4
   obtain ⟨o0, o1, o2, g0, g1, g2⟩ := Box.three HO4.out
   have hsz4 : w.heap.size + 2 ≤ wr.heap.size := Nat.le_trans Hsz.out Hov.out.size
   have hne : wr.heap.size ≠ w.heap.size + 1 := by omega
   rw [hA]
   have hwk : IntKind.i64.wrap ((k : Int) + 1) = (k : Int) + 1 := IntWalk.i64_in _ (by omega)
   go_upto_region 6 with fail
   clear hW3 hW4 d0 d1 d2 d3 d4 d5 d6 d7 d8 d9 d10 d11 d12 d13 r0 r1 r2 r3 r4 r5 r6 r7 r8 r9 r10 r11 r12 r13 f0 f1 f2 f3 f4 f5 f6 f7 f8 f9 f10 f11 f12 f13 o0 o1 o2 g0 g1 g2 hA
   have HO5 := kp (show Box (W4.setCell ⟨w.heap.size + 1, 0, none⟩ (.int .i64 ((k : Int) + 1))) (w.heap.size + 1) 53 #[.int .i64 ((k : Int) + 1), .int .i64 (s : Nat), .int .i64 0] from HO4.out.set 0 _)
   have HB5 := kp (HB4.out.far (p := ⟨w.heap.size + 1, 0, none⟩) (by dsimp only; omega) (.int .i64 ((k : Int) + 1)))
   have Hov5 := kp (show Over (w.heap.size + 2) w2 (W4.setCell ⟨w.heap.size + 1, 0, none⟩ (.int .i64 ((k : Int) + 1))) from (Hov.out.trans (Over.under Hb4.out)).trans ⟨by simp, fun i hi _ => Below.heap_setCell W4 ⟨w.heap.size + 1, 0, none⟩ _ i (by dsimp only; omega)⟩)
   have Hbw5 := kp (show Below w.heap.size w (W4.setCell ⟨w.heap.size + 1, 0, none⟩ (.int .i64 ((k : Int) + 1))) from (Hbe.out.trans (Hb4.out.mono Hbe.out.size)).setCell (p := ⟨w.heap.size + 1, 0, none⟩) (Nat.le_succ _) _)
   have HR5 := kp (show Box (W4.setCell ⟨w.heap.size + 1, 0, none⟩ (.int .i64 ((k : Int) + 1))) w.heap.size 53 #[.int .i64 0, .int .i64 0, .int .i64 0] from (HR3.out.under Hb4.out).far (p := ⟨w.heap.size + 1, 0, none⟩) (by dsimp only; omega) _)
   have hov5 : Over (w.heap.size + 2) wr (W4.setCell ⟨w.heap.size + 1, 0, none⟩ (.int .i64 ((k : Int) + 1))) := (Over.under Hb4.out).trans ⟨by simp, fun i hi _ => Below.heap_setCell W4 ⟨w.heap.size + 1, 0, none⟩ _ i (by dsimp only; omega)⟩
   have HC5 := kp (HC.out (W4.setCell ⟨w.heap.size + 1, 0, none⟩ (.int .i64 ((k : Int) + 1))).drew ⟨hov5.size, hov5.block⟩)
   clear hov5 HC HB4 HO4 Hb4
   generalize W4.setCell ⟨w.heap.size + 1, 0, none⟩ (.int .i64 ((k : Int) + 1)) = W5 at *
   obtain ⟨o0, o1, o2, g0, g1, g2⟩ := Box.three HO5.out
   obtain ⟨z0, z1, z2, z3, z4, z5, z6, z7, z8, z9, z10, z11, z12, z13⟩ := (Box.fourteen HB5.out).1
   have hz5 : w.heap.size + 1 < W5.heap.size := HO5.out.lt
   have hwa : IntKind.i64.wrap ((s : Int) + (cN : Int)) = (s : Int) + (cN : Int) := IntWalk.i64_in _ (by omega)
   refine wp_region_noPanic ?_
   refine wp_region_U (t := 6) (S := (fun w' => (w'.cell? ⟨w.heap.size + 1, 1, none⟩ = some (.int .i64 (s : Nat)) ∧ w'.frozen? ⟨w.heap.size + 1, 1, none⟩ = false) ∧ (w'.cell? ⟨wr.heap.size, 0, none⟩ = some (.int .i64 (dim : Nat)) ∧ w'.cell? ⟨wr.heap.size, 1, none⟩ = some (.slice nA ls.length nc) ∧ w'.cell? ⟨wr.heap.size, 2, none⟩ = some (.int .i64 (key : Nat)) ∧ w'.cell? ⟨wr.heap.size, 3, none⟩ = some (.int .i64 (child : Nat)) ∧ w'.cell? ⟨wr.heap.size, 4, none⟩ = some (.int .i64 ac) ∧ w'.cell? ⟨wr.heap.size, 5, none⟩ = some (.int .i64 s0) ∧ w'.cell? ⟨wr.heap.size, 6, none⟩ = some (.int .i64 n0) ∧ w'.cell? ⟨wr.heap.size, 7, none⟩ = some (.int .i64 x0) ∧ w'.cell? ⟨wr.heap.size, 8, none⟩ = some (.int .i64 s1) ∧ w'.cell? ⟨wr.heap.size, 9, none⟩ = some (.int .i64 n1) ∧ w'.cell? ⟨wr.heap.size, 10, none⟩ = some (.int .i64 x1) ∧ w'.cell? ⟨wr.heap.size, 11, none⟩ = some (.int .i64 s2) ∧ w'.cell? ⟨wr.heap.size, 12, none⟩ = some (.int .i64 n2) ∧ w'.cell? ⟨wr.heap.size, 13, none⟩ = some (.int .i64 x2)))) (by kernel_rfl) ⟨⟨o1, g1⟩, ⟨z0, z1, z2, z3, z4, z5, z6, z7, z8, z9, z10, z11, z12, z13⟩⟩ (fun hHeld => ?_)
   refine tu 0 hHeld ?_
   refine tu 1 hHeld ?_
   refine tu 2 hHeld ?_
   refine wpAnyU_one (i := 3) (o := ?oq3) (by kernel_rfl) ?aq3 (by decide) (fun K hK => ?bq3)
   case aq3 => (simp only [List.getElem?_toArray, List.getElem?_cons_succ, List.getElem?_cons_zero]; exact rfl)
   go_simp
   refine HC5.out.mono ?_
   rintro e wc ⟨rfl, hbc⟩
   have Hbc := kp (show Below W5.heap.size W5 wc from (Below.refl _ _).drew.trans hbc)
   clear hbc
   refine hK.out _ _ ?_ (fun hHeld2 => ?_)
   ·exact ⟨⟨cell_keep Hbc.out o1, by rw [frozen_below Hbc.out _ _ hz5]; exact g1⟩, ⟨cell_keep Hbc.out z0, cell_keep Hbc.out z1, cell_keep Hbc.out z2, cell_keep Hbc.out z3, cell_keep Hbc.out z4, cell_keep Hbc.out z5, cell_keep Hbc.out z6, cell_keep Hbc.out z7, cell_keep Hbc.out z8, cell_keep Hbc.out z9, cell_keep Hbc.out z10, cell_keep Hbc.out z11, cell_keep Hbc.out z12, cell_keep Hbc.out z13⟩⟩
   clear hK K hHeld
   have hHeld := hHeld2
   clear hHeld2
   try simp only [Act.put, List.setIfInBounds_toArray, List.set_cons_zero, List.set_cons_succ]
   refine tu 4 hHeld ?_
   refine tu 5 hHeld ?_
   refine wpAnyU_last (o := ?oq6) (by kernel_rfl) ?aq6 ⟨by kernel_rfl, by kernel_rfl⟩ (fun K hK => ?bq6)
   case aq6 => (simp only [List.getElem?_toArray, List.getElem?_cons_succ, List.getElem?_cons_zero]; exact rfl)
   obtain ⟨⟨x1, x2⟩, _⟩ := hHeld
   have hHeld := x1
   go_simp
   refine hK.out _ _ ?_
   clear hK K hHeld
   refine NoPanic.normal ?_
   try simp only [Act.put, List.setIfInBounds_toArray, List.set_cons_zero, List.set_cons_succ]
   have HOc := kp (show Box (wc.setCell ⟨w.heap.size + 1, 1, none⟩ (.int .i64 ((s : Int) + (cN : Int)))) (w.heap.size + 1) 53 #[.int .i64 ((k : Int) + 1), .int .i64 ((s : Int) + (cN : Int)), .int .i64 0] from (HO5.out.under Hbc.out).set 1 _)
   have HRc := kp (show Box (wc.setCell ⟨w.heap.size + 1, 1, none⟩ (.int .i64 ((s : Int) + (cN : Int)))) w.heap.size 53 #[.int .i64 0, .int .i64 0, .int .i64 0] from (HR5.out.under Hbc.out).far (p := ⟨w.heap.size + 1, 1, none⟩) (by dsimp only; omega) _)
   have Hovc := kp (show Over (w.heap.size + 2) w2 (wc.setCell ⟨w.heap.size + 1, 1, none⟩ (.int .i64 ((s : Int) + (cN : Int)))) from (Hov5.out.trans (Over.under Hbc.out)).trans ⟨by simp, fun i hi _ => Below.heap_setCell wc ⟨w.heap.size + 1, 1, none⟩ _ i (by dsimp only; omega)⟩)
   have Hbwc := kp (show Below w.heap.size w (wc.setCell ⟨w.heap.size + 1, 1, none⟩ (.int .i64 ((s : Int) + (cN : Int)))) from (Hbw5.out.trans (Hbc.out.mono Hbw5.out.size)).setCell (p := ⟨w.heap.size + 1, 1, none⟩) (Nat.le_succ _) _)
   go_wp2_with fail
   exact ⟨⟨k + 1, by omega, by go_num, HRc.out, by rw [HT1.out]; exact HOc.out, Hovc.out, Hbwc.out⟩, by simp [intOf]; omega⟩
  ·obtain rfl : k = n := by omega
   have HT3 := kp (HT.out wr Hbe.out)
   go_wp2_with fail
   refine HT3.out.mono ?_
   rintro e w3 ⟨v3, rfl, hown3, hb3⟩
   obtain ⟨A3, c3, rfl⟩ := own_form hown3
   rw [HTl.out, HPn.out] at hown3
   have Hrow3 := kp (row_ownK hown3)
   have HR4 := kp (HR3.out.under hb3)
   have HO4 := kp (HO3.out.under hb3)
   have Hb4 := kp (Hbe.out.trans (hb3.mono Hbe.out.size))
   have hTk : T.length = k := by rw [HTl.out, HPn.out]
   have hsum : sumC (P.take k) = sumC P := by rw [List.take_of_length_le (by rw [HPn.out]; exact Nat.le_refl _)]
   rw [hsum] at HO4
   rw [hTk]
   rw [HPn.out] at HQ
   clear hown3 hb3
   have hrb : w.heap.size < w3.heap.size := HR4.out.lt
   by_cases h0 : k = 0
   ·have q0 : ¬ (0 : Int) < (k : Int) := by omega
    have q0d : decide ((0 : Int) < (k : Int)) = false := decide_eq_false q0
    have q0n : decide (0 < k) = false := decide_eq_false (by omega)
    obtain ⟨o0, o1, o2, g0, g1, g2⟩ := Box.three HO4.out
    obtain ⟨u0, u1, u2, v0, v1, v2⟩ := Box.three HR4.out
    have hl0 : (T.getLast?).getD 0 = 0 := by
     have : T = [] := List.length_eq_zero_iff.1 (by rw [hTk]; exact h0)
     rw [this]; rfl
    rw [hl0] at HQ
    have HB10 := kp (show Box (setAll w3 w.heap.size 0 [.int .i64 (k : Nat), .int .i64 (sumC P : Nat), .int .i64 0]) w.heap.size 53 #[.int .i64 (k : Nat), .int .i64 (sumC P : Nat), .int .i64 0] from box_setAll0 HR4.out [.int .i64 (k : Nat), .int .i64 (sumC P : Nat), .int .i64 0] rfl)
    have Hfin := kp (show Q (.returned (.agg #[.int .i64 (k : Nat), .int .i64 (sumC P : Nat), .int .i64 0])) _ from HQ.out _ (below_setAll (Nat.le_refl _) [.int .i64 (k : Nat), .int .i64 (sumC P : Nat), .int .i64 0] w3 0 Hb4.out))
    generalize hW10 : setAll w3 w.heap.size 0 _ = W10 at *
    simp only [setAll, Nat.zero_add, Nat.reduceAdd] at hW10
    obtain ⟨t0, t1, t2, _, _, _⟩ := Box.three HB10.out
    clear hl0 h0
    go_wp2_with fail
    refine bodyPost_ret (v := .agg #[.int .i64 (k : Nat), .int .i64 (sumC P : Nat), .int .i64 0]) ?_ rfl Hfin.out
    simp [results, Tryz.results14, go_sem, t0, t1, t2]
   ·have q0 : (0 : Int) < (k : Int) := by omega
    have q0d : decide ((0 : Int) < (k : Int)) = true := decide_eq_true q0
    have q0n : decide (0 < k) = true := decide_eq_true (by omega)
    obtain ⟨mm, hmm⟩ : ∃ mm, k = mm + 1 := ⟨k - 1, by omega⟩
    have hmT : mm < T.length := by rw [hTk]; omega
    obtain ⟨b3, off3, hA3, hb3', c0⟩ := Row.at_ Hrow3.out (k := mm) (by rw [natV_len]; exact hmT)
    unfold natV at c0
    rw [List.getElem_map] at c0
    have hlast : (T.getLast?).getD 0 = T[mm]'hmT := by rw [List.getLast?_eq_getElem?, hTk, hmm, Nat.add_sub_cancel, List.getElem?_eq_getElem hmT]; rfl
    rw [hlast] at HQ
    clear hlast
    generalize T[mm]'hmT = x at *
    have hw1 : IntKind.i64.wrap ((k : Int) - 1) = (mm : Int) := by rw [IntWalk.i64_in _ (by omega)]; omega
    have i0' : (0 : Int) ≤ (mm : Int) := by omega
    have i1' : (mm : Int) < (k : Int) := by omega
    obtain ⟨o0, o1, o2, g0, g1, g2⟩ := Box.three HO4.out
    have HO6 := kp (show Box (w3.setCell ⟨w.heap.size + 1, 2, none⟩ (.int .i64 (x : Nat))) (w.heap.size + 1) 53 #[.int .i64 (k : Nat), .int .i64 (sumC P : Nat), .int .i64 (x : Nat)] from HO4.out.set 2 _)
    have HR6 := kp (show Box (w3.setCell ⟨w.heap.size + 1, 2, none⟩ (.int .i64 (x : Nat))) w.heap.size 53 #[.int .i64 0, .int .i64 0, .int .i64 0] from HR4.out.far (p := ⟨w.heap.size + 1, 2, none⟩) (by dsimp only; omega) _)
    have Hb6 := kp (show Below w.heap.size w (w3.setCell ⟨w.heap.size + 1, 2, none⟩ (.int .i64 (x : Nat))) from Hb4.out.setCell (p := ⟨w.heap.size + 1, 2, none⟩) (Nat.le_succ _) _)
    generalize hW6 : w3.setCell ⟨w.heap.size + 1, 2, none⟩ (.int .i64 (x : Nat)) = W6 at *
    obtain ⟨p0, p1, p2, _, _, _⟩ := Box.three HO6.out
    obtain ⟨u0, u1, u2, v0, v1, v2⟩ := Box.three HR6.out
    have HB10 := kp (show Box (setAll W6 w.heap.size 0 [.int .i64 (k : Nat), .int .i64 (sumC P : Nat), .int .i64 (x : Nat)]) w.heap.size 53 #[.int .i64 (k : Nat), .int .i64 (sumC P : Nat), .int .i64 (x : Nat)] from box_setAll0 HR6.out [.int .i64 (k : Nat), .int .i64 (sumC P : Nat), .int .i64 (x : Nat)] rfl)
    have Hfin := kp (show Q (.returned (.agg #[.int .i64 (k : Nat), .int .i64 (sumC P : Nat), .int .i64 (x : Nat)])) _ from HQ.out _ (below_setAll (Nat.le_refl _) [.int .i64 (k : Nat), .int .i64 (sumC P : Nat), .int .i64 (x : Nat)] W6 0 Hb6.out))
    generalize hW10 : setAll W6 w.heap.size 0 _ = W10 at *
    simp only [setAll, Nat.zero_add, Nat.reduceAdd] at hW10
    obtain ⟨t0, t1, t2, _, _, _⟩ := Box.three HB10.out
    rw [hA3]
    clear hmm hTk hmT h0
    go_wp2_with fail
    refine bodyPost_ret (v := .agg #[.int .i64 (k : Nat), .int .i64 (sumC P : Nat), .int .i64 (x : Nat)]) ?_ rfl Hfin.out
    simp [results, Tryz.results14, go_sem, t0, t1, t2]
end Go.Proofs.YthmbgbmcdbdecaaGreat.Tc
