/- Parts of a proof: The document's join of two aggregates, where the sums fit. The document's Lift. The document's Lift of a fact; which facts stand under members. -/
import Derived.Test.YthmbgbmcdbdecaaGreatG05
import Derived.Test.YthmbgbmcdbdecaaGreatG20
import Derived.Test.YthmbgbmcdbdecaaGreatG23
import Derived.Test.YthmbgbmcdbdecaaGreatG28
import Derived.Test.YthmbgbmcdbdecaaGreatG37
namespace Go.Proofs.YthmbgbmcdbdecaaGreat.Tc
open Go.RowKit Base
set_option linter.unusedVariables false
set_option linter.unusedSimpArgs false
set_option maxRecDepth 100000 in
set_option maxHeartbeats 4000000 in
theorem r06join_any (a b : Ag) (w : World) (ha : FitAg a) (hb : FitAg b) (hs : sumsFit a b) :
 Calls Tryz.prog 33 #[.agg (agC a), .agg (agC b)] w fun e w' => e = .returned (.tuple #[.agg (agC ((joinA a b).getD agZero)), .bool true]) ∧ Below w.heap.size w w' := by
 have HA := kp (fun w => radd_any a.c b.c w ha.1 hb.1)
 have HP := kp (fun k w => radd_any (ps a k) (ps b k) w (ha.ps k) (hb.ps k))
 have HQ := kp (show ∀ (j : Ag), joinA a b = some j → ∀ w', Below w.heap.size w w' → (fun (e : Ending) w' => e = .returned (.tuple #[.agg (agC ((joinA a b).getD agZero)), .bool true]) ∧ Below w.heap.size w w') (.returned (.tuple #[.agg (agC j), .bool true])) w' from fun j hj w' h => ⟨by rw [hj]; rfl, h⟩)
 generalize (fun (e : Ending) w' => e = .returned (.tuple #[.agg (agC ((joinA a b).getD agZero)), .bool true]) ∧ Below w.heap.size w w') = Q at *
 have hb1 := (Below.refl w.heap.size w).alloc (Nat.le_refl _) (.cells (agC a) 47)
 have hb2 := hb1.alloc (by simp) (.cells (agC b) 47)
 have hb3 := hb2.alloc (by simp; omega) (.cells #[.int .i64 0, .int .i64 0, .int .i64 0, .int .i64 0, .int .i64 0, .int .i64 0, .int .i64 0, .int .i64 0, .int .i64 0, .int .i64 0] 47)
 have HBa := kp (((Box.new w 47 (agC a)).alloc (.cells (agC b) 47)).alloc (.cells #[.int .i64 0, .int .i64 0, .int .i64 0, .int .i64 0, .int .i64 0, .int .i64 0, .int .i64 0, .int .i64 0, .int .i64 0, .int .i64 0] 47))
 have HBb := kp ((Box.lay (w := w.alloc (.cells (agC a) 47)) (g := w.heap.size + 1) (t := 47) (cs := agC b) (by simp)).alloc (.cells #[.int .i64 0, .int .i64 0, .int .i64 0, .int .i64 0, .int .i64 0, .int .i64 0, .int .i64 0, .int .i64 0, .int .i64 0, .int .i64 0] 47))
 have HBz := kp (Box.lay (w := (w.alloc (.cells (agC a) 47)).alloc (.cells (agC b) 47)) (g := w.heap.size + 1 + 1) (t := 47) (cs := #[.int .i64 0, .int .i64 0, .int .i64 0, .int .i64 0, .int .i64 0, .int .i64 0, .int .i64 0, .int .i64 0, .int .i64 0, .int .i64 0]) (by simp))
 have hsz : (((w.alloc (.cells (agC a) 47)).alloc (.cells (agC b) 47)).alloc (.cells #[.int .i64 0, .int .i64 0, .int .i64 0, .int .i64 0, .int .i64 0, .int .i64 0, .int .i64 0, .int .i64 0, .int .i64 0, .int .i64 0] 47)).heap.size = w.heap.size + 1 + 1 + 1 := by simp
 have Hb3 := kp hb3
 clear ha hb hb1 hb2 hb3
 dsimp only [agC] at HBa HBb HBz Hb3 hsz HQ ⊢
 generalize hW3 : ((w.alloc (.cells #[.int .i64 a.c, .int .i64 a.s0, .int .i64 a.n0, .int .i64 a.x0, .int .i64 a.s1, .int .i64 a.n1, .int .i64 a.x1, .int .i64 a.s2, .int .i64 a.n2, .int .i64 a.x2] 47)).alloc (.cells #[.int .i64 b.c, .int .i64 b.s0, .int .i64 b.n0, .int .i64 b.x0, .int .i64 b.s1, .int .i64 b.n1, .int .i64 b.x1, .int .i64 b.s2, .int .i64 b.n2, .int .i64 b.x2] 47)).alloc (.cells #[.int .i64 0, .int .i64 0, .int .i64 0, .int .i64 0, .int .i64 0, .int .i64 0, .int .i64 0, .int .i64 0, .int .i64 0, .int .i64 0] 47) = W3 at *
 have Hsz := kp hsz
 obtain ⟨a0, a1, a2, a3, a4, a5, a6, a7, a8, a9⟩ := (Box.ten HBa.out).1
 obtain ⟨b0, b1, b2, b3, b4, b5, b6, b7, b8, b9⟩ := (Box.ten HBb.out).1
 by_cases h0 : a.c = 0
 ·have hj : joinA a b = some b := if_pos h0
  have q0 : (a.c == 0) = true := by rw [h0]; rfl
  clear HA HP h0 hs
  have HBr := kp (show Box (setAll W3 (w.heap.size + 1 + 1) 0 [.int .i64 b.c, .int .i64 b.s0, .int .i64 b.n0, .int .i64 b.x0, .int .i64 b.s1, .int .i64 b.n1, .int .i64 b.x1, .int .i64 b.s2, .int .i64 b.n2, .int .i64 b.x2]) (w.heap.size + 1 + 1) 47 #[.int .i64 b.c, .int .i64 b.s0, .int .i64 b.n0, .int .i64 b.x0, .int .i64 b.s1, .int .i64 b.n1, .int .i64 b.x1, .int .i64 b.s2, .int .i64 b.n2, .int .i64 b.x2] from box_setAll0 HBz.out [.int .i64 b.c, .int .i64 b.s0, .int .i64 b.n0, .int .i64 b.x0, .int .i64 b.s1, .int .i64 b.n1, .int .i64 b.x1, .int .i64 b.s2, .int .i64 b.n2, .int .i64 b.x2] rfl)
  have Hfin := kp (show Q (.returned (.tuple #[.agg #[.int .i64 b.c, .int .i64 b.s0, .int .i64 b.n0, .int .i64 b.x0, .int .i64 b.s1, .int .i64 b.n1, .int .i64 b.x1, .int .i64 b.s2, .int .i64 b.n2, .int .i64 b.x2], .bool true])) _ from (HQ.out b hj) _ (below_setAll (Nat.le_succ_of_le (Nat.le_succ _)) [.int .i64 b.c, .int .i64 b.s0, .int .i64 b.n0, .int .i64 b.x0, .int .i64 b.s1, .int .i64 b.n1, .int .i64 b.x1, .int .i64 b.s2, .int .i64 b.n2, .int .i64 b.x2] W3 0 Hb3.out))
  obtain ⟨⟨u0, u1, u2, u3, u4, u5, u6, u7, u8, u9⟩, ⟨v0, v1, v2, v3, v4, v5, v6, v7, v8, v9⟩⟩ := Box.ten HBz.out
  generalize hWr : setAll W3 (w.heap.size + 1 + 1) 0 _ = Wr at *
  simp only [setAll, Nat.zero_add, Nat.reduceAdd] at hWr
  obtain ⟨t0, t1, t2, t3, t4, t5, t6, t7, t8, t9⟩ := (Box.ten HBr.out).1
  clear hj
  go_enter Tryz.func33, Tryz.ntmps33
  go_wp2_with fail
  refine bodyPost_ret (v := .tuple #[.agg #[.int .i64 b.c, .int .i64 b.s0, .int .i64 b.n0, .int .i64 b.x0, .int .i64 b.s1, .int .i64 b.n1, .int .i64 b.x1, .int .i64 b.s2, .int .i64 b.n2, .int .i64 b.x2], .bool true]) ?_ rfl Hfin.out
  simp [results, Tryz.results33, go_sem, t0, t1, t2, t3, t4, t5, t6, t7, t8, t9]
 have q0 : (a.c == 0) = false := by simpa using h0
 by_cases h1 : b.c = 0
 ·have hj : joinA a b = some a := by unfold joinA; rw [if_neg h0, if_pos h1]
  have q1 : (b.c == 0) = true := by rw [h1]; rfl
  clear HA HP h0 h1 hs
  have HBr := kp (show Box (setAll W3 (w.heap.size + 1 + 1) 0 [.int .i64 a.c, .int .i64 a.s0, .int .i64 a.n0, .int .i64 a.x0, .int .i64 a.s1, .int .i64 a.n1, .int .i64 a.x1, .int .i64 a.s2, .int .i64 a.n2, .int .i64 a.x2]) (w.heap.size + 1 + 1) 47 #[.int .i64 a.c, .int .i64 a.s0, .int .i64 a.n0, .int .i64 a.x0, .int .i64 a.s1, .int .i64 a.n1, .int .i64 a.x1, .int .i64 a.s2, .int .i64 a.n2, .int .i64 a.x2] from box_setAll0 HBz.out [.int .i64 a.c, .int .i64 a.s0, .int .i64 a.n0, .int .i64 a.x0, .int .i64 a.s1, .int .i64 a.n1, .int .i64 a.x1, .int .i64 a.s2, .int .i64 a.n2, .int .i64 a.x2] rfl)
  have Hfin := kp (show Q (.returned (.tuple #[.agg #[.int .i64 a.c, .int .i64 a.s0, .int .i64 a.n0, .int .i64 a.x0, .int .i64 a.s1, .int .i64 a.n1, .int .i64 a.x1, .int .i64 a.s2, .int .i64 a.n2, .int .i64 a.x2], .bool true])) _ from (HQ.out a hj) _ (below_setAll (Nat.le_succ_of_le (Nat.le_succ _)) [.int .i64 a.c, .int .i64 a.s0, .int .i64 a.n0, .int .i64 a.x0, .int .i64 a.s1, .int .i64 a.n1, .int .i64 a.x1, .int .i64 a.s2, .int .i64 a.n2, .int .i64 a.x2] W3 0 Hb3.out))
  obtain ⟨⟨u0, u1, u2, u3, u4, u5, u6, u7, u8, u9⟩, ⟨v0, v1, v2, v3, v4, v5, v6, v7, v8, v9⟩⟩ := Box.ten HBz.out
  generalize hWr : setAll W3 (w.heap.size + 1 + 1) 0 _ = Wr at *
  simp only [setAll, Nat.zero_add, Nat.reduceAdd] at hWr
  obtain ⟨t0, t1, t2, t3, t4, t5, t6, t7, t8, t9⟩ := (Box.ten HBr.out).1
  clear hj
  go_enter Tryz.func33, Tryz.ntmps33
  go_wp2_with fail
  refine bodyPost_ret (v := .tuple #[.agg #[.int .i64 a.c, .int .i64 a.s0, .int .i64 a.n0, .int .i64 a.x0, .int .i64 a.s1, .int .i64 a.n1, .int .i64 a.x1, .int .i64 a.s2, .int .i64 a.n2, .int .i64 a.x2], .bool true]) ?_ rfl Hfin.out
  simp [results, Tryz.results33, go_sem, t0, t1, t2, t3, t4, t5, t6, t7, t8, t9]
 have q1 : (b.c == 0) = false := by simpa using h1
 have hj : joinA a b = some (addAg a b) := by unfold joinA; rw [if_neg h0, if_neg h1, if_pos hs]
 have Hs := kp hs
 clear h0 h1 hs
 have HA3 := kp (HA.out W3)
 rw [cap_yes Hs.out.1, fits_yes Hs.out.1] at HA3
 have hb4 := Hb3.out.alloc (by rw [Hsz.out]; omega) (.cells (agC (joinTo a b 0)) 47)
 have HB4 := kp (show Box (W3.alloc (.cells (agC (joinTo a b 0)) 47)) (w.heap.size + 1 + 1 + 1) 47 (agC (joinTo a b 0)) from Box.lay (by rw [Hsz.out]))
 have HBa4 := kp (HBa.out.alloc (.cells (agC (joinTo a b 0)) 47))
 have HBb4 := kp (HBb.out.alloc (.cells (agC (joinTo a b 0)) 47))
 have HBz4 := kp (HBz.out.alloc (.cells (agC (joinTo a b 0)) 47))
 have Hb4 := kp hb4
 clear hb4
 go_enter Tryz.func33, Tryz.ntmps33
 go_wp2_with fail
 refine HA3.out.mono ?_
 rintro e w' ⟨rfl, rfl⟩
 go_wp2_with fail
 go_loopw [9] (fun v9 wr => ∃ k : Nat, k ≤ 3 ∧ v9 = .int .i64 k ∧ Box wr w.heap.size 47 (agC a) ∧ Box wr (w.heap.size + 1) 47 (agC b) ∧ Box wr (w.heap.size + 1 + 1) 47 #[.int .i64 0, .int .i64 0, .int .i64 0, .int .i64 0, .int .i64 0, .int .i64 0, .int .i64 0, .int .i64 0, .int .i64 0, .int .i64 0] ∧ Box wr (w.heap.size + 1 + 1 + 1) 47 (agC (joinTo a b k)) ∧ Below w.heap.size w wr) (fun v9 _ => 3 - (intOf v9).toNat)
 case atStart => exact ⟨0, by omega, rfl, HBa4.out, HBb4.out, HBz4.out, HB4.out, Hb4.out⟩
 case round =>
  clear HBa4 HBb4 HBz4 HB4 Hb4 HBa HBb HBz Hb3 HA HA3 hW3 a0 a1 a2 a3 a4 a5 a6 a7 a8 a9 b0 b1 b2 b3 b4 b5 b6 b7 b8 b9 q0 q1
  obtain ⟨k, hk, rfl, hba, hbb, hbz, hbj, hbe⟩ := hrel
  have HBa := kp hba
  have HBb := kp hbb
  have HBz := kp hbz
  have HBj := kp hbj
  have Hbe := kp hbe
  have hszr : w.heap.size + 1 + 1 + 1 < wr.heap.size := HBj.out.lt
  clear hba hbb hbz hbj hbe
  by_cases hlt : k < 3
  ·obtain ⟨⟨a0, a1, a2⟩, _⟩ := Box.part HBa.out hlt
   obtain ⟨⟨b0, b1, b2⟩, _⟩ := Box.part HBb.out hlt
   obtain ⟨_, ⟨f0, f1, f2⟩⟩ := Box.part HBj.out hlt
   have hi0 : (0 : Int) ≤ (k : Int) := by omega
   have hi1 : (k : Int) < 3 := by omega
   have hfk : fit (ps a k + ps b k) := by
    match k, hlt with
    | 0, _ => exact Hs.out.2.1
    | 1, _ => exact Hs.out.2.2.1
    | 2, _ => exact Hs.out.2.2.2
   have HPk := kp (HP.out k)
   rw [cap_yes hfk, fits_yes hfk] at HPk
   have HBp := kp (Box.part_set HBj.out hlt)
   clear HP hfk
   generalize ps a k = s1 at *
   generalize ps b k = s2 at *
   generalize pn a k = n1 at *
   generalize px a k = x1 at *
   generalize pn b k = n2 at *
   generalize px b k = x2 at *
   go_upto_region 12 with fail
   refine wp_region_noPanic ?_
   refine wp_region_T (t := 99) (S := (fun w' => w'.cell? ⟨w.heap.size, 1 + k * 3, none⟩ = some (.int .i64 s1) ∧ w'.cell? ⟨w.heap.size + 1, 1 + k * 3, none⟩ = some (.int .i64 s2))) (by kernel_rfl) ⟨a0, b0⟩ (fun hHeld => ?_)
   refine tk 0 hHeld ?_
   refine tk 1 hHeld ?_
   refine tk 2 hHeld ?_
   refine tk 3 hHeld ?_
   refine tk 4 hHeld ?_
   refine tk 5 hHeld ?_
   refine tk 6 hHeld ?_
   refine tk 7 hHeld ?_
   refine tk 8 hHeld ?_
   refine tk 9 hHeld ?_
   refine wpAnyT_one (i := 10) (o := ?op10) (by kernel_rfl) ?ap10 (by decide) (fun K hK => ?bp10)
   case ap10 => (simp only [List.getElem?_toArray, List.getElem?_cons_succ, List.getElem?_cons_zero]; exact rfl)
   go_simp
   refine (HPk.out wr.drew).mono ?_
   rintro e w2 ⟨rfl, rfl⟩
   refine hK.out _ _ ?_ (fun hHeld2 => ?_)
   ·exact ⟨a0, b0⟩
   clear hK K hHeld
   have hHeld := hHeld2
   clear hHeld2
   try simp only [Act.put, List.setIfInBounds_toArray, List.set_cons_zero, List.set_cons_succ]
   refine tk 11 hHeld ?_
   refine tk 12 hHeld ?_
   refine tk 13 hHeld ?_
   refine tk 14 hHeld ?_
   refine tk 15 hHeld ?_
   refine wpAnyT_done (by kernel_rfl) ?_ _
   try clear hHeld
   refine NoPanic.normal ?_
   go_upto_region 15 with fail
   refine wp_region_noPanic ?_
   refine wp_region_U (t := 27) (S := (fun w' => (w'.cell? ⟨w.heap.size, 1 + k * 3 + 1, none⟩ = some (.int .i64 n1) ∧ w'.cell? ⟨w.heap.size, 1 + k * 3 + 2, none⟩ = some (.int .i64 x1)) ∧ (w'.cell? ⟨w.heap.size + 1, 1 + k * 3 + 1, none⟩ = some (.int .i64 n2) ∧ w'.cell? ⟨w.heap.size + 1, 1 + k * 3 + 2, none⟩ = some (.int .i64 x2)))) (by kernel_rfl) ⟨⟨a1, a2⟩, b1, b2⟩ (fun hHeld => ?_)
   refine tu 0 hHeld ?_
   refine tu 1 hHeld ?_
   refine tu 2 hHeld ?_
   refine tu 3 hHeld ?_
   refine tu 4 hHeld ?_
   refine tu 5 hHeld ?_
   refine tu 6 hHeld ?_
   refine tu 7 hHeld ?_
   refine tu 8 hHeld ?_
   refine tu 9 hHeld ?_
   refine tu 10 hHeld ?_
   refine tu 11 hHeld ?_
   refine tu 12 hHeld ?_
   refine tu 13 hHeld ?_
   refine tu 14 hHeld ?_
   refine tu 15 hHeld ?_
   refine tu 16 hHeld ?_
   refine tu 17 hHeld ?_
   refine tu 18 hHeld ?_
   refine tu 19 hHeld ?_
   refine tu 20 hHeld ?_
   refine tu 21 hHeld ?_
   refine tu 22 hHeld ?_
   refine tu 23 hHeld ?_
   refine tu 24 hHeld ?_
   refine tu 25 hHeld ?_
   refine tu 26 hHeld ?_
   refine wpAnyU_last (o := ?oq27) (by kernel_rfl) ?aq27 ⟨by kernel_rfl, by kernel_rfl⟩ (fun K hK => ?bq27)
   case aq27 => (simp only [List.getElem?_toArray, List.getElem?_cons_succ, List.getElem?_cons_zero]; exact rfl)
   obtain ⟨⟨x1', _⟩, _⟩ := hHeld
   have hHeld := x1'
   go_simp
   refine hK.out _ _ ?_
   clear hK K hHeld
   refine NoPanic.normal ?_
   try simp only [Act.put, List.setIfInBounds_toArray, List.set_cons_zero, List.set_cons_succ]
   have e1 : (if n2 < n1 then n2 else n1) = min n1 n2 := by split <;> omega
   have e2 : (if x2 > x1 then x2 else x1) = max x1 x2 := by split <;> omega
   try simp only [e1, e2]
   clear e1 e2
   have HBa9 := kp (((HBa.out.drew.drew.far (p := ⟨(w.heap.size + 1 + 1 + 1), 1 + k * 3, none⟩) (by dsimp only; omega) (.int .i64 (s1 + s2))).far (p := ⟨(w.heap.size + 1 + 1 + 1), 1 + k * 3 + 1, none⟩) (by dsimp only; omega) (.int .i64 (min n1 n2))).far (p := ⟨(w.heap.size + 1 + 1 + 1), 1 + k * 3 + 2, none⟩) (by dsimp only; omega) (.int .i64 (max x1 x2)))
   have HBb9 := kp (((HBb.out.drew.drew.far (p := ⟨(w.heap.size + 1 + 1 + 1), 1 + k * 3, none⟩) (by dsimp only; omega) (.int .i64 (s1 + s2))).far (p := ⟨(w.heap.size + 1 + 1 + 1), 1 + k * 3 + 1, none⟩) (by dsimp only; omega) (.int .i64 (min n1 n2))).far (p := ⟨(w.heap.size + 1 + 1 + 1), 1 + k * 3 + 2, none⟩) (by dsimp only; omega) (.int .i64 (max x1 x2)))
   have HBz9 := kp (((HBz.out.drew.drew.far (p := ⟨(w.heap.size + 1 + 1 + 1), 1 + k * 3, none⟩) (by dsimp only; omega) (.int .i64 (s1 + s2))).far (p := ⟨(w.heap.size + 1 + 1 + 1), 1 + k * 3 + 1, none⟩) (by dsimp only; omega) (.int .i64 (min n1 n2))).far (p := ⟨(w.heap.size + 1 + 1 + 1), 1 + k * 3 + 2, none⟩) (by dsimp only; omega) (.int .i64 (max x1 x2)))
   have Hbe9 := kp (((Hbe.out.drew.drew.setCell (p := ⟨(w.heap.size + 1 + 1 + 1), 1 + k * 3, none⟩) (by dsimp only; omega) (.int .i64 (s1 + s2))).setCell (p := ⟨(w.heap.size + 1 + 1 + 1), 1 + k * 3 + 1, none⟩) (by dsimp only; omega) (.int .i64 (min n1 n2))).setCell (p := ⟨(w.heap.size + 1 + 1 + 1), 1 + k * 3 + 2, none⟩) (by dsimp only; omega) (.int .i64 (max x1 x2)))
   go_wp2_with fail
   refine ⟨⟨k + 1, by omega, by go_num, HBa9.out, HBb9.out, HBz9.out, HBp.out, Hbe9.out⟩, by simp [intOf]; omega⟩
  ·obtain rfl : k = 3 := by omega
   obtain ⟨c0, c1, c2, c3, c4, c5, c6, c7, c8, c9⟩ := (Box.ten HBj.out).1
   have HBr := kp (show Box (setAll wr (w.heap.size + 1 + 1) 0 [.int .i64 (joinTo a b 3).c, .int .i64 (joinTo a b 3).s0, .int .i64 (joinTo a b 3).n0, .int .i64 (joinTo a b 3).x0, .int .i64 (joinTo a b 3).s1, .int .i64 (joinTo a b 3).n1, .int .i64 (joinTo a b 3).x1, .int .i64 (joinTo a b 3).s2, .int .i64 (joinTo a b 3).n2, .int .i64 (joinTo a b 3).x2]) (w.heap.size + 1 + 1) 47 #[.int .i64 (joinTo a b 3).c, .int .i64 (joinTo a b 3).s0, .int .i64 (joinTo a b 3).n0, .int .i64 (joinTo a b 3).x0, .int .i64 (joinTo a b 3).s1, .int .i64 (joinTo a b 3).n1, .int .i64 (joinTo a b 3).x1, .int .i64 (joinTo a b 3).s2, .int .i64 (joinTo a b 3).n2, .int .i64 (joinTo a b 3).x2] from box_setAll0 HBz.out [.int .i64 (joinTo a b 3).c, .int .i64 (joinTo a b 3).s0, .int .i64 (joinTo a b 3).n0, .int .i64 (joinTo a b 3).x0, .int .i64 (joinTo a b 3).s1, .int .i64 (joinTo a b 3).n1, .int .i64 (joinTo a b 3).x1, .int .i64 (joinTo a b 3).s2, .int .i64 (joinTo a b 3).n2, .int .i64 (joinTo a b 3).x2] rfl)
   have Hfin := kp (show Q (.returned (.tuple #[.agg #[.int .i64 (joinTo a b 3).c, .int .i64 (joinTo a b 3).s0, .int .i64 (joinTo a b 3).n0, .int .i64 (joinTo a b 3).x0, .int .i64 (joinTo a b 3).s1, .int .i64 (joinTo a b 3).n1, .int .i64 (joinTo a b 3).x1, .int .i64 (joinTo a b 3).s2, .int .i64 (joinTo a b 3).n2, .int .i64 (joinTo a b 3).x2], .bool true])) _ from (HQ.out (joinTo a b 3) (by rw [joinTo_3]; exact hj)) _ (below_setAll (Nat.le_succ_of_le (Nat.le_succ _)) [.int .i64 (joinTo a b 3).c, .int .i64 (joinTo a b 3).s0, .int .i64 (joinTo a b 3).n0, .int .i64 (joinTo a b 3).x0, .int .i64 (joinTo a b 3).s1, .int .i64 (joinTo a b 3).n1, .int .i64 (joinTo a b 3).x1, .int .i64 (joinTo a b 3).s2, .int .i64 (joinTo a b 3).n2, .int .i64 (joinTo a b 3).x2] wr 0 Hbe.out))
   obtain ⟨⟨u0, u1, u2, u3, u4, u5, u6, u7, u8, u9⟩, ⟨v0, v1, v2, v3, v4, v5, v6, v7, v8, v9⟩⟩ := Box.ten HBz.out
   generalize hWr : setAll wr (w.heap.size + 1 + 1) 0 _ = Wr at *
   simp only [setAll, Nat.zero_add, Nat.reduceAdd] at hWr
   obtain ⟨t0, t1, t2, t3, t4, t5, t6, t7, t8, t9⟩ := (Box.ten HBr.out).1
   clear hj
   go_wp2_with fail
   refine bodyPost_ret (v := .tuple #[.agg #[.int .i64 (joinTo a b 3).c, .int .i64 (joinTo a b 3).s0, .int .i64 (joinTo a b 3).n0, .int .i64 (joinTo a b 3).x0, .int .i64 (joinTo a b 3).s1, .int .i64 (joinTo a b 3).n1, .int .i64 (joinTo a b 3).x1, .int .i64 (joinTo a b 3).s2, .int .i64 (joinTo a b 3).n2, .int .i64 (joinTo a b 3).x2], .bool true]) ?_ rfl Hfin.out
   simp [results, Tryz.results33, go_sem, t0, t1, t2, t3, t4, t5, t6, t7, t8, t9]
set_option maxRecDepth 100000 in
set_option maxHeartbeats 4000000 in
theorem r16lift_any (d : Dim) (to i : Nat) (w : World) (h : DimAt w w.heap.size d) (ho : DimOk d) (hto : to < d.tiers.length) (hi : i < (d.tiers[0]'(by omega)).terms.length) :
 Calls Tryz.prog 68 #[.agg (dimC d), .int .i64 0, .int .i64 (to : Nat), .int .i64 (i : Nat)] w fun e w' => e = .returned (.int .i64 (liftN d to i : Nat)) ∧ Below w.heap.size w w' := by
 have hb0 := (Below.refl w.heap.size w).alloc (Nat.le_refl _) (.cells (dimC d) 61)
 have HB := kp (Box.new w 61 (dimC d))
 have H0 := kp ((h.below hb0).more hb0.size)
 have Hb0 := kp hb0
 have Hh := kp h
 have Ho := kp ho
 have Hto := kp hto
 have Hi := kp hi
 have HLx := kp (fun (k : Nat) (hkt : k + 1 < d.tiers.length) => lift_next ho hkt hi)
 have hn4 := ho.n2
 obtain ⟨b, off, hA, hb, c0, c1, c2⟩ := H0.out.tier 0 (by omega)
 rw [Nat.zero_mul, Nat.add_zero] at c0 c1 c2
 clear h ho hb0 hi
 generalize hQ : (fun (e : Ending) w' => e = .returned (.int .i64 (liftN d to i : Nat)) ∧ Below w.heap.size w w') = Q
 have HQ := kp (show ∀ w', Below w.heap.size w w' → Q (.returned (.int .i64 (liftN d to i : Nat))) w' from fun w' hb => by rw [← hQ]; exact ⟨rfl, hb⟩)
 clear hQ
 unfold dimC at HB H0 Hb0 c0 c1 c2 ⊢
 obtain ⟨z0, z1, _, _⟩ := HB.out.two
 rw [hA] at z1
 have hi1 : ¬ (to : Int) < 0 := by omega
 have hi1d : decide ((to : Int) < 0) = false := decide_eq_false hi1
 have hi2 : ¬ (i : Int) < 0 := by omega
 have hi2d : decide ((i : Int) < 0) = false := decide_eq_false hi2
 have hi3 := Hi.out
 have hi4 : ¬ (((d.tiers[0]'(by omega)).terms.length : Nat) : Int) ≤ (i : Int) := by omega
 have hi4d : decide ((((d.tiers[0]'(by omega)).terms.length : Nat) : Int) ≤ (i : Int)) = false := decide_eq_false hi4
 have hi5 : (0 : Int) < (d.tiers.length : Int) := by omega
 have hi4n : decide ((d.tiers[0]'(by omega)).terms.length ≤ i) = false := decide_eq_false (by omega)
 have hi6 : ¬ (d.tiers.length : Int) ≤ (to : Int) := by omega
 have hi6d : decide ((d.tiers.length : Int) ≤ (to : Int)) = false := decide_eq_false hi6
 have hi6n : decide (d.tiers.length ≤ to) = false := decide_eq_false (by omega)
 generalize (d.tiers[0]'(by omega)).terms.length = n0 at *
 generalize (d.tiers[0]'(by omega)).At = A0 at *
 generalize (d.tiers[0]'(by omega)).ct = k0 at *
 have HB1 := kp (show Box (w.alloc (.cells #[.string d.name, .slice d.A d.tiers.length d.c] 61)) w.heap.size 61 #[.string d.name, .slice (some ⟨b, off, none⟩) d.tiers.length d.c] by have := HB.out; rw [hA] at this ⊢; exact this)
 rw [hA] at Hb0 c0 c1 c2 z0 ⊢
 go_enter Tryz.func68, Tryz.ntmps68
 go_wp2_with fail
 go_loopw [3, 9] (fun v3 v9 wr => ∃ k : Nat, k ≤ to ∧ v9 = .int .i64 k ∧ v3 = .int .i64 (liftN d k i : Nat) ∧ Box wr w.heap.size 61 #[.string d.name, .slice (some ⟨b, off, none⟩) d.tiers.length d.c] ∧ Below w.heap.size w wr) (fun _ v9 _ => to - (intOf v9).toNat)
 case atStart => exact ⟨0, Nat.zero_le _, rfl, rfl, by have := HB1.out; rw [hA] at this; exact this, Hb0.out⟩
 case round =>
  clear z0 z1 c0 c1 c2 hi1 hi1d hi2 hi2d hi4 hi4d hi5 hi3 hi4n hi6 hi6d hi6n
  obtain ⟨k, hk, rfl, rfl, hbx, hbe⟩ := hrel
  have Hbx := kp hbx
  have Hbe := kp hbe
  clear hbx hbe
  have hp0 : ¬ ((liftN d k i : Nat) : Int) < 0 := by omega
  have hp0d : decide (((liftN d k i : Nat) : Int) < 0) = false := decide_eq_false hp0
  by_cases hlt : k < to
  ·have hk1 : (k : Int) < (to : Int) := by omega
   have hkt : k + 1 < d.tiers.length := by have := Hto.out; omega
   have hkk : k < d.tiers.length := Nat.lt_of_succ_lt hkt
   obtain ⟨hu, hu0, hnx⟩ := HLx.out k hkt
   have hd := (Hh.out.below Hbe.out).more Hbe.out.size
   obtain ⟨b', off', hA', hb', c0, c1, c2⟩ := hd.tier k hkk
   have hAA := hA.symm.trans hA'
   injection hAA with hAA
   injection hAA with hAb hAo
   subst hAb hAo
   obtain ⟨bu, ou, hAu, hbu, u0⟩ := Row.at_ (hd.tiers _ (List.getElem_mem hkk)).up (k := liftN d k i) (by rw [List.length_map]; exact hu)
   rw [List.getElem_map] at u0
   have HV : (d.tiers[k]'hkk).up[liftN d k i]'hu = ((liftN d (k + 1) i : Nat) : Int) := by
    rw [hnx]
    unfold upI
    rw [List.getElem?_eq_getElem hu]
    exact (Int.toNat_of_nonneg hu0).symm
   rw [HV] at u0
   rw [hAu] at c2
   have hi1 : (k : Int) < (d.tiers.length : Int) := by omega
   have hi2 : (0 : Int) ≤ (k : Int) := by omega
   obtain ⟨z0, z1, _, _⟩ := Hbx.out.two
   clear hu0 hnx hd hA' hAu HV
   generalize (d.tiers[k]'hkk).up.length = nu at *
   have hp1 : (0 : Int) ≤ ((liftN d k i : Nat) : Int) := by omega
   have hp2 : ((liftN d k i : Nat) : Int) < (nu : Int) := by omega
   have hp3 : ¬ (nu : Int) ≤ ((liftN d k i : Nat) : Int) := by omega
   have hp3d : decide ((nu : Int) ≤ ((liftN d k i : Nat) : Int)) = false := decide_eq_false hp3
   have hp3n : decide (nu ≤ liftN d k i) = false := decide_eq_false (by omega)
   generalize liftN d k i = p at *
   generalize hr : liftN d (k + 1) i = r at *
   have Hr := kp hr
   clear hr
   go_wp2_with fail
   exact ⟨⟨k + 1, by omega, by go_num, by rw [Hr.out], Hbx.out, Hbe.out⟩, by simp [intOf]; omega⟩
  ·obtain rfl : k = to := by omega
   have hk1 : ¬ (k : Int) < (k : Int) := by omega
   have Hf := kp (HQ.out _ Hbe.out)
   generalize liftN d k i = p at *
   go_wp2_with fail
   exact Hf.out
set_option maxRecDepth 100000 in
set_option maxHeartbeats 4000000 in
theorem r26lift_any (s : Sch) (f : Fa) (dim tier key : Nat) (hd : dim < s.dims.length) (w : World) (h : SchAt w w.heap.size s) (hr : Row w w.heap.size f.A (natV f.keys)) (ho : DimOk (s.dims[dim]'hd)) (ht : tier < (s.dims[dim]'hd).tiers.length) (hk : f.keys[dim]? = some key) (hkt : key < ((s.dims[dim]'hd).tiers[0]'(by omega)).terms.length) :
 Calls Tryz.prog 32 #[.agg (schC s), .agg (factC f), .int .i64 (dim : Nat), .int .i64 (tier : Nat)] w fun e w' => e = .returned (.int .i64 (liftN (s.dims[dim]'hd) tier key : Nat)) ∧ Below w.heap.size w w' := by
 have hb0 := (Below.refl w.heap.size w).alloc (Nat.le_refl _) (.cells (schC s) 25)
 have hb1 := hb0.alloc hb0.size (.cells (factC f) 78)
 have HBs := kp ((Box.new w 25 (schC s)).alloc (.cells (factC f) 78))
 have HBf := kp (show Box ((w.alloc (.cells (schC s) 25)).alloc (.cells (factC f) 78)) (w.heap.size + 1) 78 (factC f) from Box.lay (by simp))
 have h1 := (h.below hb1).more hb1.size
 have hr1 := (hr.below hb1).more hb1.size
 obtain ⟨bd, od, hA, hbd, d0, d1⟩ := h1.dim dim hd
 have hdk : dim < f.keys.length := (List.getElem?_eq_some_iff.1 hk).1
 have hkv : f.keys[dim]'hdk = key := (List.getElem?_eq_some_iff.1 hk).2
 obtain ⟨bk, ok, hK, hbk, k0⟩ := Row.at_ hr1 (k := dim) (by rw [natV_len]; exact hdk)
 unfold natV at k0
 rw [List.getElem_map, hkv] at k0
 have hdl : (dim : Int) < (s.dims.length : Int) := by omega
 have hdl2 : (dim : Int) < (f.keys.length : Int) := by omega
 have hd0 : (0 : Int) ≤ (dim : Int) := by omega
 have HL := kp (fun W (hW : Below ((w.alloc (.cells (schC s) 25)).alloc (.cells (factC f) 78)).heap.size ((w.alloc (.cells (schC s) 25)).alloc (.cells (factC f) 78)) W) => r16lift_any (s.dims[dim]'hd) tier key W (((h1.dims _ (List.getElem_mem hd)).below hW).more hW.size) ho ht hkt)
 have Hb1 := kp hb1
 generalize hQ : (fun (e : Ending) w' => e = .returned (.int .i64 (liftN (s.dims[dim]'hd) tier key : Nat)) ∧ Below w.heap.size w w') = Q
 have HQ := kp (show ∀ w', Below w.heap.size w w' → Q (.returned (.int .i64 (liftN (s.dims[dim]'hd) tier key : Nat))) w' from fun w' hb => by rw [← hQ]; exact ⟨rfl, hb⟩)
 clear hQ hb0 hb1 h1 hr1 hdk hkv h hr ho ht hkt hk
 generalize (s.dims[dim]'hd) = dd at *
 generalize liftN dd tier key = r at *
 unfold schC at HBs HBf HL Hb1 d0 d1 k0 ⊢
 unfold factC at HBs HBf HL Hb1 d0 d1 k0 ⊢
 unfold dimC at HL
 generalize hW1 : (w.alloc (.cells #[.slice s.A s.dims.length s.c, .slice s.Am s.meas.length s.cm] 25)).alloc _ = W1 at *
 obtain ⟨z0, z1, _, _⟩ := HBs.out.two
 obtain ⟨f0, frest⟩ := (Box.eleven HBf.out)
 rw [hA] at z0
 rw [hK] at f0
 clear frest z1
 generalize s.dims.length = nd at *
 generalize f.keys.length = nk at *
 generalize hA2 : s.A = sA at *
 subst hA
 generalize hK2 : f.A = fA at *
 subst hK
 go_enter Tryz.func32, Tryz.ntmps32
 go_upto_region 1 with fail
 clear hW1
 refine wp_region_noPanic ?_
 refine wp_region_T (t := 99) (S := (fun w' => w'.cell? ⟨w.heap.size, 0, none⟩ = some (.slice (some ⟨bd, od, none⟩) nd s.c) ∧ (w'.cell? ⟨bd, od + dim * 2, none⟩ = some (.string dd.name) ∧ w'.cell? ⟨bd, od + dim * 2 + 1, none⟩ = some (.slice dd.A dd.tiers.length dd.c)) ∧ w'.cell? ⟨w.heap.size + 1, 0, none⟩ = some (.slice (some ⟨bk, ok, none⟩) nk f.c) ∧ w'.cell? ⟨bk, ok + dim, none⟩ = some (.int .i64 (key : Nat)))) (by kernel_rfl) ⟨z0, ⟨d0, d1⟩, f0, k0⟩ (fun hHeld => ?_)
 refine tk 0 hHeld ?_
 refine tk 1 hHeld ?_
 refine tk 2 hHeld ?_
 refine tk 3 hHeld ?_
 refine tk 4 hHeld ?_
 refine tk 5 hHeld ?_
 refine tk 6 hHeld ?_
 refine tk 7 hHeld ?_
 refine tk 8 hHeld ?_
 refine tk 9 hHeld ?_
 refine tk 10 hHeld ?_
 refine wpAnyT_one (i := 11) (o := ?op11) (by kernel_rfl) ?ap11 (by decide) (fun K hK => ?bp11)
 case ap11 => (simp only [List.getElem?_toArray, List.getElem?_cons_succ, List.getElem?_cons_zero]; exact rfl)
 go_simp
 refine (HL.out W1.drew (Below.refl _ _).drew).mono ?_
 rintro e wc ⟨rfl, hbc⟩
 have Hbc := kp (show Below W1.heap.size W1 wc from (Below.refl _ _).drew.trans hbc)
 clear hbc
 refine hK.out _ _ ?_ (fun hHeld2 => ?_)
 ·exact ⟨cell_keep Hbc.out z0, ⟨cell_keep Hbc.out d0, cell_keep Hbc.out d1⟩, cell_keep Hbc.out f0, cell_keep Hbc.out k0⟩
 clear hK K hHeld
 have hHeld := hHeld2
 clear hHeld2
 try simp only [Act.put, List.setIfInBounds_toArray, List.set_cons_zero, List.set_cons_succ]
 refine tk 12 hHeld ?_
 refine wpAnyT_done (by kernel_rfl) ?_ _
 try clear hHeld
 refine NoPanic.normal ?_
 have Hf := kp (HQ.out _ (Hb1.out.trans (Hbc.out.mono Hb1.out.size)))
 go_wp2_with fail
 exact Hf.out
end Go.Proofs.YthmbgbmcdbdecaaGreat.Tc
