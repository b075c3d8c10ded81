/- Parts of a proof: Layer 26: the aggregate of a part. -/
import Derived.Test.YthmbgbmcdbdecaaGreatG05
import Derived.Test.YthmbgbmcdbdecaaGreatG20
import Derived.Test.YthmbgbmcdbdecaaGreatG23
import Derived.Maps.OwnRows
import Derived.Maps.RangeWalk
namespace Go.Proofs.YthmbgbmcdbdecaaGreat.Tc
open Go.RowKit Base
set_option linter.unusedVariables false
set_option linter.unusedSimpArgs false
def agF (ps : List (List Nat × Ag)) (i : Nat) : Ag := ((ps[i]?).getD ([], agZero)).2
def joinAll : Ag → List Ag → Option Ag
 | o, [] => some o
 | o, a :: l => (joinA o a).bind fun j => joinAll j l
def sumP (ps : List (List Nat × Ag)) (part : List Nat) : Option Ag := joinAll agZero (part.map (agF ps))
theorem agF_fa {fs : List Fa} {i : Nat} {f : Fa} (h : fs[i]? = some f) : agF (pls fs) i = f.ag := by
 unfold agF pls
 rw [List.getElem?_map, h]
 rfl
def SumRet (a : Ag) (w : World) (e : Ending) (w' : World) : Prop := e = .returned (.agg (agC a)) ∧ Below w.heap.size w w'
theorem joinAll_fit : ∀ (l : List Ag) (o r : Ag), FitAg o → (∀ a ∈ l, FitAg a) → joinAll o l = some r → FitAg r
 | [], o, r, ho, _, h => by injection h with h; rw [← h]; exact ho
 | a :: l, o, r, ho, ha, h => by
  unfold joinAll at h
  rcases hj : joinA o a with _ | j
  ·rw [hj] at h; cases h
  ·rw [hj] at h
   exact joinAll_fit l j r (joinA_fit ho (ha a List.mem_cons_self) hj) (fun x hx => ha x (List.mem_cons_of_mem _ hx)) h
theorem fit_zero : FitAg agZero := by
 unfold FitAg agZero fit
 refine ⟨?_, ?_, ?_, ?_, ?_, ?_, ?_, ?_, ?_, ?_⟩ <;> (dsimp only; omega)
set_option maxRecDepth 100000 in
set_option maxHeartbeats 8000000 in
theorem sum_any (gb : Nat) (Af Ap : Option Addr) (fs : List Fa) (cf cp : Nat) (l1 po pm pe : Value) (part : List Nat) (w : World)
 (hbox : Box w gb 92 #[.slice Af fs.length cf, l1, po, pm, pe]) (hf : FasAt w w.heap.size Af fs) (hp : Row w w.heap.size Ap (natV part)) (hn : part.length ≤ 1000000) (hnf : fs.length ≤ 1000000) (hin : ∀ i ∈ part, i < fs.length) (hfit : ∀ f ∈ fs, FitAg f.ag) (r : Ag) (hr : sumP (pls fs) part = some r) :
 Calls Tryz.prog 98 #[.pointer (some ⟨gb, 0, none⟩), .slice Ap part.length cp] w (SumRet r w) := by
 have HJ := kp join_any
 have HQ := kp (show ∀ w', Below w.heap.size w w' → SumRet r w (.returned (.agg (agC r))) w' from fun w' h => ⟨rfl, h⟩)
 generalize hQ : SumRet r w = Q at *
 clear hQ
 have Hf := kp hf
 have Hp := kp hp
 have Hbox := kp hbox
 have Hin := kp hin
 have Hfit := kp hfit
 have Hr := kp (show joinAll agZero (part.map (agF (pls fs))) = some r from hr)
 clear hf hp hbox hin hfit hr
 obtain ⟨n, hN⟩ : ∃ n, part.length = n := ⟨_, rfl⟩
 have Hn := kp hN
 rw [hN] at hn ⊢
 clear hN
 have HB1 := kp ((Box.new w 47 (agC agZero)).alloc (.cells (agC agZero) 47))
 have HB2 := kp (Box.lay (w := w.alloc (.cells (agC agZero) 47)) (g := w.heap.size + 1) (t := 47) (cs := agC agZero) (by simp))
 have Hb0 := kp (((Below.refl _ w).alloc (Nat.le_refl w.heap.size) (.cells (agC agZero) 47)).alloc (by simp) (.cells (agC agZero) 47))
 go_enter Tryz.func98, Tryz.ntmps98
 go_wp2_with fail
 go_loopw [6, 12] (fun v6 v12 wr => ∃ (k : Nat) (o : Ag), k ≤ n ∧ v12 = .int .i64 k ∧ v6 = .bool true ∧ Box wr w.heap.size 47 (agC agZero) ∧ Box wr (w.heap.size + 1) 47 (agC o) ∧ FitAg o ∧ joinAll o ((part.drop k).map (agF (pls fs))) = some r ∧ Below w.heap.size w wr) (fun _ v12 _ => n - (intOf v12).toNat)
 case atStart => exact ⟨0, agZero, Nat.zero_le _, rfl, rfl, HB1.out, HB2.out, fit_zero, Hr.out, Hb0.out⟩
 case round =>
  obtain ⟨k, o, hk, rfl, rfl, hb1, hb2, ho, hj, hbe⟩ := hrel
  have Hb1 := kp hb1
  have Hb2 := kp hb2
  have Ho := kp ho
  have Hj := kp hj
  have Hbe := kp hbe
  clear hb1 hb2 ho hj hbe HB1 HB2 Hb0
  by_cases hlt : k < n
  ·have hkl : k < part.length := by rw [Hn.out]; exact hlt
   obtain ⟨bp, op, hA, hbp, p0⟩ := Row.at_ ((Hp.out.below Hbe.out).more Hbe.out.size) (k := k) (by rw [natV_len]; exact hkl)
   subst hA
   unfold natV at p0
   rw [List.getElem_map] at p0
   have Hdr := kp (show (part.drop k).map (agF (pls fs)) = agF (pls fs) (part[k]'hkl) :: (part.drop (k + 1)).map (agF (pls fs)) by rw [List.drop_eq_getElem_cons hkl]; rfl)
   have hif := Hin.out _ (List.getElem_mem hkl)
   generalize (part[k]'hkl) = i at *
   have hfs := (Hf.out.below Hbe.out).more Hbe.out.size
   obtain ⟨b, off, hA, hb, c0, c1, c2, c3, c4, c5, c6, c7, c8, c9, c10⟩ := hfs.cells i hif
   have Hff := kp (Hfit.out _ (List.getElem_mem hif))
   have Haf := kp (agF_fa (List.getElem?_eq_getElem hif))
   generalize (fs[i]'hif) = f at *
   have y0 := (Hbox.out.under Hbe.out).cell 0
   change wr.cell? ⟨gb, 0, none⟩ = some (.slice Af fs.length cf) at y0
   rw [hA] at y0
   have hgb : gb < wr.heap.size := (Hbox.out.under Hbe.out).lt
   obtain ⟨j, hjo⟩ : ∃ j, joinA o f.ag = some j := by
    have := Hj.out
    rw [Hdr.out, joinAll, Haf.out] at this
    rcases h : joinA o f.ag with _ | j
    ·rw [h] at this; cases this
    ·exact ⟨j, rfl⟩
   have Hjn := kp (show joinAll j ((part.drop (k + 1)).map (agF (pls fs))) = some r by
    have := Hj.out
    rw [Hdr.out, joinAll, Haf.out, hjo] at this
    exact this)
   have Hjf := kp (joinA_fit Ho.out Hff.out hjo)
   have HJk := kp (fun w => HJ.out o f.ag w Ho.out Hff.out)
   unfold JoinRet at HJk
   rw [hjo] at HJk
   simp only [Option.getD_some, Option.isSome_some] at HJk
   obtain ⟨⟨a0, a1, a2, a3, a4, a5, a6, a7, a8, a9⟩, ⟨f0, f1, f2, f3, f4, f5, f6, f7, f8, f9⟩⟩ := Box.ten Hb2.out
   have hg2 : w.heap.size + 1 < wr.heap.size := Hb2.out.lt
   have b0 : (0 : Int) ≤ (k : Int) := by omega
   have b1 : (k : Int) < (n : Int) := by omega
   have b2 : (0 : Int) ≤ (i : Int) := by omega
   have b3 : (i : Int) < (fs.length : Int) := by omega
   clear hfs hjo hA
   go_upto_region 5 with fail
   refine wp_region_noPanic ?_
   refine wp_region_U (t := 13) (S := (fun w' => (w'.cell? ⟨w.heap.size + 1, 0, none⟩ = some (.int .i64 o.c) ∧ w'.cell? ⟨w.heap.size + 1, 1, none⟩ = some (.int .i64 o.s0) ∧ w'.cell? ⟨w.heap.size + 1, 2, none⟩ = some (.int .i64 o.n0) ∧ w'.cell? ⟨w.heap.size + 1, 3, none⟩ = some (.int .i64 o.x0) ∧ w'.cell? ⟨w.heap.size + 1, 4, none⟩ = some (.int .i64 o.s1) ∧ w'.cell? ⟨w.heap.size + 1, 5, none⟩ = some (.int .i64 o.n1) ∧ w'.cell? ⟨w.heap.size + 1, 6, none⟩ = some (.int .i64 o.x1) ∧ w'.cell? ⟨w.heap.size + 1, 7, none⟩ = some (.int .i64 o.s2) ∧ w'.cell? ⟨w.heap.size + 1, 8, none⟩ = some (.int .i64 o.n2) ∧ w'.cell? ⟨w.heap.size + 1, 9, none⟩ = some (.int .i64 o.x2)) ∧ w'.cell? ⟨gb, 0, none⟩ = some (.slice (some ⟨b, off, none⟩) fs.length cf) ∧ (w'.cell? ⟨b, off + i * 11 + 1, none⟩ = some (.int .i64 f.ag.c) ∧ w'.cell? ⟨b, off + i * 11 + 2, none⟩ = some (.int .i64 f.ag.s0) ∧ w'.cell? ⟨b, off + i * 11 + 3, none⟩ = some (.int .i64 f.ag.n0) ∧ w'.cell? ⟨b, off + i * 11 + 4, none⟩ = some (.int .i64 f.ag.x0) ∧ w'.cell? ⟨b, off + i * 11 + 5, none⟩ = some (.int .i64 f.ag.s1) ∧ w'.cell? ⟨b, off + i * 11 + 6, none⟩ = some (.int .i64 f.ag.n1) ∧ w'.cell? ⟨b, off + i * 11 + 7, none⟩ = some (.int .i64 f.ag.x1) ∧ w'.cell? ⟨b, off + i * 11 + 8, none⟩ = some (.int .i64 f.ag.s2) ∧ w'.cell? ⟨b, off + i * 11 + 9, none⟩ = some (.int .i64 f.ag.n2) ∧ w'.cell? ⟨b, off + i * 11 + 10, none⟩ = some (.int .i64 f.ag.x2)))) (by kernel_rfl) ⟨⟨a0, a1, a2, a3, a4, a5, a6, a7, a8, a9⟩, y0, c1, c2, c3, c4, c5, c6, c7, c8, c9, c10⟩ (fun hHeld => ?_)
   refine tu 0 hHeld ?_
   refine tu 1 hHeld ?_
   refine tu 2 hHeld ?_
   refine tu 3 hHeld ?_
   refine tu 4 hHeld ?_
   refine tu 5 hHeld ?_
   refine tu 6 hHeld ?_
   refine tu 7 hHeld ?_
   refine tu 8 hHeld ?_
   refine wpAnyU_one (i := 9) (o := ?op9) (by kernel_rfl) ?ap9 (by decide) (fun K hK => ?bp9)
   case ap9 => (simp only [List.getElem?_toArray, List.getElem?_cons_succ, List.getElem?_cons_zero]; exact rfl)
   go_simp
   refine (HJk.out wr.drew).mono ?_
   rintro e wc ⟨rfl, hbc⟩
   have Hbc := kp (show Below wr.heap.size wr wc from (Below.refl _ _).drew.trans hbc)
   clear hbc
   refine hK.out _ _ ?_ (fun hHeld2 => ?_)
   ·exact ⟨⟨cell_keep Hbc.out a0, cell_keep Hbc.out a1, cell_keep Hbc.out a2, cell_keep Hbc.out a3, cell_keep Hbc.out a4, cell_keep Hbc.out a5, cell_keep Hbc.out a6, cell_keep Hbc.out a7, cell_keep Hbc.out a8, cell_keep Hbc.out a9⟩, cell_keep Hbc.out y0, cell_keep Hbc.out c1, cell_keep Hbc.out c2, cell_keep Hbc.out c3, cell_keep Hbc.out c4, cell_keep Hbc.out c5, cell_keep Hbc.out c6, cell_keep Hbc.out c7, cell_keep Hbc.out c8, cell_keep Hbc.out c9, cell_keep Hbc.out c10⟩
   clear hK K hHeld
   have hHeld := hHeld2
   clear hHeld2
   try simp only [Act.put, List.setIfInBounds_toArray, List.set_cons_zero, List.set_cons_succ]
   refine tu 10 hHeld ?_
   refine tu 11 hHeld ?_
   refine wpAnyU_free (i := 12) (oi := ?op12) (v := ?vp12) ?ap12 (by kernel_rfl) (by kernel_rfl) (by kernel_rfl) (by kernel_rfl) (fun _ _ _ h => h) ?bp12 hHeld ?cp12
   case ap12 => (simp only [List.getElem?_toArray, List.getElem?_cons_succ, List.getElem?_cons_zero]; exact rfl)
   case bp12 => (refine Or.inl ⟨by rfl, ?_⟩; intro w _; go_simp; try exact rfl)
   try simp only [Act.put, List.setIfInBounds_toArray, List.set_cons_zero, List.set_cons_succ]
   have Hb2c := kp (Hb2.out.under Hbc.out)
   have Hb1c := kp (Hb1.out.under Hbc.out)
   have Hbec := kp (Hbe.out.trans (Hbc.out.mono Hbe.out.size))
   clear a0 a1 a2 a3 a4 a5 a6 a7 a8 a9 f0 f1 f2 f3 f4 f5 f6 f7 f8 f9
   obtain ⟨⟨a0, a1, a2, a3, a4, a5, a6, a7, a8, a9⟩, ⟨f0, f1, f2, f3, f4, f5, f6, f7, f8, f9⟩⟩ := Box.ten Hb2c.out
   refine wpAnyU_mid (o := ?op13) (by kernel_rfl) ?ap13 (by kernel_rfl) (fun K hK => ?bp13)
   case ap13 => (simp only [List.getElem?_toArray, List.getElem?_cons_succ, List.getElem?_cons_zero]; exact rfl)
   go_simp
   refine hK.out _ _ ?_
   clear hK K hHeld
   try simp only [Act.put, List.setIfInBounds_toArray, List.set_cons_zero, List.set_cons_succ]
   refine wpAnyU_rest (i := 14) (oi := ?op14) (v := ?vp14) ?ap14 (by kernel_rfl) (by kernel_rfl) (by kernel_rfl) (by kernel_rfl) (fun _ _ _ h => h) ?bp14 ?cp14
   case ap14 => (simp only [List.getElem?_toArray, List.getElem?_cons_succ, List.getElem?_cons_zero]; exact rfl)
   case bp14 => (refine Or.inl ⟨by rfl, ?_⟩; intro w _; go_simp; try exact rfl)
   try simp only [Act.put, List.setIfInBounds_toArray, List.set_cons_zero, List.set_cons_succ]
   refine wpAnyU_done (by kernel_rfl) ?_ _
   try clear hHeld
   refine NoPanic.normal ?_
   obtain ⟨Wf, hWf⟩ : ∃ Wf, setAll wc (w.heap.size + 1) 0 [.int .i64 j.c, .int .i64 j.s0, .int .i64 j.n0, .int .i64 j.x0, .int .i64 j.s1, .int .i64 j.n1, .int .i64 j.x1, .int .i64 j.s2, .int .i64 j.n2, .int .i64 j.x2] = Wf := ⟨_, rfl⟩
   have Hfb := kp (show Below w.heap.size w Wf by rw [← hWf]; exact below_setAll (by omega) _ _ _ Hbec.out)
   have Hbf := kp (show Box Wf (w.heap.size + 1) 47 (agC j) by rw [← hWf]; exact box_setAll0 Hb2c.out _ rfl)
   have Hb1f := kp (show Box Wf w.heap.size 47 (agC agZero) by rw [← hWf]; exact (setAll_other (by omega) _ _ _).trans Hb1c.out)
   simp only [setAll, Nat.zero_add, Nat.reduceAdd] at hWf
   rw [hWf]
   clear hWf a0 a1 a2 a3 a4 a5 a6 a7 a8 a9 f0 f1 f2 f3 f4 f5 f6 f7 f8 f9
   go_wp2_with fail
   exact ⟨⟨k + 1, j, by omega, by go_num, rfl, Hb1f.out, Hbf.out, Hjf.out, Hjn.out, Hfb.out⟩, by simp [intOf]; omega⟩
  ·obtain rfl : k = n := by omega
   have hor : o = r := by
    have := Hj.out
    rw [List.drop_of_length_le (by rw [Hn.out]; exact Nat.le_refl _)] at this
    injection this
   subst hor
   obtain ⟨⟨a0, a1, a2, a3, a4, a5, a6, a7, a8, a9⟩, _⟩ := Box.ten Hb2.out
   obtain ⟨⟨z0, z1, z2, z3, z4, z5, z6, z7, z8, z9⟩, ⟨f0, f1, f2, f3, f4, f5, f6, f7, f8, f9⟩⟩ := Box.ten Hb1.out
   obtain ⟨Wf, hWf⟩ : ∃ Wf, setAll wr w.heap.size 0 [.int .i64 o.c, .int .i64 o.s0, .int .i64 o.n0, .int .i64 o.x0, .int .i64 o.s1, .int .i64 o.n1, .int .i64 o.x1, .int .i64 o.s2, .int .i64 o.n2, .int .i64 o.x2] = Wf := ⟨_, rfl⟩
   have Hfb := kp (show Below w.heap.size w Wf by rw [← hWf]; exact below_setAll (by omega) _ _ _ Hbe.out)
   have Hbf := kp (show Box Wf w.heap.size 47 (agC o) by rw [← hWf]; exact box_setAll0 Hb1.out _ rfl)
   simp only [setAll, Nat.zero_add, Nat.reduceAdd] at hWf
   have Hfin := kp (HQ.out _ Hfb.out)
   go_wp2_with fail
   clear z0 z1 z2 z3 z4 z5 z6 z7 z8 z9
   obtain ⟨⟨z0, z1, z2, z3, z4, z5, z6, z7, z8, z9⟩, _⟩ := Box.ten Hbf.out
   refine bodyPost_ret (v := .agg (agC o)) (by simp [results, Tryz.results98, go_sem, z0, z1, z2, z3, z4, z5, z6, z7, z8, z9]) rfl Hfin.out
end Go.Proofs.YthmbgbmcdbdecaaGreat.Tc
