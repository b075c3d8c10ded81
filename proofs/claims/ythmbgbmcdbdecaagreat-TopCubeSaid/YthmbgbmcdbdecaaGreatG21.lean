/- Parts of a proof: Layer 17: a schema's shape, made. Layer 25: whether a shape may be. Layer 5: whether an aggregate may be. Layer 19: whether a fact may be of a shape. -/
import Derived.Test.YthmbgbmcdbdecaaGreatG05
import Derived.Test.YthmbgbmcdbdecaaGreatG11
import Derived.Test.YthmbgbmcdbdecaaGreatG12
import Derived.Test.YthmbgbmcdbdecaaGreatG18
import Derived.Test.YthmbgbmcdbdecaaGreatG20
import Derived.Maps.Own
import Derived.Maps.OwnOps
import Derived.Maps.OwnSet
import Derived.Maps.Views
import Derived.RangeFuncNested
import Derived.RangeFuncBound
import Derived.RangeFuncCalls
import Derived.RangeFuncLeaves
import Derived.RangeFuncBox
import Derived.Shelf.Abstract
import Derived.Shelf.RegionOpen
import Derived.OwnWalkIn
import Derived.TacticsInMore
import Derived.LoopNIn
import Derived.LoopIn
import Derived.Deep.Fields
import Derived.ChangeSame
import Derived.WalkLawsBesides
import Derived.WalkSpells
import Derived.Deep.QuietTactic
import Derived.BigQuiet
import Derived.Deep.Cut
import Derived.Lib.Strings
namespace Go.Proofs.YthmbgbmcdbdecaaGreat.Tc
open Go.RowKit Base
set_option linter.unusedVariables false
set_option linter.unusedSimpArgs false
theorem IlsOwn.far {w : World} {B : Nat} {v : Value} {xs : List Fa} (h : IlsOwn w B v xs) {p : Addr} (hp : p.block < B) (u : Value) : IlsOwn (w.setCell p u) B v xs := by
 obtain ⟨⟨h1, h2⟩, h3, h4⟩ := h
 refine ⟨⟨h1, ?_⟩, fun x hx => ⟨?_, (h3 x hx).2⟩, h4⟩
 ·rcases h2 with h2 | ⟨g, cap, cur, e, hB, hh, r⟩
  ·exact .inl h2
  ·exact .inr ⟨g, cap, cur, e, hB, (Below.heap_setCell w p u g (by omega)).trans hh, r⟩
 ·have := row_same (w' := w.setCell p u) (h3 x hx).1 (fun b off e hne => Below.heap_setCell w p u b (by have := h4 x hx b off e hne; omega))
  rw [show (w.setCell p u).heap.size = w.heap.size by simp]
  exact this
def ShapeRet (s : Sch) (w : World) (e : Ending) (w' : World) : Prop := ∃ (A : Option Addr) (c : Nat) (xs : List Fa), e = .returned (.agg #[.slice A xs.length c, .int .i64 (s.meas.length : Nat)]) ∧ IlsOwn w' w.heap.size (.slice A xs.length c) xs ∧ xs.map Fa.keys = s.dims.map sizesN ∧ Below w.heap.size w w'
set_option maxRecDepth 100000 in
set_option maxHeartbeats 4000000 in
theorem shape_any (s : Sch) (w : World) (h : SchAt w w.heap.size s) (ho : SchOk s) : Calls Tryz.prog 27 #[.agg (schC s)] w (ShapeRet s w) := by
 obtain ⟨i0, ti0, tz0, tz1, tz2⟩ := info_parts info_ints
 have HQ := kp (show ∀ A c xs w', IlsOwn w' w.heap.size (.slice A xs.length c) xs → xs.map Fa.keys = s.dims.map sizesN → Below w.heap.size w w' → ShapeRet s w (.returned (.agg #[.slice A xs.length c, .int .i64 (s.meas.length : Nat)])) w' from fun A c xs w' h1 h2 h3 => ⟨A, c, xs, rfl, h1, h2, h3⟩)
 have HS := kp sizes_any
 have Hh := kp h
 have Ho := kp ho
 have hn16 := ho.n2
 have hb0 := (Below.refl w.heap.size w).alloc (Nat.le_refl _) (.cells (schC s) 25)
 have HB := kp (Box.new w 25 (schC s))
 have Hb0 := kp hb0
 clear h ho hb0
 generalize hQ : ShapeRet s w = Q at *
 clear hQ
 unfold schC at HB Hb0 ⊢
 obtain ⟨z0, z1, _, _⟩ := HB.out.two
 obtain ⟨m, hm⟩ : ∃ m, s.dims.length = m := ⟨_, rfl⟩
 have Hm := kp hm
 rw [hm] at z0 hn16 HB Hb0 ⊢
 clear hm
 go_enter Tryz.func27, Tryz.ntmps27
 go_wp2_with fail
 clear z0 z1
 obtain ⟨W1, hW1⟩ : ∃ W1, (w.alloc (.cells #[.slice s.A m s.c, .slice s.Am s.meas.length s.cm] 25)).alloc (.cells #[.slice none 0 0, .int .i64 0] 83) = W1 := ⟨_, rfl⟩
 have hs1 : W1.heap.size = w.heap.size + 1 + 1 := by rw [← hW1]; simp
 have Hb1 := kp (show Below w.heap.size w W1 by rw [← hW1]; exact Hb0.out.alloc (by simp) _)
 have HBr := kp (show Box W1 (w.heap.size + 1) 83 #[.slice none 0 0, .int .i64 0] by rw [← hW1]; exact Box.lay (by simp))
 have Hb2 := kp (Hb1.out.alloc (by omega) (.cells #[.slice none 0 0, .int .i64 (s.meas.length : Nat)] 83))
 have HBr2 := kp (HBr.out.alloc (.cells #[.slice none 0 0, .int .i64 (s.meas.length : Nat)] 83))
 have HBx2 := kp (show Box (W1.alloc (.cells #[.slice none 0 0, .int .i64 (s.meas.length : Nat)] 83)) (w.heap.size + 1 + 1) 83 #[.slice none 0 0, .int .i64 (s.meas.length : Nat)] from Box.lay hs1)
 rw [hW1]
 clear hW1 HBr Hb1
 generalize hM : W1.alloc (.cells #[.slice none 0 0, .int .i64 (s.meas.length : Nat)] 83) = W2 at *
 have hs2 : W2.heap.size = w.heap.size + 1 + 1 + 1 := by rw [← hM]; simp [hs1]
 clear hM hs1
 go_loopw [13] (fun v13 wr => ∃ (k : Nat) (xs : List Fa) (A : Option Addr) (c : Nat), k ≤ m ∧ v13 = .int .i64 k ∧ xs.length = k ∧ xs.map Fa.keys = (s.dims.take k).map sizesN ∧ Box wr (w.heap.size + 1) 83 #[.slice none 0 0, .int .i64 0] ∧ Box wr (w.heap.size + 1 + 1) 83 #[.slice A k c, .int .i64 (s.meas.length : Nat)] ∧ IlsOwn wr (w.heap.size + 1 + 1 + 1) (.slice A k c) xs ∧ Below w.heap.size w wr) (fun v13 _ => m - (intOf v13).toNat)
 case atStart => exact ⟨0, [], none, 0, Nat.zero_le _, rfl, rfl, rfl, HBr2.out, HBx2.out, IlsOwn.nil _ _, Hb2.out⟩
 case round =>
  obtain ⟨k, xs, A, c, hk, rfl, hxl, hxk, hbr, hbx, hown, hbe⟩ := hrel
  have Hxl := kp hxl
  have Hxk := kp hxk
  have Hbr := kp hbr
  have Hbx := kp hbx
  have Hown := kp hown
  have Hbe := kp hbe
  clear hxl hxk hbr hbx hown hbe
  by_cases hlt : k < m
  ·have hkd : k < s.dims.length := by rw [Hm.out]; exact hlt
   have hat := (Hh.out.below Hbe.out).more Hbe.out.size
   obtain ⟨b, off, hA, hb, c0, c1⟩ := hat.dim k hkd
   have hda := hat.dims _ (List.getElem_mem hkd)
   have hbG := (Below.refl wr.heap.size wr).alloc (Nat.le_refl _) (.cells (dimC (s.dims[k]'hkd)) 61)
   have Hb3 := kp (Hbe.out.trans (hbG.mono Hbe.out.size))
   have HSk := kp (fun W (hW : Below wr.heap.size wr W) => HS.out (s.dims[k]'hkd) W ((hda.below hW).more hW.size) (Ho.out.dims k hkd).n2)
   have HbG := kp hbG
   have HBd := kp (Box.new wr 61 (dimC (s.dims[k]'hkd)))
   have Hxn := kp (show ∀ f : Fa, f.keys = sizesN (s.dims[k]'hkd) → (xs ++ [f]).map Fa.keys = (s.dims.take (k + 1)).map sizesN from fun f hf => by rw [List.take_succ_eq_append_getElem hkd, List.map_append, List.map_append, Hxk.out, List.map_cons, List.map_nil, List.map_cons, List.map_nil, hf])
   unfold dimC at HSk HbG HBd Hb3 hbG
   generalize (s.dims[k]'hkd).A = dA at *
   generalize (s.dims[k]'hkd).name = dn at *
   generalize (s.dims[k]'hkd).tiers.length = dl at *
   generalize (s.dims[k]'hkd).c = dc at *
   have hi0 : (0 : Int) ≤ (k : Int) := by omega
   have hi1 : (k : Int) < (m : Int) := by omega
   rw [hA]
   have Hsz := kp (show w.heap.size + 1 + 1 < wr.heap.size from Hbx.out.lt)
   clear hat hda hbG hA
   go_upto_region 5 with fail
   clear c0 c1
   have Hne5 := kp (show (Value.slice A k c).ownBlock ≠ some wr.heap.size from fun hh => by have := (Hown.out.1.lt _ hh).2; omega)
   have Hbx3 := kp (Hbx.out.under HbG.out)
   have Hbr3 := kp (Hbr.out.under HbG.out)
   have Hown3 := kp (Hown.out.below HbG.out)
   have HbG3 := kp (HbG.out.drew)
   have hg5 : wr.heap.size < (wr.alloc (.cells #[.string dn, .slice dA dl dc] 61)).heap.size := by simp
   generalize hW3 : wr.alloc (.cells #[.string dn, .slice dA dl dc] 61) = W3 at *
   have HSk3 := kp (HSk.out W3.drew HbG3.out)
   clear hW3 HSk
   generalize hgg : wr.heap.size = g5 at *
   clear hgg
   obtain ⟨y0, y1, _, _⟩ := HBd.out.two
   obtain ⟨x0, x1, f0, _⟩ := Hbx3.out.two
   have hsz := Hsz.out
   have hltx : w.heap.size + 1 + 1 < W3.heap.size := Hbx3.out.lt
   refine wp_region_noPanic ?_
   refine wp_region_T (t := 7) (S := (fun w' => (w'.cell? ⟨w.heap.size + 1 + 1, 0, none⟩ = some (.slice A k c) ∧ w'.frozen? ⟨w.heap.size + 1 + 1, 0, none⟩ = false) ∧ (w'.cell? ⟨g5, 0, none⟩ = some (.string dn) ∧ w'.cell? ⟨g5, 1, none⟩ = some (.slice dA dl dc)))) (by kernel_rfl) ⟨⟨x0, f0⟩, y0, y1⟩ (fun hHeld => ?_)
   refine tk 0 hHeld ?_
   refine tk 1 hHeld ?_
   refine tk 2 hHeld ?_
   refine wpAnyT_one (i := 3) (o := ?op3) (by kernel_rfl) ?ap3 (by decide) (fun K hK => ?bp3)
   case ap3 => (simp only [List.getElem?_toArray, List.getElem?_cons_succ, List.getElem?_cons_zero]; exact rfl)
   go_simp
   refine HSk3.out.mono ?_
   rintro e w4 ⟨v4, rfl, hown4, hb4⟩
   obtain ⟨A4, c4, rfl⟩ := own_form hown4
   have Hown4 := kp hown4
   have Hb4 := kp (show Below W3.heap.size W3 w4 from (Below.refl _ _).drew.trans hb4)
   clear hown4 hb4
   refine hK.out _ _ ?_ (fun hHeld2 => ?_)
   ·exact ⟨⟨cell_keep Hb4.out hHeld.1.1, by rw [frozen_below Hb4.out _ _ hltx]; exact f0⟩, cell_keep Hb4.out hHeld.2.1, cell_keep Hb4.out hHeld.2.2⟩
   clear hK K hHeld
   have hHeld := hHeld2
   clear hHeld2
   try simp only [Act.put, List.setIfInBounds_toArray, List.set_cons_zero, List.set_cons_succ]
   have hlt4 : w.heap.size + 1 + 1 < w4.heap.size := Nat.lt_of_lt_of_le hltx Hb4.out.size
   have Hown5 := kp (Hown3.out.below Hb4.out)
   have HN := kp (il_new (n := 0) (w := w4) (v := .slice A k c) (B0 := w.heap.size + 1 + 1 + 1) Hown4.out (fun j hj => (Hown3.out.1.lt j hj).2) hltx)
   have Hbx4 := kp (Hbx3.out.under Hb4.out)
   have Hbr4 := kp (Hbr3.out.under Hb4.out)
   have Hbe4 := kp (Hb3.out.trans (Hb4.out.mono Hb3.out.size))
   have Hown5r := kp (show w4.ownsRow (w.heap.size + 1 + 1 + 1) 41 1 (.slice A k c) k (xs.map ilV) by have := Hown5.out.1; rw [Hxl.out] at this; exact this)
   have hk1 : k < 1048576 * 64 := by omega
   have HneG := kp (show ∀ j, j < w.heap.size + 1 + 1 + 1 → (Value.slice A k c).ownBlock ≠ some j from fun j hj hh => by have := (Hown5r.out.lt j hh).1; omega)
   refine wpAnyT_one (i := 4) (o := ?op4) (by kernel_rfl) ?ap4 (by decide) (fun K hK => ?bp4)
   case ap4 => (simp only [List.getElem?_toArray, List.getElem?_cons_succ, List.getElem?_cons_zero]; exact rfl)
   go_simp
   refine hK.out _ _ ?_ (fun hHeld2 => ?_)
   ·exact ⟨⟨cell_keep ((Below.refl _ _).alloc (Nat.le_refl _) _) hHeld.1.1, by rw [frozen_below ((Below.refl _ _).alloc (Nat.le_refl w4.heap.size) _) _ _ hlt4]; exact hHeld.1.2⟩, cell_keep ((Below.refl _ _).alloc (Nat.le_refl _) _) hHeld.2.1, cell_keep ((Below.refl _ _).alloc (Nat.le_refl _) _) hHeld.2.2⟩
   clear hK K hHeld
   have hHeld := hHeld2
   clear hHeld2
   try simp only [Act.put, List.setIfInBounds_toArray, List.set_cons_zero, List.set_cons_succ]
   refine wpAnyT_one (i := 5) (o := ?op5) (by kernel_rfl) ?ap5 (by decide) (fun K hK => ?bp5)
   case ap5 => (simp only [List.getElem?_toArray, List.getElem?_cons_succ, List.getElem?_cons_zero]; exact rfl)
   refine step_append1 rfl (.tmp 18) (.tmp 21) 81 rfl (w.heap.size + 1 + 1 + 1) 41 i0 (.slice none 0 0) 24 Tryz.underlying81 ti0 tz0 tz1 tz2 rfl w4 (.slice A4 (sizesN (s.dims[k]'hkd)).length c4) rfl (.slice A k c) k (xs.map ilV) rfl Hown5r.out rfl hk1 (by decide) hlt4 ?_
   intro v5 w5 hown5 happ5
   obtain ⟨A5, c5, h5⟩ := own_form hown5
   subst h5
   have Hown6 := kp hown5
   have Hapl := kp happ5
   clear hown5 happ5
   go_simp
   refine hK.out _ _ ?_ (fun hHeld2 => ?_)
   ·have e1 := (Hapl.out.farK hlt4 (HneG.out _ (by omega)))
    have e2 := (Below.heap_alloc w4 (.cells #[.slice A4 (sizesN (s.dims[k]'hkd)).length c4] 41) _ hlt4)
    have hg54 : g5 < w4.heap.size := Nat.lt_of_lt_of_le hg5 Hb4.out.size
    have e3 := (Hapl.out.farK hg54 (Hne5.out))
    have e4 := (Below.heap_alloc w4 (.cells #[.slice A4 (sizesN (s.dims[k]'hkd)).length c4] 41) _ hg54)
    exact ⟨⟨(World.cell?_of_block (a := ⟨w.heap.size + 1 + 1, 0, none⟩) (e1.trans e2.symm)).trans hHeld.1.1, by have h := hHeld.1.2; unfold World.frozen? at h ⊢; rw [e1.trans e2.symm]; exact h⟩, (World.cell?_of_block (a := ⟨g5, 0, none⟩) (e3.trans e4.symm)).trans hHeld.2.1, (World.cell?_of_block (a := ⟨g5, 1, none⟩) (e3.trans e4.symm)).trans hHeld.2.2⟩
   clear hK K hHeld
   have hHeld := hHeld2
   clear hHeld2
   try simp only [Act.put, List.setIfInBounds_toArray, List.set_cons_zero, List.set_cons_succ]
   refine tk 6 hHeld ?_
   refine wpAnyT_last (o := ?op7) (by kernel_rfl) ?ap7 (by kernel_rfl) (fun K hK => ?bp7)
   case ap7 => (simp only [List.getElem?_toArray, List.getElem?_cons_succ, List.getElem?_cons_zero]; exact rfl)
   obtain ⟨⟨x1', x2'⟩, _⟩ := hHeld
   have hHeld := x1'
   go_simp
   refine hK.out _ _ ?_
   clear hK K hHeld
   refine NoPanic.normal ?_
   try simp only [Act.put, List.setIfInBounds_toArray, List.set_cons_zero, List.set_cons_succ]
   have HF := kp (IlsOwn.app (f := ⟨A4, sizesN (s.dims[k]'hkd), c4, agZero⟩) Hown5.out HN.out.1 HN.out.2 Hown6.out Hapl.out Hxl.out)
   have hne : w.heap.size + 1 ≠ w.heap.size + 1 + 1 := by omega
   go_wp2_with fail
   refine ⟨⟨k + 1, xs ++ [⟨A4, sizesN (s.dims[k]'hkd), c4, agZero⟩], A5, c5, by omega, by go_num, by rw [List.length_append, Hxl.out]; rfl, Hxn.out _ rfl, ?_, ?_, ?_, ?_⟩, by simp [intOf]; omega⟩
   ·exact (Below.heap_setCell w5 ⟨w.heap.size + 1 + 1, 0, none⟩ _ _ hne).trans ((Hapl.out.farK (by omega) (HneG.out _ (by omega))).trans Hbr4.out)
   ·exact Box.set (show Box w5 (w.heap.size + 1 + 1) 83 #[.slice A k c, .int .i64 (s.meas.length : Nat)] from (Hapl.out.farK hlt4 (HneG.out _ (by omega))).trans Hbx4.out) 0 (.slice A5 (k + 1) c5)
   ·exact HF.out.far (p := ⟨w.heap.size + 1 + 1, 0, none⟩) (by simp) _
   ·exact (Hapl.out.below Hbe4.out Hown5r.out (by omega) (by omega)).setCell (p := ⟨w.heap.size + 1 + 1, 0, none⟩) (by simp; omega) _
  ·obtain rfl : k = m := by omega
   obtain ⟨x0, x1, _, _⟩ := Hbx.out.two
   obtain ⟨q0, q1, f0, f1⟩ := Hbr.out.two
   have HF := kp (HQ.out A c xs)
   rw [Hxl.out] at HF
   have Hkeys := kp (show xs.map Fa.keys = s.dims.map sizesN by have := Hxk.out; rw [List.take_of_length_le (by rw [Hm.out]; exact Nat.le_refl _)] at this; exact this)
   have Hfo := kp (((Hown.out.far (p := ⟨w.heap.size + 1, 0, none⟩) (by simp <;> omega) (.slice A k c)).far (p := ⟨w.heap.size + 1, 1, none⟩) (by simp <;> omega) (.int .i64 (s.meas.length : Nat))).base (show w.heap.size ≤ w.heap.size + 1 + 1 + 1 by omega))
   have Hfb := kp ((Hbe.out.setCell (p := ⟨w.heap.size + 1, 0, none⟩) (by simp) (.slice A k c)).setCell (p := ⟨w.heap.size + 1, 1, none⟩) (by simp) (.int .i64 (s.meas.length : Nat)))
   go_wp2_with fail
   have hbf : Box ((wr.setCell ⟨w.heap.size + 1, 0, none⟩ (.slice A k c)).setCell ⟨w.heap.size + 1, 1, none⟩ (.int .i64 (s.meas.length : Nat))) (w.heap.size + 1) 83 #[.slice A k c, .int .i64 (s.meas.length : Nat)] := (Hbr.out.set 0 (.slice A k c)).set 1 (.int .i64 (s.meas.length : Nat))
   clear q0 q1
   obtain ⟨q0, q1, _, _⟩ := hbf.two
   refine bodyPost_ret (v := .agg #[.slice A k c, .int .i64 (s.meas.length : Nat)]) (by simp [results, Tryz.results27, go_sem, q0, q1]) rfl (HF.out _ Hfo.out Hkeys.out Hfb.out)
structure SzOk (l : List Nat) : Prop where
 n1 : 1 ≤ l.length
 n2 : l.length ≤ 4
 each : ∀ j (h : j < l.length), 1 ≤ l[j] ∧ l[j] ≤ 200
 fall : ∀ j (h : j + 1 < l.length), l[j + 1] ≤ l[j]
structure ShOk (xs : List Fa) (m : Nat) : Prop where
 n1 : 1 ≤ xs.length
 n2 : xs.length ≤ 16
 m1 : 1 ≤ m
 m2 : m ≤ 3
 each : ∀ x ∈ xs, SzOk x.keys
set_option maxRecDepth 100000 in
set_option maxHeartbeats 4000000 in
theorem may_any (A : Option Addr) (c m : Nat) (xs : List Fa) (w : World) (h : IlsAt w w.heap.size A xs) (ho : ShOk xs m) :
 Calls Tryz.prog 61 #[.agg #[.slice A xs.length c, .int .i64 m]] w fun e w' => e = .returned (.bool true) ∧ Below w.heap.size w w' := by
 have hb0 := (Below.refl w.heap.size w).alloc (Nat.le_refl _) (.cells #[.slice A xs.length c, .int .i64 m] 83)
 have HB := kp (Box.new w 83 #[.slice A xs.length c, .int .i64 m])
 have Hb0 := kp hb0
 have H0 := kp ((h.below hb0).more hb0.size)
 have Ho := kp ho
 have h1 := ho.n1
 have h2 := ho.n2
 have h3 := ho.m1
 have h4 := ho.m2
 clear h ho hb0
 obtain ⟨n, hn⟩ : ∃ n, xs.length = n := ⟨_, rfl⟩
 have Hn := kp hn
 rw [hn] at HB Hb0 H0 h1 h2 ⊢
 clear hn
 have q1 : ¬ (n : Int) < 1 := by omega
 have q1d : decide ((n : Int) < 1) = false := decide_eq_false q1
 have q2 : ¬ (16 : Int) < (n : Int) := by omega
 have q2d : decide ((16 : Int) < (n : Int)) = false := decide_eq_false q2
 have q3 : ¬ (m : Int) < 1 := by omega
 have q3d : decide ((m : Int) < 1) = false := decide_eq_false q3
 have q4 : ¬ (3 : Int) < (m : Int) := by omega
 have q4d : decide ((3 : Int) < (m : Int)) = false := decide_eq_false q4
 go_enter Tryz.func61, Tryz.ntmps61
 go_wp2_with fail
 clear q1 q1d q2 q2d q3 q3d q4 q4d
 generalize w.alloc (.cells #[.slice A n c, .int .i64 m] 83) = W0 at *
 go_loop [30] (fun v30 => ∃ k : Nat, k ≤ n ∧ v30 = .int .i64 k) (fun v30 => n - (intOf v30).toNat)
 case atStart => exact ⟨0, Nat.zero_le _, rfl⟩
 case round =>
  obtain ⟨k, hk, rfl⟩ := hrel
  by_cases hlt : k < n
  ·have hkx : k < xs.length := by rw [Hn.out]; exact hlt
   obtain ⟨b, off, rfl, hb, c0⟩ := Row.at_ H0.out.row (k := k) (by rw [List.length_map]; exact hkx)
   rw [List.getElem_map] at c0
   have hok := Ho.out.each _ (List.getElem_mem hkx)
   have hrow := H0.out.each _ (List.getElem_mem hkx)
   have Hok := kp hok
   have Hrow := kp hrow
   unfold ilV at c0
   generalize (xs[k]'hkx) = x at *
   have h5 := hok.n1
   have h6 := hok.n2
   clear hok hrow
   obtain ⟨l, hl⟩ : ∃ l, x.keys.length = l := ⟨_, rfl⟩
   have Hl := kp hl
   rw [hl] at h5 h6 c0
   clear hl
   have hi0 : (0 : Int) ≤ (k : Int) := by omega
   have hi1 : (k : Int) < (n : Int) := by omega
   have q1 : ¬ (l : Int) < 1 := by omega
   have q1d : decide ((l : Int) < 1) = false := decide_eq_false q1
   have q2 : ¬ (4 : Int) < (l : Int) := by omega
   have q2d : decide ((4 : Int) < (l : Int)) = false := decide_eq_false q2
   go_wp2_with fail
   clear q1 q1d q2 q2d c0
   go_loop [44] (fun v44 => ∃ j : Nat, j ≤ l ∧ v44 = .int .i64 j) (fun v44 => l - (intOf v44).toNat)
   case atStart => exact ⟨0, Nat.zero_le _, rfl⟩
   case round =>
    obtain ⟨j, hj, rfl⟩ := hrel
    by_cases hjl : j < l
    ·have hjx : j < x.keys.length := by rw [Hl.out]; exact hjl
     obtain ⟨be, oe, hAe, hbe, d0⟩ := Row.at_ Hrow.out (k := j) (by rw [natV_len]; exact hjx)
     unfold natV at d0
     rw [List.getElem_map] at d0
     obtain ⟨e1, e2⟩ := Hok.out.each j hjx
     have p0 : (0 : Int) ≤ (j : Int) := by omega
     have p1 : (j : Int) < (l : Int) := by omega
     rcases j with _ | j
     ·rw [Nat.add_zero] at d0
      generalize (x.keys[0]'hjx) = y at *
      have q1 : ¬ (y : Int) < 1 := by omega
      have q1d : decide ((y : Int) < 1) = false := decide_eq_false q1
      have q2 : ¬ (200 : Int) < (y : Int) := by omega
      have q2d : decide ((200 : Int) < (y : Int)) = false := decide_eq_false q2
      rw [hAe]
      go_wp2_with fail
      exact ⟨⟨1, by omega, by go_num⟩, by simp [intOf]; omega⟩
     ·have hjx' : j < x.keys.length := by omega
      obtain ⟨be', oe', hAe', hbe', d1⟩ := Row.at_ Hrow.out (k := j) (by rw [natV_len]; exact hjx')
      rw [hAe] at hAe'
      injection hAe' with hAe'
      injection hAe' with ha1 ha2 _
      subst ha1 ha2
      unfold natV at d1
      rw [List.getElem_map] at d1
      have hfl := Hok.out.fall j hjx
      generalize (x.keys[j + 1]'hjx) = y at *
      generalize (x.keys[j]'hjx') = z at *
      have q1 : ¬ (y : Int) < 1 := by omega
      have q1d : decide ((y : Int) < 1) = false := decide_eq_false q1
      have q2 : ¬ (200 : Int) < (y : Int) := by omega
      have q2d : decide ((200 : Int) < (y : Int)) = false := decide_eq_false q2
      have q3 : ¬ (z : Int) < (y : Int) := by omega
      have q3d : decide ((z : Int) < (y : Int)) = false := decide_eq_false q3
      have q4 : decide (z < y) = false := decide_eq_false (by omega)
      have p2 : (0 : Int) ≤ (j : Int) := by omega
      have p3 : (j : Int) < (l : Int) := by omega
      have p4 : (0 : Int) < (j : Int) + 1 := by omega
      have p5 : decide ((0 : Int) < (j : Int) + 1) = true := decide_eq_true p4
      rw [hAe]
      go_wp2_with fail
      exact ⟨⟨j + 2, by omega, by go_num⟩, by simp [intOf]; omega⟩
    ·obtain rfl : j = l := by omega
     go_wp2_with fail
     exact ⟨⟨k + 1, by omega, by go_num⟩, by simp [intOf]; omega⟩
  ·obtain rfl : k = n := by omega
   have Hf := kp Hb0.out
   go_wp2_with fail
   go_ret
   exact ⟨rfl, Hf.out⟩
section
theorem part_0 (a0 a1 a2 a3 a4 a5 a6 a7 a8 : Int) (w : World) : (Instr.index 45 (.agg #[.int .i64 a0, .int .i64 a1, .int .i64 a2, .int .i64 a3, .int .i64 a4, .int .i64 a5, .int .i64 a6, .int .i64 a7, .int .i64 a8]) (.int .i64 0)).run Tryz.prog w = .ok (.agg #[.int .i64 a0, .int .i64 a1, .int .i64 a2]) w := by
 simp [Instr.index, go_sem]
theorem part_1 (a0 a1 a2 a3 a4 a5 a6 a7 a8 : Int) (w : World) : (Instr.index 45 (.agg #[.int .i64 a0, .int .i64 a1, .int .i64 a2, .int .i64 a3, .int .i64 a4, .int .i64 a5, .int .i64 a6, .int .i64 a7, .int .i64 a8]) (.int .i64 1)).run Tryz.prog w = .ok (.agg #[.int .i64 a3, .int .i64 a4, .int .i64 a5]) w := by
 simp [Instr.index, go_sem]
theorem part_2 (a0 a1 a2 a3 a4 a5 a6 a7 a8 : Int) (w : World) : (Instr.index 45 (.agg #[.int .i64 a0, .int .i64 a1, .int .i64 a2, .int .i64 a3, .int .i64 a4, .int .i64 a5, .int .i64 a6, .int .i64 a7, .int .i64 a8]) (.int .i64 2)).run Tryz.prog w = .ok (.agg #[.int .i64 a6, .int .i64 a7, .int .i64 a8]) w := by
 simp [Instr.index, go_sem]
attribute [local go_sem] part_0 part_1 part_2
structure AgOk (m : Nat) (a : Ag) : Prop where
 c : 1 ≤ a.c
 le : ∀ k, k < 3 → k < m → pn a k ≤ px a k
 one : ∀ k, k < 3 → k < m → a.c = 1 → ps a k = pn a k ∧ ps a k = px a k
 none : ∀ k, k < 3 → m ≤ k → ps a k = 0 ∧ pn a k = 0 ∧ px a k = 0
set_option maxRecDepth 100000 in
set_option maxHeartbeats 4000000 in
theorem agmay_any (m : Nat) (a : Ag) (w : World) (hm1 : 1 ≤ m) (hm : m ≤ 3) (ho : AgOk m a) :
 Calls Tryz.prog 92 #[.int .i64 m, .agg (agC a)] w fun e w' => e = .returned (.bool true) ∧ Below w.heap.size w w' := by
 obtain ⟨c, s0, n0, x0, s1, n1, x1, s2, n2, x2⟩ := a
 have Ho := kp ho
 have h1 := ho.c
 have hb0 := (Below.refl w.heap.size w).alloc (Nat.le_refl _) (.cells (agC ⟨c, s0, n0, x0, s1, n1, x1, s2, n2, x2⟩) 47)
 have HB := kp (Box.new w 47 (agC ⟨c, s0, n0, x0, s1, n1, x1, s2, n2, x2⟩))
 have Hb0 := kp hb0
 clear ho hb0
 have q1 : ¬ (m : Int) < 0 := by omega
 have q1d : decide ((m : Int) < 0) = false := decide_eq_false q1
 have q2 : ¬ (3 : Int) < (m : Int) := by omega
 have q2d : decide ((3 : Int) < (m : Int)) = false := decide_eq_false q2
 have q3 : ¬ c < 1 := by dsimp only at h1; omega
 have q3d : decide (c < 1) = false := decide_eq_false q3
 go_enter Tryz.func92, Tryz.ntmps92
 go_wp2_with fail
 generalize w.alloc (.cells (agC ⟨c, s0, n0, x0, s1, n1, x1, s2, n2, x2⟩) 47) = W0 at *
 clear q1 q1d q2 q2d q3 q3d
 go_loopw [20] (fun v20 wr => ∃ k : Nat, k ≤ 3 ∧ v20 = .int .i64 k ∧ Box wr w.heap.size 47 (agC ⟨c, s0, n0, x0, s1, n1, x1, s2, n2, x2⟩) ∧ Below w.heap.size w wr) (fun v20 _ => 3 - (intOf v20).toNat)
 case atStart => exact ⟨0, by omega, rfl, HB.out, Hb0.out⟩
 case round =>
  clear HB Hb0
  obtain ⟨k, hk, rfl, hbx, hbe⟩ := hrel
  have Hbx := kp hbx
  have Hbe := kp hbe
  obtain ⟨⟨a0, a1, a2, a3, a4, a5, a6, a7, a8, a9⟩, _⟩ := Box.ten hbx
  have hsz : w.heap.size < wr.heap.size := Hbx.out.lt
  clear hbx hbe
  by_cases hlt : k < 3
  ·match k, hlt with
   | 0, _ => ?_
   | 1, _ => ?_
   | 2, _ => ?_
   ·by_cases km : 0 < m
    ·have hle : n0 ≤ x0 := Ho.out.le 0 (by omega) km
     have hone : c = 1 → s0 = n0 ∧ s0 = x0 := Ho.out.one 0 (by omega) km
     have r1 : ¬ (m : Int) ≤ 0 := by omega
     have r1d : decide ((m : Int) ≤ 0) = false := decide_eq_false r1
     have r2 : (0 : Int) < (m : Int) := by omega
     have r2d : decide ((0 : Int) < (m : Int)) = true := decide_eq_true r2
     have r3 : ¬ x0 < n0 := by omega
     have r3d : decide (x0 < n0) = false := decide_eq_false r3
     by_cases hc : c = 1
     ·obtain ⟨e1, e2⟩ := hone hc
      subst e1
      subst e2
      subst hc
      clear hle hone
      go_wp2_with fail
      exact ⟨⟨0 + 1, by omega, by go_num, (Hbx.out.alloc _), (Hbe.out.alloc Hbe.out.size _)⟩, by simp [intOf]⟩
     ·have hcd : (c == 1) = false := by simp; exact hc
      clear hle hone
      go_wp2_with fail
      exact ⟨⟨0 + 1, by omega, by go_num, (Hbx.out.alloc _), (Hbe.out.alloc Hbe.out.size _)⟩, by simp [intOf]⟩
    ·exact absurd hm1 (by omega)
   ·by_cases km : 1 < m
    ·have hle : n1 ≤ x1 := Ho.out.le 1 (by omega) km
     have hone : c = 1 → s1 = n1 ∧ s1 = x1 := Ho.out.one 1 (by omega) km
     have r1 : ¬ (m : Int) ≤ 1 := by omega
     have r1d : decide ((m : Int) ≤ 1) = false := decide_eq_false r1
     have r2 : (1 : Int) < (m : Int) := by omega
     have r2d : decide ((1 : Int) < (m : Int)) = true := decide_eq_true r2
     have r3 : ¬ x1 < n1 := by omega
     have r3d : decide (x1 < n1) = false := decide_eq_false r3
     by_cases hc : c = 1
     ·obtain ⟨e1, e2⟩ := hone hc
      subst e1
      subst e2
      subst hc
      clear hle hone
      go_wp2_with fail
      exact ⟨⟨1 + 1, by omega, by go_num, (Hbx.out.alloc _), (Hbe.out.alloc Hbe.out.size _)⟩, by simp [intOf]⟩
     ·have hcd : (c == 1) = false := by simp; exact hc
      clear hle hone
      go_wp2_with fail
      exact ⟨⟨1 + 1, by omega, by go_num, (Hbx.out.alloc _), (Hbe.out.alloc Hbe.out.size _)⟩, by simp [intOf]⟩
    ·obtain ⟨e1, e2, e3⟩ := Ho.out.none 1 (by omega) (by omega)
     change s1 = 0 at e1
     change n1 = 0 at e2
     change x1 = 0 at e3
     subst e1
     subst e2
     subst e3
     have r1 : (m : Int) ≤ 1 := by omega
     have r1d : decide ((m : Int) ≤ 1) = true := decide_eq_true r1
     have r2 : ¬ (1 : Int) < (m : Int) := by omega
     have r2d : decide ((1 : Int) < (m : Int)) = false := decide_eq_false r2
     go_wp2_with fail
     exact ⟨⟨1 + 1, by omega, by go_num, (Hbx.out.alloc _), (Hbe.out.alloc Hbe.out.size _)⟩, by simp [intOf]⟩
   ·by_cases km : 2 < m
    ·have hle : n2 ≤ x2 := Ho.out.le 2 (by omega) km
     have hone : c = 1 → s2 = n2 ∧ s2 = x2 := Ho.out.one 2 (by omega) km
     have r1 : ¬ (m : Int) ≤ 2 := by omega
     have r1d : decide ((m : Int) ≤ 2) = false := decide_eq_false r1
     have r2 : (2 : Int) < (m : Int) := by omega
     have r2d : decide ((2 : Int) < (m : Int)) = true := decide_eq_true r2
     have r3 : ¬ x2 < n2 := by omega
     have r3d : decide (x2 < n2) = false := decide_eq_false r3
     by_cases hc : c = 1
     ·obtain ⟨e1, e2⟩ := hone hc
      subst e1
      subst e2
      subst hc
      clear hle hone
      go_wp2_with fail
      exact ⟨⟨2 + 1, by omega, by go_num, (Hbx.out.alloc _), (Hbe.out.alloc Hbe.out.size _)⟩, by simp [intOf]⟩
     ·have hcd : (c == 1) = false := by simp; exact hc
      clear hle hone
      go_wp2_with fail
      exact ⟨⟨2 + 1, by omega, by go_num, (Hbx.out.alloc _), (Hbe.out.alloc Hbe.out.size _)⟩, by simp [intOf]⟩
    ·obtain ⟨e1, e2, e3⟩ := Ho.out.none 2 (by omega) (by omega)
     change s2 = 0 at e1
     change n2 = 0 at e2
     change x2 = 0 at e3
     subst e1
     subst e2
     subst e3
     have r1 : (m : Int) ≤ 2 := by omega
     have r1d : decide ((m : Int) ≤ 2) = true := decide_eq_true r1
     have r2 : ¬ (2 : Int) < (m : Int) := by omega
     have r2d : decide ((2 : Int) < (m : Int)) = false := decide_eq_false r2
     go_wp2_with fail
     exact ⟨⟨2 + 1, by omega, by go_num, (Hbx.out.alloc _), (Hbe.out.alloc Hbe.out.size _)⟩, by simp [intOf]⟩
  ·obtain rfl : k = 3 := by omega
   go_wp2_with fail
   go_ret
   exact ⟨rfl, Hbe.out⟩
end
structure FaOk (xs : List Fa) (m : Nat) (f : Fa) : Prop where
 n : f.keys.length = xs.length
 lt : ∀ i (h : i < f.keys.length) (h' : i < xs.length), ∃ h0 : 0 < xs[i].keys.length, f.keys[i] < xs[i].keys[0]
 ag : AgOk m f.ag
set_option maxRecDepth 100000 in
set_option maxHeartbeats 4000000 in
theorem factcheck_any (A : Option Addr) (c m : Nat) (xs : List Fa) (f : Fa) (w : World) (h : IlsAt w w.heap.size A xs) (hr : Row w w.heap.size f.A (natV f.keys)) (hn16 : xs.length ≤ 16) (hm1 : 1 ≤ m) (hm : m ≤ 3) (ho : FaOk xs m f) :
 Calls Tryz.prog 60 #[.agg #[.slice A xs.length c, .int .i64 m], .agg (factC f)] w fun e w' => e = .returned (.int .i64 0) ∧ Below w.heap.size w w' := by
 have hb1 := (Below.refl w.heap.size w).alloc (Nat.le_refl _) (.cells #[.slice A xs.length c, .int .i64 m] 83)
 have hb0 := hb1.alloc hb1.size (.cells (factC f) 78)
 have HB2 := kp ((Box.new w 83 #[.slice A xs.length c, .int .i64 m]).alloc (.cells (factC f) 78))
 have HB3 := kp (Box.lay (w := w.alloc (.cells #[.slice A xs.length c, .int .i64 m] 83)) (g := w.heap.size + 1) (t := 78) (cs := factC f) (by simp))
 have Hb0 := kp hb0
 have H0 := kp ((h.below hb0).more hb0.size)
 have HR0 := kp ((hr.below hb0).more hb0.size)
 have Ho := kp ho
 have HA := kp (fun w => agmay_any m f.ag w hm1 hm ho.ag)
 have hkn := ho.n
 clear h hr ho hb0 hb1
 obtain ⟨n, hn⟩ : ∃ n, xs.length = n := ⟨_, rfl⟩
 have Hn := kp hn
 have Hkn := kp hkn
 unfold factC at HB2 HB3 Hb0 H0 HR0 ⊢
 rw [hkn] at HB2 HB3 Hb0 H0 HR0 ⊢
 rw [hn] at HB2 HB3 Hb0 H0 HR0 hn16 ⊢
 clear hn hkn
 have hnn : ((n : Int) == (n : Int)) = true := by simp
 go_enter Tryz.func60, Tryz.ntmps60
 go_wp2_with fail
 generalize (w.alloc (.cells #[.slice A n c, .int .i64 m] 83)).alloc (.cells #[.slice f.A n f.c, .int .i64 f.ag.c, .int .i64 f.ag.s0, .int .i64 f.ag.n0, .int .i64 f.ag.x0, .int .i64 f.ag.s1, .int .i64 f.ag.n1, .int .i64 f.ag.x1, .int .i64 f.ag.s2, .int .i64 f.ag.n2, .int .i64 f.ag.x2] 78) = W0 at *
 obtain ⟨b0, b1, _, _⟩ := HB2.out.two
 obtain ⟨d0, d1, d2, d3, d4, d5, d6, d7, d8, d9, d10⟩ := Box.eleven HB3.out
 go_loop [17] (fun v17 => ∃ k : Nat, k ≤ n ∧ v17 = .int .i64 k) (fun v17 => n - (intOf v17).toNat)
 case atStart => exact ⟨0, Nat.zero_le _, rfl⟩
 case round =>
  obtain ⟨k, hk, rfl⟩ := hrel
  by_cases hlt : k < n
  ·have hkx : k < xs.length := by rw [Hn.out]; exact hlt
   have hkf : k < f.keys.length := by rw [Hkn.out]; exact hkx
   obtain ⟨bx, ox, hA, hbx, c0⟩ := Row.at_ H0.out.row (k := k) (by rw [List.length_map]; exact hkx)
   rw [List.getElem_map] at c0
   obtain ⟨bf, of, hAf, hbf, e0⟩ := Row.at_ HR0.out (k := k) (by rw [natV_len]; exact hkf)
   unfold natV at e0
   rw [List.getElem_map] at e0
   obtain ⟨h0, hl⟩ := Ho.out.lt k hkf hkx
   obtain ⟨bs, os, hAs, hbs, g0⟩ := Row.at_ (H0.out.each _ (List.getElem_mem hkx)) (k := 0) (by rw [natV_len]; exact h0)
   unfold natV at g0
   rw [List.getElem_map, Nat.add_zero] at g0
   unfold ilV at c0
   rw [hAs] at c0
   rw [hA] at b0
   rw [hAf]
   generalize (f.keys[k]'hkf) = y at *
   generalize ((xs[k]'hkx).keys[0]'h0) = z at *
   generalize (xs[k]'hkx).keys.length = l at *
   generalize (xs[k]'hkx).c = xc at *
   have q1 : ((l : Int) == 0) = false := by simp; omega
   have q2 : ¬ (y : Int) < 0 := by omega
   have q2d : decide ((y : Int) < 0) = false := decide_eq_false q2
   have q3 : ¬ (z : Int) ≤ (y : Int) := by omega
   have q3d : decide ((z : Int) ≤ (y : Int)) = false := decide_eq_false q3
   have q4d : decide (z ≤ y) = false := decide_eq_false (by omega)
   have p0 : (0 : Int) ≤ (k : Int) := by omega
   have p1 : (k : Int) < (n : Int) := by omega
   have p2 : (0 : Int) < (l : Int) := by omega
   go_wp2_with fail
   exact ⟨⟨k + 1, by omega, by go_num⟩, by simp [intOf]; omega⟩
  ·obtain rfl : k = n := by omega
   go_wp2_with fail
   refine (HA.out _).mono ?_
   rintro e w3 ⟨rfl, hb3⟩
   have Hf := kp (Hb0.out.trans (hb3.mono Hb0.out.size))
   clear hb3
   go_wp2_with fail
   go_ret
   exact ⟨rfl, Hf.out⟩
end Go.Proofs.YthmbgbmcdbdecaaGreat.Tc
