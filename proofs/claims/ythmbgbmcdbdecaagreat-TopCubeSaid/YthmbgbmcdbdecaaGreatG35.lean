/- Parts of a proof: Layer 27: an arena, made. Layer 27: a cube, built. -/
import Derived.Test.YthmbgbmcdbdecaaGreatG05
import Derived.Test.YthmbgbmcdbdecaaGreatG21
import Derived.Test.YthmbgbmcdbdecaaGreatG22
import Derived.Test.YthmbgbmcdbdecaaGreatG32
import Derived.Test.YthmbgbmcdbdecaaGreatG34
namespace Go.Proofs.YthmbgbmcdbdecaaGreat.Tc
open Go.RowKit Base
set_option linter.unusedVariables false
set_option linter.unusedSimpArgs false
def NewRet (xs : List Fa) (m most : Nat) (w : World) (e : Ending) (w' : World) : Prop := ∃ (ga : Nat) (A : Option Addr) (c : Nat) (ys : List Fa), e = .returned (.tuple #[.pointer (some ⟨ga, 0, none⟩), .int .i64 0]) ∧ Box w' ga 138 (arC A ys.length c m none 0 0 most) ∧ IlsOwn w' w.heap.size (.slice A ys.length c) ys ∧ ys.map Fa.keys = xs.map Fa.keys ∧ Below w.heap.size w w' ∧ w.heap.size ≤ ga ∧ ∀ k, foot A ys k → k ≠ ga
set_option maxRecDepth 100000 in
set_option maxHeartbeats 4000000 in
theorem new_any (A : Option Addr) (c m most : Nat) (xs : List Fa) (w : World) (h : IlsAt w w.heap.size A xs) (ho : ShOk xs m) (hmost : most ≤ 131072) : Calls Tryz.prog 29 #[.agg #[.slice A xs.length c, .int .i64 (m : Nat)], .int .i64 (most : Nat)] w (NewRet xs m most w) := by
 obtain ⟨i0, ti0, tz0, tz1, tz2⟩ := info_parts info_ints
 have HQ := kp (show ∀ ga A c ys w', Box w' ga 138 (arC A ys.length c m none 0 0 most) → IlsOwn w' w.heap.size (.slice A ys.length c) ys → ys.map Fa.keys = xs.map Fa.keys → Below w.heap.size w w' → w.heap.size ≤ ga → (∀ k, foot A ys k → k ≠ ga) → NewRet xs m most w (.returned (.tuple #[.pointer (some ⟨ga, 0, none⟩), .int .i64 0])) w' from fun ga A c ys w' h1 h2 h3 h4 h5 h6 => ⟨ga, A, c, ys, rfl, h1, h2, h3, h4, h5, h6⟩)
 have Hh := kp h
 have hn16 := ho.n2
 have Hsz := kp (show ∀ x ∈ xs, x.keys.length ≤ 1000000 from fun x hx => by have := (ho.each x hx).n2; omega)
 have hb0 := (Below.refl w.heap.size w).alloc (Nat.le_refl _) (.cells #[.slice A xs.length c, .int .i64 (m : Nat)] 83)
 have HB := kp (Box.new w 83 #[.slice A xs.length c, .int .i64 (m : Nat)])
 have HM := kp (may_any A c m xs _ ((h.below hb0).more hb0.size) ho)
 have Hb0 := kp hb0
 clear h ho hb0
 generalize hQ : NewRet xs m most w = Q at *
 clear hQ
 obtain ⟨z0, z1, _, _⟩ := HB.out.two
 obtain ⟨n, hn⟩ : ∃ n, xs.length = n := ⟨_, rfl⟩
 have Hn := kp hn
 rw [hn] at z0 z1 hn16 HB Hb0 HM ⊢
 clear hn
 have q1 : ¬ (most : Int) < 0 := by omega
 have q2 : ¬ (131072 : Int) < (most : Int) := by omega
 have q1d : decide ((most : Int) < 0) = false := decide_eq_false q1
 have q2d : decide ((131072 : Int) < (most : Int)) = false := decide_eq_false q2
 generalize hW0 : w.alloc (.cells #[.slice A n c, .int .i64 (m : Nat)] 83) = W0 at *
 go_enter Tryz.func29, Tryz.ntmps29
 go_wp2_with fail
 refine HM.out.mono ?_
 rintro e w1 ⟨rfl, hb1⟩
 clear z0 z1 hW0
 obtain ⟨z0, z1, _, _⟩ := (HB.out.under hb1).two
 have Hb1 := kp (Hb0.out.trans (hb1.mono Hb0.out.size))
 have HbW := kp hb1
 clear hb1
 have HBz := kp (Box.new w1 83 #[.slice none 0 0, .int .i64 (m : Nat)])
 have Hb2 := kp (Hb1.out.alloc Hb1.out.size (.cells #[.slice none 0 0, .int .i64 (m : Nat)] 83))
 have HgS := kp (show w.heap.size ≤ w1.heap.size from Hb1.out.size)
 have HB2 := kp ((HB.out.under (show Below W0.heap.size W0 w1 from HbW.out)).alloc (.cells #[.slice none 0 0, .int .i64 (m : Nat)] 83))
 generalize hW2 : w1.alloc (.cells #[.slice none 0 0, .int .i64 (m : Nat)] 83) = W2 at *
 obtain ⟨y0, y1, _, _⟩ := HB2.out.two
 go_wp2_with fail
 clear z0 z1 y0 y1 hW2 q1 q2 q1d q2d HbW HB2
 generalize w1.heap.size = gS at *
 go_loopw [26] (fun v26 wr => ∃ (k : Nat) (ys : List Fa) (A' : Option Addr) (c' : Nat), k ≤ n ∧ v26 = .int .i64 k ∧ ys.length = k ∧ ys.map Fa.keys = (xs.take k).map Fa.keys ∧ Box wr gS 83 #[.slice A' k c', .int .i64 (m : Nat)] ∧ IlsOwn wr (gS + 1) (.slice A' k c') ys ∧ Below w.heap.size w wr) (fun v26 _ => n - (intOf v26).toNat)
 case atStart => exact ⟨0, [], none, 0, Nat.zero_le _, rfl, rfl, rfl, HBz.out, IlsOwn.nil _ _, Hb2.out⟩
 case round =>
  obtain ⟨k, ys, A', c', hk, rfl, hyl, hyk, hbx, hown, hbe⟩ := hrel
  have Hyl := kp hyl
  have Hyk := kp hyk
  have Hbx := kp hbx
  have Hown := kp hown
  have Hbe := kp hbe
  clear hyl hyk hbx hown hbe
  by_cases hlt : k < n
  ·have hkd : k < xs.length := by rw [Hn.out]; exact hlt
   have hat := (Hh.out.below Hbe.out).more Hbe.out.size
   obtain ⟨b, off, hA, hb, c0⟩ := Row.at_ hat.row (k := k) (by rw [List.length_map]; exact hkd)
   rw [List.getElem_map] at c0
   unfold ilV at c0
   have HCk := kp (fun W (hW : Below wr.heap.size wr W) => cloneInts_any (xs[k]'hkd).A (xs[k]'hkd).c (xs[k]'hkd).keys W (Hsz.out _ (List.getElem_mem hkd)) (((hat.each _ (List.getElem_mem hkd)).below hW).more hW.size))
   have Hyn := kp (show ∀ f : Fa, f.keys = (xs[k]'hkd).keys → (ys ++ [f]).map Fa.keys = (xs.take (k + 1)).map Fa.keys from fun f hf => by rw [List.take_succ_eq_append_getElem hkd, List.map_append, List.map_append, Hyk.out, List.map_cons, List.map_nil, List.map_cons, List.map_nil, hf])
   generalize (xs[k]'hkd).A = xA at *
   generalize (xs[k]'hkd).keys = xk at *
   generalize (xs[k]'hkd).c = xc at *
   have hi0 : (0 : Int) ≤ (k : Int) := by omega
   have hi1 : (k : Int) < (n : Int) := by omega
   rw [hA]
   clear hat hA
   go_upto_region 7 with fail
   clear c0
   obtain ⟨x0, x1, f0, _⟩ := Hbx.out.two
   have hltx : gS < wr.heap.size := Hbx.out.lt
   have HCk3 := kp (HCk.out wr.drew (Below.refl _ _).drew)
   refine wp_region_noPanic ?_
   refine wp_region_T (t := 7) (S := (fun w' => w'.cell? ⟨gS, 0, none⟩ = some (.slice A' k c') ∧ w'.frozen? ⟨gS, 0, none⟩ = false)) (by kernel_rfl) ⟨x0, f0⟩ (fun hHeld => ?_)
   refine tk 0 hHeld ?_
   refine tk 1 hHeld ?_
   refine tk 2 hHeld ?_
   refine wpAnyT_one (i := 3) (o := ?op3) (by kernel_rfl) ?ap3 (by decide) (fun K hK => ?bp3)
   case ap3 => (simp only [List.getElem?_toArray, List.getElem?_cons_succ, List.getElem?_cons_zero]; exact rfl)
   go_simp
   refine HCk3.out.mono ?_
   rintro e w4 ⟨v4, rfl, hown4, hb4⟩
   obtain ⟨A4, c4, rfl⟩ := own_form hown4
   have Hown4 := kp hown4
   have Hb4 := kp (show Below wr.heap.size wr w4 from (Below.refl _ _).drew.trans hb4)
   clear hown4 hb4
   refine hK.out _ _ ?_ (fun hHeld2 => ?_)
   ·exact ⟨cell_keep Hb4.out hHeld.1, by rw [frozen_below Hb4.out _ _ hltx]; exact f0⟩
   clear hK K hHeld
   have hHeld := hHeld2
   clear hHeld2
   try simp only [Act.put, List.setIfInBounds_toArray, List.set_cons_zero, List.set_cons_succ]
   have hlt4 : gS < w4.heap.size := Nat.lt_of_lt_of_le hltx Hb4.out.size
   have Hown5 := kp (Hown.out.below Hb4.out)
   have HN := kp (il_new (n := 0) (w := w4) (v := .slice A' k c') (B0 := gS + 1) Hown4.out (fun j hj => (Hown.out.1.lt j hj).2) hltx)
   have Hbx4 := kp (Hbx.out.under Hb4.out)
   have Hbe4 := kp (Hbe.out.trans (Hb4.out.mono Hbe.out.size))
   have Hown5r := kp (show w4.ownsRow (gS + 1) 41 1 (.slice A' k c') k (ys.map ilV) by have := Hown5.out.1; rw [Hyl.out] at this; exact this)
   have hk1 : k < 1048576 * 64 := by omega
   have HneG := kp (show (Value.slice A' k c').ownBlock ≠ some gS from fun hh => by have := (Hown5r.out.lt gS hh).1; omega)
   refine wpAnyT_one (i := 4) (o := ?op4) (by kernel_rfl) ?ap4 (by decide) (fun K hK => ?bp4)
   case ap4 => (simp only [List.getElem?_toArray, List.getElem?_cons_succ, List.getElem?_cons_zero]; exact rfl)
   go_simp
   refine hK.out _ _ ?_ (fun hHeld2 => ?_)
   ·exact ⟨cell_keep ((Below.refl _ _).alloc (Nat.le_refl _) _) hHeld.1, by rw [frozen_below ((Below.refl _ _).alloc (Nat.le_refl w4.heap.size) _) _ _ hlt4]; exact hHeld.2⟩
   clear hK K hHeld
   have hHeld := hHeld2
   clear hHeld2
   try simp only [Act.put, List.setIfInBounds_toArray, List.set_cons_zero, List.set_cons_succ]
   refine wpAnyT_one (i := 5) (o := ?op5) (by kernel_rfl) ?ap5 (by decide) (fun K hK => ?bp5)
   case ap5 => (simp only [List.getElem?_toArray, List.getElem?_cons_succ, List.getElem?_cons_zero]; exact rfl)
   refine step_append1 rfl (.tmp 31) (.tmp 34) 81 rfl (gS + 1) 41 i0 (.slice none 0 0) 24 Tryz.underlying81 ti0 tz0 tz1 tz2 rfl w4 (.slice A4 xk.length c4) rfl (.slice A' k c') k (ys.map ilV) rfl Hown5r.out rfl hk1 (by decide) hlt4 ?_
   intro v5 w5 hown5 happ5
   obtain ⟨A5, c5, h5⟩ := own_form hown5
   subst h5
   have Hown6 := kp hown5
   have Hapl := kp happ5
   clear hown5 happ5
   go_simp
   refine hK.out _ _ ?_ (fun hHeld2 => ?_)
   ·have e1 := (Hapl.out.farK hlt4 HneG.out)
    have e2 := (Below.heap_alloc w4 (.cells #[.slice A4 xk.length c4] 41) _ hlt4)
    exact ⟨(World.cell?_of_block (a := ⟨gS, 0, none⟩) (e1.trans e2.symm)).trans hHeld.1, by have h := hHeld.2; unfold World.frozen? at h ⊢; rw [e1.trans e2.symm]; exact h⟩
   clear hK K hHeld
   have hHeld := hHeld2
   clear hHeld2
   try simp only [Act.put, List.setIfInBounds_toArray, List.set_cons_zero, List.set_cons_succ]
   refine tk 6 hHeld ?_
   refine wpAnyT_last (o := ?op7) (by kernel_rfl) ?ap7 (by kernel_rfl) (fun K hK => ?bp7)
   case ap7 => (simp only [List.getElem?_toArray, List.getElem?_cons_succ, List.getElem?_cons_zero]; exact rfl)
   obtain ⟨x1', x2'⟩ := hHeld
   have hHeld := x1'
   go_simp
   refine hK.out _ _ ?_
   clear hK K hHeld
   refine NoPanic.normal ?_
   try simp only [Act.put, List.setIfInBounds_toArray, List.set_cons_zero, List.set_cons_succ]
   have HF := kp (IlsOwn.app (f := ⟨A4, xk, c4, agZero⟩) Hown5.out HN.out.1 HN.out.2 Hown6.out Hapl.out Hyl.out)
   go_wp2_with fail
   refine ⟨⟨k + 1, ys ++ [⟨A4, xk, c4, agZero⟩], A5, c5, by omega, by go_num, by rw [List.length_append, Hyl.out]; rfl, Hyn.out _ rfl, ?_, ?_, ?_⟩, by simp [intOf]; omega⟩
   ·exact Box.set (show Box w5 gS 83 #[.slice A' k c', .int .i64 (m : Nat)] from (Hapl.out.farK hlt4 HneG.out).trans Hbx4.out) 0 (.slice A5 (k + 1) c5)
   ·exact HF.out.far (p := ⟨gS, 0, none⟩) (by simp) _
   ·exact (Hapl.out.below Hbe4.out Hown5r.out (Nat.le_trans HgS.out (Nat.le_succ _)) (Nat.le_trans HgS.out (Nat.le_of_lt hlt4))).setCell (p := ⟨gS, 0, none⟩) HgS.out _
  ·obtain rfl : k = n := by omega
   obtain ⟨x0, x1, _, _⟩ := Hbx.out.two
   have hbn := (Below.refl wr.heap.size wr).alloc (Nat.le_refl _) (.cells (arC A' k c' m none 0 0 most) 138)
   have HF := kp (HQ.out wr.heap.size A' c' ys (wr.alloc (.cells (arC A' k c' m none 0 0 most) 138)))
   rw [Hyl.out] at HF
   have Hkeys := kp (show ys.map Fa.keys = xs.map Fa.keys by have := Hyk.out; rw [List.take_of_length_le (by rw [Hn.out]; exact Nat.le_refl _)] at this; exact this)
   have Hfin := kp (HF.out (Box.new wr _ _) ((Hown.out.below hbn).base (Nat.le_trans HgS.out (Nat.le_succ _))) Hkeys.out (Hbe.out.alloc Hbe.out.size _) Hbe.out.size (fun j hj => Nat.ne_of_lt (IlsAt.foot_lt Hown.out.at_ hj)))
   go_wp2_with fail
   exact Hfin.out
end Go.Proofs.YthmbgbmcdbdecaaGreat.Tc
namespace Go.Proofs.YthmbgbmcdbdecaaGreat.Tc
open Go.RowKit Base Go.Maps Go.WideMaps
set_option linter.unusedVariables false
set_option linter.unusedSimpArgs false
structure BuildOk (s : Sch) (fs : List Fa) (most : Nat) : Prop where
 sch : SchOk s
 cfg : Cfg (pls fs) (s.dims.map liftsN) (s.dims.map sizesN) s.meas.length
 facts : ∀ xs : List Fa, xs.map Fa.keys = s.dims.map sizesN → ∀ f ∈ fs, FaOk xs s.meas.length f
 shape : ∀ xs : List Fa, xs.map Fa.keys = s.dims.map sizesN → ShOk xs s.meas.length
 rise : Rises fs
 fit : ∀ f ∈ fs, FitAg f.ag
 most : most ≤ 131072
def cubeV (s : Sch) (fs : List Fa) (most : Nat) : Option (List PNode) :=
 if fs = [] then some [] else (visit (pls fs) (s.dims.map liftsN) most s.dims.length (s.dims.length - 1) (List.range fs.length) ⟨[], []⟩).map fun r => r.1.nodes
def BuildRet (s : Sch) (fs : List Fa) (most : Nat) (w : World) (e : Ending) (w' : World) : Prop :=
 (∀ ns, cubeV s fs most = some ns → ∃ (ga : Nat) (A An : Option Addr) (c cn : Nat) (ys : List Fa) (nds : List Nd), e = .returned (.tuple #[.pointer (some ⟨ga, 0, none⟩), .int .i64 0]) ∧ Box w' ga 138 (arC A ys.length c s.meas.length An nds.length cn most) ∧
   IlsAt w' w'.heap.size A ys ∧ ys.map Fa.keys = s.dims.map sizesN ∧ NdsAt w' w'.heap.size An nds ∧ nds.map plN = ns ∧ Below w.heap.size w w' ∧ w.heap.size ≤ ga) ∧
 (cubeV s fs most = none → e = .returned (.tuple #[.pointer none, .int .i64 7]) ∧ Below w.heap.size w w')
theorem range_ok {ps : List (List Nat × Ag)} (h : ps ≠ []) : PtOk ps (List.range ps.length) :=
 ⟨fun e => h (List.length_eq_zero_iff.1 (by simpa using congrArg List.length e)), fun i hi => List.mem_range.1 hi, List.nodup_range⟩
set_option maxRecDepth 100000 in
set_option maxHeartbeats 8000000 in
theorem build_any (s : Sch) (most : Nat) (Af : Option Addr) (cf : Nat) (fs : List Fa) (w : World) (h : SchAt w w.heap.size s) (hf : FasAt w w.heap.size Af fs) (ho : BuildOk s fs most) :
 Calls Tryz.prog 10 #[.agg (schC s), .int .i64 (most : Nat), .slice Af fs.length cf] w (BuildRet s fs most w) := by
 have hmm := @run_makeMap Tryz.prog
 obtain ⟨i0, ti0, tz0, tz1, tz2⟩ := info_parts info_int
 have hn := ho.cfg.nps
 have hnf : (pls fs).length = fs.length := by unfold pls; rw [List.length_map]
 rw [hnf] at hn
 have HQ := kp (show ∀ (ga : Nat) (A An : Option Addr) (c cn : Nat) (ys : List Fa) (nds : List Nd) w', cubeV s fs most = some (nds.map plN) → Box w' ga 138 (arC A ys.length c s.meas.length An nds.length cn most) → IlsAt w' w'.heap.size A ys → ys.map Fa.keys = s.dims.map sizesN → NdsAt w' w'.heap.size An nds → Below w.heap.size w w' → w.heap.size ≤ ga → BuildRet s fs most w (.returned (.tuple #[.pointer (some ⟨ga, 0, none⟩), .int .i64 0])) w' from fun ga A An c cn ys nds w' h0 h1 h2 h3 h4 h5 h6 =>
  ⟨fun ns hns => ⟨ga, A, An, c, cn, ys, nds, rfl, h1, h2, h3, h4, by rw [h0] at hns; injection hns, h5, h6⟩, fun hns => by rw [h0] at hns; cases hns⟩)
 have HN := kp (show ∀ w', cubeV s fs most = none → Below w.heap.size w w' → BuildRet s fs most w (.returned (.tuple #[.pointer none, .int .i64 7])) w' from fun w' h0 h1 => ⟨fun ns hns => by (rw [h0] at hns; cases hns), fun _ => ⟨rfl, h1⟩⟩)
 have Hh := kp h
 have Hf := kp hf
 have Ho := kp ho
 have hbz := (Below.refl w.heap.size w).alloc (Nat.le_refl _) (.cells (schC s) 25)
 have HB0 := kp (Box.new w 25 (schC s))
 have HC := kp (schcheck_ok s _ ((h.below hbz).more hbz.size) ho.sch)
 have HS := kp (fun W hW => shape_any s W ((h.below hW).more hW.size) ho.sch)
 have HL := kp (fun W hW => lifts_any s W ((h.below hW).more hW.size) ho.sch)
 have HF := kp (fun A c xs W (hx : IlsAt W W.heap.size A xs) (hk : xs.map Fa.keys = s.dims.map sizesN) hW => factrow_any A Af c cf s.meas.length xs fs W hx ((hf.below hW).more hW.size) (ho.shape xs hk).n2 (by omega) (ho.shape xs hk).m1 (ho.shape xs hk).m2 (ho.facts xs hk) ho.rise)
 have HA := kp (fun A c xs W (hx : IlsAt W W.heap.size A xs) (hk : xs.map Fa.keys = s.dims.map sizesN) => new_any A c s.meas.length most xs W hx (ho.shape xs hk) ho.most)
 have Hbz := kp hbz
 clear h hf ho hbz hnf
 generalize hQ : BuildRet s fs most w = Q at *
 clear hQ
 unfold schC at HC HS HL HB0 Hbz ⊢
 generalize hW0 : w.alloc (.cells #[.slice s.A s.dims.length s.c, .slice s.Am s.meas.length s.cm] 25) = W0 at *
 obtain ⟨z0, z1, _, _⟩ := HB0.out.two
 obtain ⟨n, hn'⟩ : ∃ n, fs.length = n := ⟨_, rfl⟩
 have Hn := kp hn'
 rw [hn'] at HF hn ⊢
 clear hn'
 have q1 : ¬ (4000 : Int) < (n : Int) := by omega
 have q1d : decide ((4000 : Int) < (n : Int)) = false := decide_eq_false q1
 go_enter Tryz.func10, Tryz.ntmps10
 go_wp2_with fail
 refine HC.out.mono ?_
 rintro e w1 ⟨r0, rfl, rfl, hb1⟩
 have HB1 := kp (HB0.out.under hb1)
 have Hb1 := kp (Hbz.out.trans (hb1.mono Hbz.out.size))
 clear hb1 z0 z1 hW0 HC
 obtain ⟨z0, z1, _, _⟩ := HB1.out.two
 have HS1 := kp (HS.out w1 Hb1.out)
 go_wp2_with fail
 refine HS1.out.mono ?_
 rintro e w2 ⟨A, c, xs, rfl, hxs, hxk, hb2⟩
 have HB2 := kp (HB1.out.under hb2)
 have Hb2 := kp (Hb1.out.trans (hb2.mono Hb1.out.size))
 have Hxk := kp hxk
 have Hxs := kp hxs.at_
 clear hb2 z0 z1 HS HS1 hxs hxk HB1
 have hb3 := (Below.refl w2.heap.size w2).alloc (Nat.le_refl _) (.cells #[.slice A xs.length c, .int .i64 (s.meas.length : Nat)] 83)
 have HX3 := kp (Box.new w2 83 #[.slice A xs.length c, .int .i64 (s.meas.length : Nat)])
 have HB3 := kp (HB2.out.under hb3)
 have Hb3 := kp (Hb2.out.trans (hb3.mono Hb2.out.size))
 have Hxs3 := kp ((Hxs.out.below hb3).more hb3.size)
 generalize hW3 : w2.alloc (.cells #[.slice A xs.length c, .int .i64 (s.meas.length : Nat)] 83) = W3 at *
 obtain ⟨z0, z1, _, _⟩ := HB3.out.two
 obtain ⟨x0, x1, _, _⟩ := HX3.out.two
 have HF3 := kp (HF.out A c xs W3 Hxs3.out Hxk.out Hb3.out)
 go_wp2_with fail
 refine HF3.out.mono ?_
 rintro e w4 ⟨rfl, hb4⟩
 clear hW3
 have HB4 := kp (HB3.out.under hb4)
 have HX4 := kp (HX3.out.under hb4)
 have Hb4 := kp (Hb3.out.trans (hb4.mono Hb3.out.size))
 have Hxs4 := kp ((Hxs3.out.below hb4).more hb4.size)
 clear hb3 hb4 z0 z1 x0 x1 HB3 HX3 HF HF3 Hxs3 Hxs HB2
 obtain ⟨x0, x1, _, _⟩ := HX4.out.two
 have HA4 := kp (HA.out A c xs w4 Hxs4.out Hxk.out)
 go_wp2_with fail
 refine HA4.out.mono ?_
 rintro e w5 ⟨ga, Aa, ca, ys, rfl, hbx, hys, hyk, hb5, hga, hft⟩
 have HB5 := kp (HB4.out.under hb5)
 have Hb5 := kp (Hb4.out.trans (hb5.mono Hb4.out.size))
 have Hys := kp hys.at_
 have Hyk := kp (hyk.trans Hxk.out)
 have Hbx := kp hbx
 have Hga := kp (show w.heap.size ≤ ga from Nat.le_trans Hb4.out.size hga)
 have Hft := kp hft
 clear hbx hys hyk hb5 hga hft x0 x1 HA HA4 HX4 Hxs4 HB4
 by_cases hn0 : n = 0
 ·have hfs : fs = [] := List.length_eq_zero_iff.1 (by rw [Hn.out]; exact hn0)
  have q2 : ((n : Int) == 0) = true := by subst hn0; rfl
  have Hfin := kp (HQ.out ga Aa none ca 0 ys [] w5 (by unfold cubeV; rw [if_pos hfs]; rfl) Hbx.out Hys.out Hyk.out ⟨.inl rfl, fun x hx => by cases hx⟩ Hb5.out Hga.out)
  go_wp2_with fail
  exact Hfin.out
 ·have q2 : ((n : Int) == 0) = false := by simp; exact hn0
  obtain ⟨z0, z1, _, _⟩ := HB5.out.two
  have HL5 := kp (HL.out w5 Hb5.out)
  go_wp2_with fail
  refine HL5.out.mono ?_
  rintro e w6 ⟨Al, cl, rs, rfl, hrs, hrk, hb6⟩
  have Hrs := kp hrs
  have Hrk := kp hrk
  have Hb56 := kp hb6
  have Hb6 := kp (Hb5.out.trans (hb6.mono Hb5.out.size))
  clear hrs hrk hb6 z0 z1 HL HL5
  have Hb8 := kp (((Below.refl w6.heap.size w6).alloc (Nat.le_refl _) (.map #[] 0)).alloc (by simp) (.cells #[.slice Af n cf, .slice Al rs.length cl, .pointer (some ⟨ga, 0, none⟩), .map (some w6.heap.size), .int .i64 0] 92))
  have Hmet := kp ((World.ownsMap_made w6 Tryz.prog 9 (plainElem (H := Unit) Tryz.prog 3)).alloc (.cells #[.slice Af n cf, .slice Al rs.length cl, .pointer (some ⟨ga, 0, none⟩), .map (some w6.heap.size), .int .i64 0] 92))
  have HBb := kp (show Box ((w6.alloc (.map #[] 0)).alloc (.cells #[.slice Af n cf, .slice Al rs.length cl, .pointer (some ⟨ga, 0, none⟩), .map (some w6.heap.size), .int .i64 0] 92)) (w6.heap.size + 1) 92 #[.slice Af n cf, .slice Al rs.length cl, .pointer (some ⟨ga, 0, none⟩), .map (some w6.heap.size), .int .i64 0] from Box.lay (by simp))
  have hz8 : ((w6.alloc (.map #[] 0)).alloc (.cells #[.slice Af n cf, .slice Al rs.length cl, .pointer (some ⟨ga, 0, none⟩), .map (some w6.heap.size), .int .i64 0] 92)).heap.size = w6.heap.size + 2 := by simp
  generalize hW8 : (w6.alloc (.map #[] 0)).alloc (.cells #[.slice Af n cf, .slice Al rs.length cl, .pointer (some ⟨ga, 0, none⟩), .map (some w6.heap.size), .int .i64 0] 92) = W8 at *
  go_wp2_with fail
  clear hW8
  have Hz8 := kp hz8
  clear hz8 q1 q1d q2
  go_loopw [14, 54] (fun v14 v54 wr => ∃ (k : Nat) (A' : Option Addr) (c' : Nat), k ≤ n ∧ v54 = .int .i64 k ∧ v14 = .slice A' k c' ∧ wr.ownsRow W8.heap.size 3 1 (.slice A' k c') k (natV (List.range k)) ∧ Below W8.heap.size W8 wr) (fun _ v54 _ => n - (intOf v54).toNat)
  case atStart => exact ⟨0, none, 0, Nat.zero_le _, rfl, rfl, own_nil _ _ _ _, Below.refl _ _⟩
  case round =>
   obtain ⟨k, A', c', hk, rfl, rfl, hown, hbe⟩ := hrel
   have Hown := kp hown
   have Hbe := kp hbe
   clear hown hbe
   by_cases hlt : k < n
   ·have hk1 : k < 1048576 * 64 := by omega
    have Hs := kp Hbe.out.size
    go_wp2_with (at_builtin; refine wpList_append1 rfl (.tmp 57) (.tmp 59) 41 rfl W8.heap.size 3 i0 (.int .i64 0) 8 Tryz.underlying41 ti0 tz0 tz1 tz2 rfl wr (.int .i64 (k : Int)) rfl (.slice A' k c') k (natV (List.range k)) rfl Hown.out rfl hk1 (by decide) Hs.out ?_; intro v6 w7 hown6 happ6; obtain ⟨A6, c6, h6⟩ := own_form hown6; subst h6; have Hown6 := kp hown6; have Hb7 := kp (happ6.below Hbe.out Hown.out (Nat.le_refl _) Hs.out); clear hown6 happ6)
    exact ⟨⟨k + 1, A6, c6, by omega, by go_num, rfl, by rw [List.range_succ]; unfold natV at *; rw [List.map_append]; exact Hown6.out, Hb7.out⟩, by simp [intOf]; omega⟩
   ·obtain rfl : k = n := by omega
    have hk0 : fs ≠ [] := fun e => hn0 (by rw [← Hn.out, e]; rfl)
    have Hb6r := kp (show Below w6.heap.size w6 wr from Hb8.out.trans (Hbe.out.mono (by rw [Hz8.out]; omega)))
    have Hwr := kp (Hb6.out.trans (Hb6r.out.mono Hb6.out.size))
    have Hb5r := kp (show Below w5.heap.size w5 wr from Hb56.out.trans (Hb6r.out.mono Hb56.out.size))
    have h5 : ga < w5.heap.size := Hbx.out.lt
    have h56 := Hb56.out.size
    have h5w := Hb5.out.size
    have h8 := Hz8.out
    have h8r := Hbe.out.size
    have hgw := Hga.out
    obtain ⟨b, hb⟩ : ∃ b : Bc, b = ⟨W8.heap.size, w6.heap.size + 1, ga, w6.heap.size, Af, fs, cf, Al, rs, cl, Aa, ys, ca, s.meas.length, most⟩ := ⟨_, rfl⟩
    have HOk : b.Ok := by
     subst hb
     refine ⟨?_, Ho.out.fit, ?_, ?_, ?_, ?_, ?_, ?_, ?_⟩
     ·show Cfg (pls fs) (rs.map fun r => r.fs.map Fa.keys) (ys.map Fa.keys) s.meas.length
      rw [Hrk.out, Hyk.out]
      exact Ho.out.cfg
     ·have := Ho.out.most
      dsimp only
      omega
     all_goals (dsimp only; omega)
    have hown : ∀ j, b.own j → j < W8.heap.size ∧ w.heap.size ≤ j := by
     subst hb
     intro j hj
     unfold Bc.own at hj
     dsimp only at hj
     omega
    have Hown' := kp hown
    have HSt : Start b b.own none 0 [] ⟨[], []⟩ 0 A' (List.range k) wr := by
     have hro : b.Ro wr := by
      subst hb
      refine ⟨(Hf.out.below Hwr.out).more (by dsimp only; omega), ((Hrs.out.at_).below Hb6r.out).more (by dsimp only; omega), (Hys.out.below Hb5r.out).more (by dsimp only; omega), fun j hj ho => ?_, fun j hj ho => ?_, fun j hj ho => ?_⟩
      ·have := Hf.out.foot_lt hj
       unfold Bc.own at ho
       dsimp only at ho
       omega
      ·have h1 := Hrs.out.foot_from hj
       have h2 := Hrs.out.at_.foot_lt hj
       unfold Bc.own at ho
       dsimp only at ho
       omega
      ·have h1 := Hft.out j hj
       have h2 := Hys.out.foot_lt hj
       unfold Bc.own at ho
       dsimp only at ho
       omega
     refine ⟨hro, ?_, row_ownK Hown.out, fun j hj ho => ?_, ?_, .inl rfl, fun _ => Good.nil _ _ _⟩
     ·refine ⟨?_, fun j hj => .inr hj, fun j hj => hj, fun j hj => Nat.lt_of_lt_of_le (hown j hj).1 h8r, ?_, ?_, ?_, (fun j hj => by cases hj), (fun x hx => by cases hx), rfl, Nat.zero_le _, rfl, ?_⟩
      ·subst hb; exact h8r
      ·subst hb
       show Box wr (w6.heap.size + 1) _ #[.slice Af fs.length cf, .slice Al rs.length cl, .pointer (some ⟨ga, 0, none⟩), .map (some w6.heap.size), .int .i64 0]
       rw [Hn.out]
       exact HBb.out.under Hbe.out
      ·subst hb; exact Hbx.out.under Hb5r.out
      ·exact NdsOwn.nil _ _
      ·subst hb
       exact MetP.same ⟨_, Hmet.out, AtNm.nil⟩ (Hbe.out.block _ (by dsimp only; omega))
     ·obtain ⟨hne, off, e⟩ := hj
      have h1 := From.own Hown.out (Nat.le_refl _) j off e hne
      have h2 := (hown j ho).1
      omega
     ·subst hb
      have := range_ok (ps := pls fs) (by unfold pls; simpa using hk0)
      rw [show (pls fs).length = k by unfold pls; rw [List.length_map]; exact Hn.out] at this
      exact this
    have hXl : b.X.length = s.dims.length := by
     subst hb
     show (ys.map Fa.keys).length = _
     rw [Hyk.out, List.length_map]
    have hX1 := HOk.cfg.n1
    have HV := visit_any b HOk (b.X.length - 1) (by omega)
    rw [Nat.sub_self] at HV
    have HVk := kp (HV b.own none 0 [] ⟨[], []⟩ 0 A' c' (List.range k) wr HSt)
    have HcV := kp (show cubeV s fs most = (visit b.ps b.lifts b.most b.X.length (b.X.length - 1) (List.range k) ⟨[], []⟩).map fun r => r.1.nodes by
     unfold cubeV
     rw [if_neg hk0, Hn.out, hXl]
     subst hb
     show _ = (visit (pls fs) (rs.map fun r => r.fs.map Fa.keys) most _ _ _ _).map _
     rw [Hrk.out])
    have HSt' := kp HSt
    have hgb : b.gb = w6.heap.size + 1 := by rw [hb]
    rw [hgb, List.length_range] at HVk
    have Hb := kp hb
    generalize visit b.ps b.lifts b.most b.X.length (b.X.length - 1) = V at *
    clear HV HSt HOk hX1 hXl hb hown hk0 h5 h56 h5w h8 h8r hgw
    go_wp2_with fail
    refine HVk.out.mono ?_
    rintro e w9 ⟨i, An9, cn9, nds9, st9, err9, rfl, hdid, k1, k2, k3, k4⟩
    have Hdid := kp hdid
    have Hb9 := kp (Hwr.out.trans (hdid.turn.toBelow (fun j hj => (Hown'.out j hj).2) Hwr.out.size))
    have x4 : w9.cell? ⟨w6.heap.size + 1, 4, none⟩ = some (.int .i64 (err9 : Nat)) := by
     have := hdid.dy.bbox.cell 4
     rw [hgb] at this
     exact this
    clear hdid HVk
    rcases k4 with rfl | rfl
    ·have Hc := kp (show cubeV s fs most = some (nds9.map plN) by
      rw [HcV.out, Hdid.out.dy.plain]
      rcases hv : V (List.range k) ⟨[], []⟩ with _ | r
      ·have := k2 rfl hv; omega
      ·rw [(k1 rfl r hv).2.1]; rfl)
     have Hil := kp (show IlsAt w9 w9.heap.size Aa ys by
      have := ((HSt'.out.ro.turn Hdid.out.turn HSt'.out.dy.line HSt'.out.dy.fF).shape).more Hdid.out.dy.line
      rw [Hb.out] at this
      exact this)
     have Hfin := kp (HQ.out ga Aa An9 ca cn9 ys nds9 w9 Hc.out (by have := Hdid.out.dy.abox; rw [Hb.out] at this; exact this) Hil.out Hyk.out Hdid.out.dy.nodes.at_ Hb9.out Hga.out)
     go_wp2_with fail
     exact Hfin.out
    ·have Hc := kp (show cubeV s fs most = none by
      rw [HcV.out]
      rcases hv : V (List.range k) ⟨[], []⟩ with _ | r
      ·rfl
      ·have := (k1 rfl r hv).1; omega)
     have Hfin := kp (HN.out w9.drew Hc.out Hb9.out.drew)
     go_upto_region 24 with fail
     refine wp_region_noPanic ?_
     refine wp_region_T (t := 99) (S := (fun w' => w'.cell? ⟨w6.heap.size + 1, 4, none⟩ = some (.int .i64 7))) (by kernel_rfl) x4 (fun hHeld => ?_)
     refine tk 0 hHeld ?_
     refine tk 1 hHeld ?_
     refine tk 2 hHeld ?_
     refine tk 3 hHeld ?_
     refine tk 4 hHeld ?_
     refine tk 5 hHeld ?_
     refine wpAnyT_done (by kernel_rfl) ?_ _
     try clear hHeld
     refine NoPanic.normal ?_
     go_wp2_with fail
     exact Hfin.out
end Go.Proofs.YthmbgbmcdbdecaaGreat.Tc
