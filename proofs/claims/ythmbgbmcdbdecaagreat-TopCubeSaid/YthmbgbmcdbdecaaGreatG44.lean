/- Parts of a proof: The document's Matches: which facts stand under members. -/
import Derived.Test.YthmbgbmcdbdecaaGreatG05
import Derived.Test.YthmbgbmcdbdecaaGreatG43
namespace Go.Proofs.YthmbgbmcdbdecaaGreat.Tc
open Go.RowKit Base
set_option linter.unusedVariables false
set_option linter.unusedSimpArgs false
def okAt (s : Sch) (keys : List Nat) (ps : List Pos) (d : Nat) : Bool := match s.dims[d]?, ps[d]?, keys[d]? with
 | some dd, some p, some k => decide (p.tier < 0) || (((liftN dd p.tier.toNat k : Nat) : Int) == p.key)
 | _, _, _ => true
def okTo (s : Sch) (keys : List Nat) (ps : List Pos) (j : Nat) : Bool := (List.range j).all (okAt s keys ps)
theorem okTo_succ (s : Sch) (keys : List Nat) (ps : List Pos) (j : Nat) : okTo s keys ps (j + 1) = (okTo s keys ps j && okAt s keys ps j) := by
 unfold okTo
 rw [List.range_succ, List.all_append]
 simp
def matchI (s : Sch) (fs : List (List Nat × Ag)) (ps : List Pos) (i : Nat) : Bool := okTo s ((fs[i]?).getD ([], agZero)).1 ps ps.length
def matchTo (s : Sch) (fs : List (List Nat × Ag)) (ps : List Pos) (n : Nat) : List Nat := (List.range n).filter (matchI s fs ps)
theorem matchTo_succ (s : Sch) (fs : List (List Nat × Ag)) (ps : List Pos) (n : Nat) : matchTo s fs ps (n + 1) = if matchI s fs ps n = true then matchTo s fs ps n ++ [n] else matchTo s fs ps n := by
 unfold matchTo
 rw [List.range_succ, List.filter_append]
 by_cases h : matchI s fs ps n = true
 ·rw [if_pos h, List.filter_cons_of_pos h]; rfl
 ·rw [if_neg h, List.filter_cons_of_neg h]; simp
structure WayOk (s : Sch) (ps : List Pos) : Prop where
 len : ps.length = s.dims.length
 each : ∀ (d : Nat) (hd : d < s.dims.length) (hp : d < ps.length), ps[d].tier < 0 ∨ ∃ t : Nat, ps[d].tier = (t : Int) ∧ t < (s.dims[d]'hd).tiers.length
structure KeyOk (s : Sch) (keys : List Nat) : Prop where
 len : keys.length = s.dims.length
 each : ∀ (d : Nat) (hd : d < s.dims.length) (hk : d < keys.length) (h0 : 0 < (s.dims[d]'hd).tiers.length), keys[d] < ((s.dims[d]'hd).tiers[0]'h0).terms.length
set_option maxRecDepth 100000 in
set_option maxHeartbeats 8000000 in
theorem r26matches_any (s : Sch) (Af Ap : Option Addr) (fs : List Fa) (ps : List Pos) (cf cp : Nat) (w : World) (h : SchAt w w.heap.size s) (ho : SchOk s) (hf : FasAt w w.heap.size Af fs) (hp : Row w w.heap.size Ap (ps.flatMap posV)) (hw : WayOk s ps) (hk : ∀ f ∈ fs, KeyOk s f.keys) (hn : fs.length ≤ 1000000) :
 Calls Tryz.prog 11 #[.agg (schC s), .slice Af fs.length cf, .slice Ap ps.length cp] w (Nums (matchTo s (pls fs) ps fs.length) w) := by
 obtain ⟨i0, ti0, tz0, tz1, tz2⟩ := info_parts info_int
 have hb0 := (Below.refl w.heap.size w).alloc (Nat.le_refl _) (.cells (schC s) 25)
 have HBs := kp (Box.new w 25 (schC s))
 have Hb0 := kp hb0
 have HQ := kp (show ∀ v w', w'.ownsRow w.heap.size 3 1 v (matchTo s (pls fs) ps fs.length).length (natV (matchTo s (pls fs) ps fs.length)) → Below w.heap.size w w' → Nums (matchTo s (pls fs) ps fs.length) w (.returned v) w' from fun v w' h1 h2 => ⟨v, rfl, h1, h2⟩)
 generalize hQ : Nums (matchTo s (pls fs) ps fs.length) w = Q at *
 have Hh := kp h
 have Ho := kp ho
 have Hf := kp hf
 have Hp := kp hp
 have Hw := kp hw
 have Hk := kp hk
 have hdn := ho.n2
 have hwl := hw.len
 obtain ⟨n, hn'⟩ : ∃ n, fs.length = n := ⟨_, rfl⟩
 obtain ⟨m, hm'⟩ : ∃ m, ps.length = m := ⟨_, rfl⟩
 have Hn := kp hn'
 have Hm := kp hm'
 have HNx := kp (matchTo_succ s (pls fs) ps)
 have HMl := kp (show ∀ k, (matchTo s (pls fs) ps k).length ≤ k from fun k => by
  unfold matchTo
  have := List.length_filter_le (matchI s (pls fs) ps) (List.range k)
  rw [List.length_range] at this
  exact this)
 rw [hn'] at hn HQ ⊢
 rw [hm'] at hwl ⊢
 have hm16 : m ≤ 16 := by omega
 clear hQ h ho hf hp hw hk hb0 hn' hm' hwl
 unfold schC at HBs Hb0 ⊢
 generalize hW0 : w.alloc (.cells #[.slice s.A s.dims.length s.c, .slice s.Am s.meas.length s.cm] 25) = W0 at *
 go_enter Tryz.func11, Tryz.ntmps11
 go_wp2_with fail
 clear hW0
 go_loopw [7, 13] (fun v7 v13 wr => ∃ (k : Nat) (A' : Option Addr) (c' : Nat), k ≤ n ∧ v13 = .int .i64 (k : Nat) ∧ v7 = .slice A' (matchTo s (pls fs) ps k).length c' ∧ wr.ownsRow (w.heap.size + 1) 3 1 (.slice A' (matchTo s (pls fs) ps k).length c') (matchTo s (pls fs) ps k).length (natV (matchTo s (pls fs) ps k)) ∧ Box wr w.heap.size 25 #[.slice s.A s.dims.length s.c, .slice s.Am s.meas.length s.cm] ∧ Below w.heap.size w wr) (fun _ v13 _ => n - (intOf v13).toNat)
 case atStart => exact ⟨0, none, 0, Nat.zero_le _, rfl, rfl, own_nil _ _ _ _, HBs.out, Hb0.out⟩
 case round =>
  obtain ⟨k, A', c', hk, rfl, rfl, hown, hbs, hbe⟩ := hrel
  have Hown := kp hown
  have HBs2 := kp hbs
  have Hbe := kp hbe
  clear hown hbs hbe HBs Hb0
  by_cases hlt : k < n
  ·have hkd : k < fs.length := by rw [Hn.out]; exact hlt
   have hmi : matchI s (pls fs) ps k = okTo s (fs[k]'hkd).keys ps m := by
    unfold matchI pls
    rw [List.getElem?_map, List.getElem?_eq_getElem hkd, Hm.out]
    rfl
   have Hmi := kp hmi
   have HKk := kp (Hk.out _ (List.getElem_mem hkd))
   have HFc := kp (fun W (hW : Below w.heap.size w W) => FasAt.cells ((Hf.out.below hW).more hW.size) k hkd)
   have HFk := kp (fun W (hW : Below w.heap.size w W) => ((Hf.out.below hW).more hW.size).keys _ (List.getElem_mem hkd))
   generalize (fs[k]'hkd) = f at *
   clear hmi
   have hlk := HMl.out k
   generalize hM : matchTo s (pls fs) ps k = M at *
   have HM := kp hM
   clear hM
   go_wp2_with fail
   go_loopw [9, 18] (fun v9 v18 wj => ∃ (j : Nat) (b : Bool), j ≤ m ∧ v18 = .int .i64 (j : Nat) ∧ v9 = .bool b ∧ b = okTo s f.keys ps j ∧ Below wr.heap.size wr wj) (fun _ v18 _ => m - (intOf v18).toNat)
   case atStart => exact ⟨0, true, Nat.zero_le _, rfl, rfl, rfl, Below.refl _ _⟩
   case round =>
    obtain ⟨j, b, hj, rfl, rfl, hbt, hbj⟩ := hrel
    have Hbt := kp hbt
    have Hbj := kp hbj
    have Hsu := kp (okTo_succ s f.keys ps j)
    clear hbt hbj
    by_cases hjl : j < m
    ·have hjp : j < ps.length := by rw [Hm.out]; exact hjl
     have hjd : j < s.dims.length := by rw [← Hw.out.len]; exact hjp
     have hjk : j < f.keys.length := by rw [HKk.out.len]; exact hjd
     have HbW := kp (Hbe.out.trans (Hbj.out.mono Hbe.out.size))
     obtain ⟨bp, op, hAp, hbp, p0, p1⟩ := poss_at ((Hp.out.below HbW.out).more HbW.out.size) j hjp
     have hwj := Hw.out.each j hjd hjp
     have hoa : okAt s f.keys ps j = (decide ((ps[j]'hjp).tier < 0) || (((liftN (s.dims[j]'hjd) (ps[j]'hjp).tier.toNat (f.keys[j]'hjk) : Nat) : Int) == (ps[j]'hjp).key)) := by
      unfold okAt
      rw [List.getElem?_eq_getElem hjd, List.getElem?_eq_getElem hjp, List.getElem?_eq_getElem hjk]
     rw [hoa, ← Hbt.out] at Hsu
     clear hoa
     generalize (ps[j]'hjp) = p at *
     obtain ⟨pt, pk⟩ := p
     dsimp only at p0 p1 hwj Hsu
     have j0 : (0 : Int) ≤ (j : Int) := by omega
     have j1 : (j : Int) < (m : Int) := by omega
     have j2 : (0 : Int) ≤ (k : Int) := by omega
     have j3 : (k : Int) < (n : Int) := by omega
     rw [hAp]
     cases b with
     | false =>
      go_upto_region 9 with fail
      refine wp_region_noPanic ?_
      refine wp_region_T (t := 99) (S := (fun w' => True)) (by kernel_rfl) trivial (fun hHeld => ?_)
      refine tk 0 hHeld ?_
      refine tk 1 hHeld ?_
      refine sk 2 hHeld ?_
      refine sk 3 hHeld ?_
      refine sk 4 hHeld ?_
      refine sk 5 hHeld ?_
      refine sk 6 hHeld ?_
      refine sk 7 hHeld ?_
      refine sk 8 hHeld ?_
      refine sk 9 hHeld ?_
      refine sk 10 hHeld ?_
      refine sk 11 hHeld ?_
      refine sk 12 hHeld ?_
      refine sk 13 hHeld ?_
      refine sk 14 hHeld ?_
      refine sk 15 hHeld ?_
      refine sk 16 hHeld ?_
      refine sk 17 hHeld ?_
      refine sk 18 hHeld ?_
      refine sk 19 hHeld ?_
      refine sk 20 hHeld ?_
      refine sk 21 hHeld ?_
      refine sk 22 hHeld ?_
      refine sk 23 hHeld ?_
      refine sk 24 hHeld ?_
      refine sk 25 hHeld ?_
      refine sk 26 hHeld ?_
      refine sk 27 hHeld ?_
      refine tk 28 hHeld ?_
      refine tk 29 hHeld ?_
      refine wpAnyT_done (by kernel_rfl) ?_ _
      try clear hHeld
      refine NoPanic.normal ?_
      go_wp2_with fail
      exact ⟨⟨j + 1, false, by omega, by go_num, rfl, by rw [Hsu.out, Bool.false_and], Hbj.out.drew⟩, by simp [intOf]; omega⟩
     | true =>
      rw [Bool.true_and] at Hsu
      by_cases hpt : pt < 0
      ·have q1 : decide (pt < 0) = true := decide_eq_true hpt
       rw [q1, Bool.true_or] at Hsu
       go_upto_region 9 with fail
       refine wp_region_noPanic ?_
       refine wp_region_T (t := 99) (S := (fun w' => w'.cell? ⟨bp, op + j * 2, none⟩ = some (.int .i64 pt))) (by kernel_rfl) p0 (fun hHeld => ?_)
       refine tk 0 hHeld ?_
       refine tk 1 hHeld ?_
       refine tk 2 hHeld ?_
       refine tk 3 hHeld ?_
       refine tk 4 hHeld ?_
       refine tk 5 hHeld ?_
       refine tk 6 hHeld ?_
       refine tk 7 hHeld ?_
       refine tk 8 hHeld ?_
       refine sk 9 hHeld ?_
       refine sk 10 hHeld ?_
       refine sk 11 hHeld ?_
       refine sk 12 hHeld ?_
       refine sk 13 hHeld ?_
       refine sk 14 hHeld ?_
       refine sk 15 hHeld ?_
       refine sk 16 hHeld ?_
       refine sk 17 hHeld ?_
       refine sk 18 hHeld ?_
       refine sk 19 hHeld ?_
       refine sk 20 hHeld ?_
       refine sk 21 hHeld ?_
       refine sk 22 hHeld ?_
       refine sk 23 hHeld ?_
       refine sk 24 hHeld ?_
       refine sk 25 hHeld ?_
       refine sk 26 hHeld ?_
       refine tk 27 hHeld ?_
       refine tk 28 hHeld ?_
       refine tk 29 hHeld ?_
       refine wpAnyT_done (by kernel_rfl) ?_ _
       try clear hHeld
       refine NoPanic.normal ?_
       go_wp2_with fail
       exact ⟨⟨j + 1, true, by omega, by go_num, rfl, by rw [Hsu.out], Hbj.out.drew⟩, by simp [intOf]; omega⟩
      ·have q1 : decide (pt < 0) = false := decide_eq_false hpt
       rw [q1, Bool.false_or] at Hsu
       obtain ⟨t, rfl, ht⟩ : ∃ t : Nat, pt = (t : Int) ∧ t < (s.dims[j]'hjd).tiers.length := hwj.resolve_left hpt
       rw [Int.toNat_natCast] at Hsu
       have hok := Ho.out.dims j hjd
       have hsd := (Hh.out.below HbW.out).more HbW.out.size
       have HLk := kp (fun W (hW : Below w.heap.size w W) => r26lift_any s f j t (f.keys[j]'hjk) hjd W ((Hh.out.below hW).more hW.size) (HFk.out W hW) hok ht (List.getElem?_eq_getElem hjk) (HKk.out.each j hjd hjk (by omega)))
       generalize liftN (s.dims[j]'hjd) t (f.keys[j]'hjk) = r at *
       obtain ⟨b2, hb2⟩ : ∃ b2, (((r : Nat) : Int) == pk) = b2 := ⟨_, rfl⟩
       rw [hb2] at Hsu
       obtain ⟨bf, of_, hAf, hbf, c0, c1, c2, c3, c4, c5, c6, c7, c8, c9, c10⟩ := HFc.out wr HbW.out
       obtain ⟨z0, z1, _, _⟩ := (HBs2.out.under Hbj.out).two
       clear hsd hok ht hwj
       obtain ⟨fA, fkeys, fc, ⟨ac, s0, n0, x0, s1, n1, x1, s2, n2, x2⟩⟩ := f
       dsimp only [factC] at HLk c0 c1 c2 c3 c4 c5 c6 c7 c8 c9 c10
       unfold schC at HLk
       have HLj := kp (HLk.out wr.drew HbW.out.drew)
       rw [hAf]
       go_upto_region 9 with fail
       refine wp_region_noPanic ?_
       refine wp_region_T (t := 99) (S := (fun w' => (w'.cell? ⟨bp, op + j * 2, none⟩ = some (.int .i64 (t : Nat)) ∧ w'.cell? ⟨bp, op + j * 2 + 1, none⟩ = some (.int .i64 pk)) ∧ (w'.cell? ⟨w.heap.size, 0, none⟩ = some (.slice s.A s.dims.length s.c) ∧ w'.cell? ⟨w.heap.size, 1, none⟩ = some (.slice s.Am s.meas.length s.cm)) ∧ (w'.cell? ⟨bf, of_ + k * 11, none⟩ = some (.slice fA fkeys.length fc) ∧ w'.cell? ⟨bf, of_ + k * 11 + 1, none⟩ = some (.int .i64 ac) ∧ w'.cell? ⟨bf, of_ + k * 11 + 2, none⟩ = some (.int .i64 s0) ∧ w'.cell? ⟨bf, of_ + k * 11 + 3, none⟩ = some (.int .i64 n0) ∧ w'.cell? ⟨bf, of_ + k * 11 + 4, none⟩ = some (.int .i64 x0) ∧ w'.cell? ⟨bf, of_ + k * 11 + 5, none⟩ = some (.int .i64 s1) ∧ w'.cell? ⟨bf, of_ + k * 11 + 6, none⟩ = some (.int .i64 n1) ∧ w'.cell? ⟨bf, of_ + k * 11 + 7, none⟩ = some (.int .i64 x1) ∧ w'.cell? ⟨bf, of_ + k * 11 + 8, none⟩ = some (.int .i64 s2) ∧ w'.cell? ⟨bf, of_ + k * 11 + 9, none⟩ = some (.int .i64 n2) ∧ w'.cell? ⟨bf, of_ + k * 11 + 10, none⟩ = some (.int .i64 x2)))) (by kernel_rfl) ⟨⟨p0, p1⟩, ⟨z0, z1⟩, ⟨c0, c1, c2, c3, c4, c5, c6, c7, c8, c9, c10⟩⟩ (fun hHeld => ?_)
       refine tk 0 hHeld ?_
       refine tk 1 hHeld ?_
       refine tk 2 hHeld ?_
       refine tk 3 hHeld ?_
       refine tk 4 hHeld ?_
       refine tk 5 hHeld ?_
       refine tk 6 hHeld ?_
       refine tk 7 hHeld ?_
       refine tk 8 hHeld ?_
       refine tk 9 hHeld ?_
       refine tk 10 hHeld ?_
       refine tk 11 hHeld ?_
       refine tk 12 hHeld ?_
       refine tk 13 hHeld ?_
       refine tk 14 hHeld ?_
       refine tk 15 hHeld ?_
       refine tk 16 hHeld ?_
       refine tk 17 hHeld ?_
       refine tk 18 hHeld ?_
       refine tk 19 hHeld ?_
       refine tk 21 hHeld ?_
       refine tk 22 hHeld ?_
       refine tk 23 hHeld ?_
       refine tk 24 hHeld ?_
       refine tk 25 hHeld ?_
       refine wpAnyT_one (i := 20) (o := ?or20) (by kernel_rfl) ?ar20 (by decide) (fun K hK => ?br20)
       case ar20 => (simp only [List.getElem?_toArray, List.getElem?_cons_succ, List.getElem?_cons_zero]; exact rfl)
       go_simp
       refine HLj.out.mono ?_
       rintro e wc ⟨rfl, hbc⟩
       have Hbc := kp (show Below wr.heap.size wr wc from (Below.refl _ _).drew.trans hbc)
       clear hbc
       refine hK.out _ _ ?_ (fun hHeld2 => ?_)
       ·exact ⟨⟨cell_keep Hbc.out p0, cell_keep Hbc.out p1⟩, ⟨cell_keep Hbc.out z0, cell_keep Hbc.out z1⟩, ⟨cell_keep Hbc.out c0, cell_keep Hbc.out c1, cell_keep Hbc.out c2, cell_keep Hbc.out c3, cell_keep Hbc.out c4, cell_keep Hbc.out c5, cell_keep Hbc.out c6, cell_keep Hbc.out c7, cell_keep Hbc.out c8, cell_keep Hbc.out c9, cell_keep Hbc.out c10⟩⟩
       clear hK K hHeld
       have hHeld := hHeld2
       clear hHeld2
       try simp only [Act.put, List.setIfInBounds_toArray, List.set_cons_zero, List.set_cons_succ]
       refine tk 26 hHeld ?_
       refine tk 27 hHeld ?_
       refine tk 28 hHeld ?_
       refine tk 29 hHeld ?_
       refine wpAnyT_done (by kernel_rfl) ?_ _
       try clear hHeld
       refine NoPanic.normal ?_
       have Hbc2 := kp (Hbj.out.trans (Hbc.out.mono Hbj.out.size))
       go_wp2_with fail
       exact ⟨⟨j + 1, b2, by omega, by go_num, rfl, by rw [Hsu.out], Hbc2.out⟩, by simp [intOf]; omega⟩
    ·obtain rfl : j = m := by omega
     have Hbs3 := kp (HBs2.out.under Hbj.out)
     have HbW := kp (Hbe.out.trans (Hbj.out.mono Hbe.out.size))
     have HownW := kp (own_below Hown.out Hbj.out)
     have HsW := kp (show w.heap.size + 1 ≤ wr.heap.size from Hbs3.out.lt)
     have hnx := HNx.out k
     rw [Hmi.out, ← Hbt.out, HM.out] at hnx
     have hk1 : M.length < 1048576 * 64 := by omega
     have HneG := kp (show (Value.slice A' M.length c').ownBlock ≠ some w.heap.size from fun e => by have := (Hown.out.lt _ e).1; omega)
     cases b with
     | true =>
      rw [if_pos rfl] at hnx
      have Hnx := kp hnx
      clear hnx
      go_wp2_with (at_builtin; refine wpList_append1 rfl (.tmp 52) (.tmp 54) 41 rfl (w.heap.size + 1) 3 i0 (.int .i64 0) 8 Tryz.underlying41 ti0 tz0 tz1 tz2 rfl wr (.int .i64 (k : Nat)) rfl (.slice A' M.length c') M.length (natV M) rfl HownW.out rfl hk1 (by decide) HsW.out ?_; intro v8 w7 hown6 happ6; obtain ⟨A8, c8, h6⟩ := own_form hown6; subst h6; have Hown6 := kp hown6; have Hb7 := kp (happ6.below HbW.out HownW.out (Nat.le_succ _) HbW.out.size); have Hbs7 := kp ((show Box w7 w.heap.size 25 _ from (happ6.farK Hbs3.out.lt (fun e => HneG.out e)).trans Hbs3.out)); clear hown6 happ6)
      exact ⟨⟨k + 1, A8, c8, by omega, by go_num, by rw [Hnx.out, List.length_append]; rfl, by rw [Hnx.out, List.length_append]; unfold natV at *; rw [List.map_append]; exact Hown6.out, Hbs7.out, Hb7.out⟩, by simp [intOf]; omega⟩
     | false =>
      rw [if_neg (by simp)] at hnx
      have Hnx := kp hnx
      clear hnx
      go_wp2_with fail
      exact ⟨⟨k + 1, A', c', by omega, by go_num, by rw [Hnx.out], by rw [Hnx.out]; exact HownW.out, Hbs3.out, HbW.out⟩, by simp [intOf]; omega⟩
  ·obtain rfl : k = n := by omega
   have Hfin := kp (HQ.out _ wr (own_base Hown.out (Nat.le_succ _)) Hbe.out)
   go_wp2_with fail
   exact Hfin.out
end Go.Proofs.YthmbgbmcdbdecaaGreat.Tc
