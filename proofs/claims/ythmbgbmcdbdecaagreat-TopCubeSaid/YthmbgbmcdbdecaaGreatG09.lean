/- Parts of a proof: Layers 17, 6 and 20: the program's rows and batches. -/
import Derived.Test.YthmbgbmcdbdecaaGreatG07
import Derived.Test.YthmbgbmcdbdecaaGreatG08
namespace Go.Proofs.YthmbgbmcdbdecaaGreat.Tc
open Go.RowKit Base
set_option linter.unusedVariables false
set_option linter.unusedSimpArgs false
def RowOf (s : Sch) (r : Rw) (w : World) (e : Ending) (w' : World) : Prop := ∃ (v : Value) (keys : List Nat), e = .returned (.tuple #[v, .int .i64 0]) ∧ RowKeys s r keys ∧ w'.ownsRow w.heap.size 3 1 v keys.length (natV keys) ∧ Below w.heap.size w w'
set_option maxRecDepth 100000 in
set_option maxHeartbeats 2000000 in
theorem row_ok (s : Sch) (r : Rw) (w : World) (h : SchAt w w.heap.size s) (hr : RwAt w w.heap.size r) (ho : SchOk s) (hex : ∃ keys, RowKeys s r keys) : Calls Tryz.prog 48 #[.agg (schC s), .agg (rwC r)] w (RowOf s r w) := by
 obtain ⟨ks, hks⟩ := hex
 have HYes := kp (show ∀ v keys w', RowKeys s r keys → w'.ownsRow w.heap.size 3 1 v keys.length (natV keys) → Below w.heap.size w w' → RowOf s r w (.returned (.tuple #[v, .int .i64 0])) w' from fun v keys w' h1 h2 hb => ⟨v, keys, rfl, h1, h2, hb⟩)
 have hb1 := (Below.refl w.heap.size w).alloc (Nat.le_refl _) (.cells (schC s) 25)
 have hb0 := hb1.alloc hb1.size (.cells (rwC r) 73)
 have Hb0 := kp hb0
 have HB2 := kp ((Box.new w 25 (schC s)).alloc (.cells (rwC r) 73))
 have HB3 := kp (Box.lay (w := w.alloc (.cells (schC s) 25)) (g := w.heap.size + 1) (t := 73) (cs := rwC r) (by simp))
 have H0 := kp ((h.below hb0).more hb0.size)
 have HR0 := kp ((hr.below hb0).more hb0.size)
 have hn := h.n
 have hnm := h.nm
 have hnt := hr.n
 have hnv := hr.nv
 have Ho := kp ho
 have HAt := kp tfind_ok
 have Hks := kp hks
 obtain ⟨i0, ti0, tz0, tz1, tz2⟩ := info_parts info_int
 unfold maxLen at hn hnm hnt hnv
 have e1 : ((r.terms.length : Int) != (s.dims.length : Int)) = false := by simp; have := hks.nt; omega
 have e2 : ((r.vals.length : Int) != (s.meas.length : Int)) = false := by simp; have := hks.nv; omega
 have hle1 : r.terms.length ≤ s.dims.length := by have := hks.nt; omega
 have hle16 : s.dims.length ≤ 16 := ho.n2
 clear h hr ho hb0 hb1 hks
 generalize hQ : RowOf s r w = Q at *
 clear hQ
 unfold schC rwC at *
 go_enter Tryz.func48, Tryz.ntmps48
 go_wp2_with fail
 clear e1 e2
 generalize (w.alloc (.cells #[.slice s.A s.dims.length s.c, .slice s.Am s.meas.length s.cm] 25)).alloc (.cells #[.slice r.A r.terms.length r.c, .slice r.Av r.vals.length r.cv] 73) = W0 at *
 go_loopw [6, 30] (fun v6 v30 wr => ∃ (k : Nat) (keys : List Nat) (A : Option Addr) (c : Nat), k ≤ r.terms.length ∧ v30 = .int .i64 k ∧ v6 = .slice A k c ∧ KeysTo s r k keys ∧ wr.ownsRow W0.heap.size 3 1 (.slice A k c) k (natV keys) ∧ Below W0.heap.size W0 wr) (fun _ v30 _ => r.terms.length - (intOf v30).toNat)
 case atStart => exact ⟨0, [], none, 0, Nat.zero_le _, rfl, rfl, ⟨rfl, fun i _ _ _ h => by omega⟩, own_nil _ _ _ _, Below.refl _ _⟩
 case round =>
  obtain ⟨k, keys, A, c, hk, rfl, rfl, hto, hown, hbe⟩ := hrel
  have Hto := kp hto
  have Hown := kp hown
  have Hbe := kp hbe
  obtain ⟨b0, b1, _, _⟩ := (HB2.out.under hbe).two
  obtain ⟨q0, q1, _, _⟩ := (HB3.out.under hbe).two
  clear hto hown hbe
  by_cases hlt : k < r.terms.length
  ·have hkd : k < s.dims.length := by omega
   have hs := (H0.out.below Hbe.out).more Hbe.out.size
   have hrr := (HR0.out.below Hbe.out).more Hbe.out.size
   obtain ⟨b, off, hA, hb, c0, c1⟩ := hs.dim k hkd
   obtain ⟨bt, ot, hAt, hbt, t0⟩ := Row.at_ hrr.terms (k := k) (by rw [List.length_map]; exact hlt)
   rw [List.getElem_map] at t0
   rw [hA] at b0
   rw [hAt] at q0
   have hdim := Ho.out.dims k hkd
   obtain ⟨hrow, tr, htr, hfin⟩ := hdim.fin_ok
   have hda := hs.dims _ (List.getElem_mem hkd)
   have h0t : 0 < (s.dims[k]'hkd).tiers.length := hdim.n1
   obtain ⟨bd, od, hAd, hbd, d0, d1, d2⟩ := hda.tier 0 h0t
   have hte : (s.dims[k]'hkd).tiers[0]'h0t = tr := by rw [List.getElem?_eq_getElem h0t] at htr; injection htr
   rw [hte] at d0 d1 d2
   have hta := hda.tiers tr (List.mem_of_getElem? htr)
   rw [hAd] at c1
   rw [Nat.zero_mul, Nat.add_zero] at d1
   have hkl : k < ks.length := by rw [Hks.out.n]; exact hkd
   have hati : (fin (s.dims[k]'hkd))[ks[k]'hkl]? = some (r.terms[k]'hlt) := Hks.out.at_ k _ _ _ (List.getElem?_eq_getElem hkd) (List.getElem?_eq_getElem hlt) (List.getElem?_eq_getElem hkl)
   have hlen : tr.terms.length ≤ 1000000 := by
    have := (hdim.tiers 0 h0t).n2
    rw [hte] at this
    omega
   have HAk := kp (HAt.out tr.At tr.terms tr.ct (ks[k]'hkl) (r.terms[k]'hlt) wr hlen hta.terms (by rw [← hfin]; exact hrow) (by rw [← hfin]; exact hati))
   have Hnx := kp (Hto.out.next (List.getElem?_eq_getElem hkd) (List.getElem?_eq_getElem hlt) hati)
   have h2 := hdim.n2
   have e3 : (((s.dims[k]'hkd).tiers.length : Int) == 0) = false := by rw [beq_eq_false_iff_ne]; omega
   have hi0 : (0 : Int) ≤ (k : Int) := by omega
   have hi1 : (k : Int) < (s.dims.length : Int) := by omega
   have hi2 : (k : Int) < (r.terms.length : Int) := by omega
   have hi3 : (0 : Int) < ((s.dims[k]'hkd).tiers.length : Int) := by omega
   rw [hAt]
   clear hs hrr hA hAt hdim htr hfin hda hAd hte hta d0 d2 c0 b1 q1 hrow hati hlen
   generalize (s.dims[k]'hkd).tiers.length = nd at *
   generalize (s.dims[k]'hkd).c = cd at *
   generalize (r.terms[k]'hlt) = x at *
   generalize (ks[k]'hkl) = q at *
   go_wp2_with fail
   refine HAk.out.mono ?_
   rintro e w1 ⟨rfl, hb1⟩
   have Hb2 := kp (Hbe.out.trans (hb1.mono Hbe.out.size))
   have Hown1 := kp (own_below Hown.out hb1)
   have Hs2 := kp Hb2.out.size
   have hk1 : k < 1048576 * 64 := by omega
   clear b0 q0 c1 d1 t0 HAk hb1
   go_wp2_with (at_builtin; refine wpList_append1 rfl (.tmp 59) (.tmp 61) 41 rfl W0.heap.size 3 i0 (.int .i64 0) 8 Tryz.underlying41 ti0 tz0 tz1 tz2 rfl w1 (.int .i64 (q : Int)) rfl (.slice A k c) k (natV keys) rfl Hown1.out rfl hk1 (by decide) Hs2.out ?_; intro v5 w5 hown5 happ5; obtain ⟨A5, c5, h5⟩ := own_form hown5; subst h5; have Hown5 := kp hown5; have Hb5 := kp (happ5.below Hb2.out Hown1.out (Nat.le_refl _) Hs2.out); clear hown5 happ5)
   exact ⟨⟨k + 1, keys ++ [q], A5, c5, by omega, by go_num, rfl, Hnx.out, by rw [natV_snoc]; exact Hown5.out, Hb5.out⟩, by simp [intOf]; omega⟩
  ·obtain rfl : k = r.terms.length := by omega
   have Hkeys := kp (show RowKeys s r keys from ⟨by rw [Hto.out.1]; exact Hks.out.nt, Hks.out.nt, Hks.out.nv, fun i d t q h1 h2 h3 => Hto.out.2 i d t q (by have := (List.getElem?_eq_some_iff.1 h2).1; omega) h1 h2 h3⟩)
   have Hkl := kp Hto.out.1
   have Hw0 := kp Hb0.out.size
   go_wp2_with fail
   exact HYes.out _ keys _ Hkeys.out (by rw [Hkl.out]; exact own_base Hown.out Hw0.out) (Hb0.out.trans (Hbe.out.mono Hb0.out.size))
def RetA0 (a : Ag) (w : World) (e : Ending) (w' : World) : Prop := e = .returned (.tuple #[.agg (agC a), .int .i64 0]) ∧ Below w.heap.size w w'
set_option maxRecDepth 100000 in
set_option maxHeartbeats 4000000 in
theorem aggof_ok (A : Option Addr) (l : List Int) (c : Nat) (w : World) (hl : l.length ≤ 3) (hr : Row w w.heap.size A (l.map (.int .i64))) : Calls Tryz.prog 49 #[.slice A l.length c] w (RetA0 (agOf l) w) := by
 have Hr := kp hr
 have HQ := kp (show ∀ w', Below w.heap.size w w' → RetA0 (agOf l) w (.returned (.tuple #[.agg (agC (agOf l)), .int .i64 0])) w' from fun w' h => ⟨rfl, h⟩)
 generalize hQ : RetA0 (agOf l) w = Q at *
 clear hQ hr
 have hb1 := (Below.refl w.heap.size w).alloc (Nat.le_refl _) (.cells (agC agZero) 47)
 have hb0 := hb1.alloc hb1.size (.cells (agC (agTo l 0)) 47)
 have Hb0 := kp hb0
 have HB2 := kp ((Box.new w 47 (agC agZero)).alloc (.cells (agC (agTo l 0)) 47))
 have HB3 := kp (Box.lay (w := w.alloc (.cells (agC agZero) 47)) (g := w.heap.size + 1) (t := 47) (cs := agC (agTo l 0)) (by simp))
 clear hb0 hb1
 generalize hN : l.length = n at *
 have Hn := kp hN
 clear hN
 have h3' : ¬ (3 : Int) < (n : Int) := by omega
 go_enter Tryz.func49, Tryz.ntmps49
 go_wp2_with fail
 clear h3'
 go_loopw [14] (fun v14 wr => ∃ k : Nat, k ≤ n ∧ v14 = .int .i64 k ∧ Box wr w.heap.size 47 (agC agZero) ∧ Box wr (w.heap.size + 1) 47 (agC (agTo l k)) ∧ Below w.heap.size w wr) (fun v14 _ => n - (intOf v14).toNat)
 case atStart => exact ⟨0, Nat.zero_le _, rfl, HB2.out, HB3.out, Hb0.out⟩
 case round =>
  obtain ⟨k, hk, rfl, hbx2, hbx3, hbe⟩ := hrel
  have Hbx2 := kp hbx2
  have Hbe := kp hbe
  clear hbx2 hbe
  by_cases hlt : k < n
  ·have hkl : k < l.length := by rw [Hn.out]; exact hlt
   obtain ⟨b, off, rfl, hb, c0⟩ := Row.at_ ((Hr.out.below Hbe.out).more Hbe.out.size) (k := k) (by rw [List.length_map]; exact hkl)
   rw [List.getElem_map] at c0
   have hi0 : (0 : Int) ≤ (k : Int) := by omega
   match k, hk, hlt, hkl, hbx3, c0, hi0 with
   | 0, hk, hlt, hkl, hbx3, c0, hi0 => ?_
   | 1, hk, hlt, hkl, hbx3, c0, hi0 => ?_
   | 2, hk, hlt, hkl, hbx3, c0, hi0 => ?_
   | k + 3, hk, hlt, hkl, hbx3, c0, hi0 => omega
   ·rw [agTo_0] at hbx3
    rw [Nat.add_zero] at c0
    have Hbx3 := kp hbx3
    obtain ⟨⟨a0, a1, a2, a3, a4, a5, a6, a7, a8, a9⟩, ⟨f0, f1, f2, f3, f4, f5, f6, f7, f8, f9⟩⟩ := Box.ten hbx3
    have Hpv := kp (show pv l 0 = (l[0]'hkl) by unfold pv; rw [List.getElem?_eq_getElem hkl]; rfl)
    have hi1 : (0 : Int) < (n : Int) := by omega
    have hi2 : ((0 : Nat) : Int) < (n : Int) := by omega
    clear hbx3
    generalize (l[0]'hkl) = y at *
    go_wp2_with fail
    refine ⟨⟨1, by omega, by go_num, ?_, ?_, ?_⟩, by simp [intOf]; omega⟩
    ·exact ((Hbx2.out.far (p := ⟨w.heap.size + 1, 1, none⟩) (by simp) _).far (p := ⟨w.heap.size + 1, 2, none⟩) (by simp) _).far (p := ⟨w.heap.size + 1, 3, none⟩) (by simp) _
    ·rw [agTo_1, Hpv.out]
     exact ((Hbx3.out.set 1 (.int .i64 y)).set 2 (.int .i64 y)).set 3 (.int .i64 y)
    ·exact ((Hbe.out.setCell (p := ⟨w.heap.size + 1, 1, none⟩) (by simp) _).setCell (p := ⟨w.heap.size + 1, 2, none⟩) (by simp) _).setCell (p := ⟨w.heap.size + 1, 3, none⟩) (by simp) _
   ·rw [agTo_1] at hbx3
    have Hbx3 := kp hbx3
    obtain ⟨⟨a0, a1, a2, a3, a4, a5, a6, a7, a8, a9⟩, ⟨f0, f1, f2, f3, f4, f5, f6, f7, f8, f9⟩⟩ := Box.ten hbx3
    have Hpv := kp (show pv l 1 = (l[1]'hkl) by unfold pv; rw [List.getElem?_eq_getElem hkl]; rfl)
    have hi1 : (1 : Int) < (n : Int) := by omega
    have hi2 : ((1 : Nat) : Int) < (n : Int) := by omega
    clear hbx3
    generalize (l[1]'hkl) = y at *
    go_wp2_with fail
    refine ⟨⟨2, by omega, by go_num, ?_, ?_, ?_⟩, by simp [intOf]; omega⟩
    ·exact ((Hbx2.out.far (p := ⟨w.heap.size + 1, 4, none⟩) (by simp) _).far (p := ⟨w.heap.size + 1, 5, none⟩) (by simp) _).far (p := ⟨w.heap.size + 1, 6, none⟩) (by simp) _
    ·rw [agTo_2, Hpv.out]
     exact ((Hbx3.out.set 4 (.int .i64 y)).set 5 (.int .i64 y)).set 6 (.int .i64 y)
    ·exact ((Hbe.out.setCell (p := ⟨w.heap.size + 1, 4, none⟩) (by simp) _).setCell (p := ⟨w.heap.size + 1, 5, none⟩) (by simp) _).setCell (p := ⟨w.heap.size + 1, 6, none⟩) (by simp) _
   ·rw [agTo_2] at hbx3
    have Hbx3 := kp hbx3
    obtain ⟨⟨a0, a1, a2, a3, a4, a5, a6, a7, a8, a9⟩, ⟨f0, f1, f2, f3, f4, f5, f6, f7, f8, f9⟩⟩ := Box.ten hbx3
    have Hpv := kp (show pv l 2 = (l[2]'hkl) by unfold pv; rw [List.getElem?_eq_getElem hkl]; rfl)
    have hi1 : (2 : Int) < (n : Int) := by omega
    have hi2 : ((2 : Nat) : Int) < (n : Int) := by omega
    clear hbx3
    generalize (l[2]'hkl) = y at *
    go_wp2_with fail
    refine ⟨⟨3, by omega, by go_num, ?_, ?_, ?_⟩, by simp [intOf]; omega⟩
    ·exact ((Hbx2.out.far (p := ⟨w.heap.size + 1, 7, none⟩) (by simp) _).far (p := ⟨w.heap.size + 1, 8, none⟩) (by simp) _).far (p := ⟨w.heap.size + 1, 9, none⟩) (by simp) _
    ·rw [agTo_3, Hpv.out]
     exact ((Hbx3.out.set 7 (.int .i64 y)).set 8 (.int .i64 y)).set 9 (.int .i64 y)
    ·exact ((Hbe.out.setCell (p := ⟨w.heap.size + 1, 7, none⟩) (by simp) _).setCell (p := ⟨w.heap.size + 1, 8, none⟩) (by simp) _).setCell (p := ⟨w.heap.size + 1, 9, none⟩) (by simp) _
  ·obtain rfl : k = n := by omega
   rw [agTo_three l k (by rw [Hn.out]; exact hl) (by rw [Hn.out]; exact Nat.le_refl _)] at hbx3
   have Hbx3 := kp hbx3
   clear hbx3
   generalize agOf l = a at *
   obtain ⟨⟨a0, a1, a2, a3, a4, a5, a6, a7, a8, a9⟩, _⟩ := Box.ten Hbx3.out
   obtain ⟨⟨b0, b1, b2, b3, b4, b5, b6, b7, b8, b9⟩, ⟨f0, f1, f2, f3, f4, f5, f6, f7, f8, f9⟩⟩ := Box.ten Hbx2.out
   go_wp2_with fail
   have Hbf := kp (Below.ten_set (.int .i64 a.c) (.int .i64 a.s0) (.int .i64 a.n0) (.int .i64 a.x0) (.int .i64 a.s1) (.int .i64 a.n1) (.int .i64 a.x1) (.int .i64 a.s2) (.int .i64 a.n2) (.int .i64 a.x2) Hbe.out (Nat.le_refl w.heap.size))
   have hbox := Box.ten_set (.int .i64 a.c) (.int .i64 a.s0) (.int .i64 a.n0) (.int .i64 a.x0) (.int .i64 a.s1) (.int .i64 a.n1) (.int .i64 a.x1) (.int .i64 a.s2) (.int .i64 a.n2) (.int .i64 a.x2) Hbx2.out
   clear a0 a1 a2 a3 a4 a5 a6 a7 a8 a9 b0 b1 b2 b3 b4 b5 b6 b7 b8 b9 f0 f1 f2 f3 f4 f5 f6 f7 f8 f9
   revert Hbf hbox
   generalize ((((((((((wr.setCell ⟨w.heap.size, 0, none⟩ (.int .i64 a.c)).setCell ⟨w.heap.size, 1, none⟩ (.int .i64 a.s0)).setCell ⟨w.heap.size, 2, none⟩ (.int .i64 a.n0)).setCell ⟨w.heap.size, 3, none⟩ (.int .i64 a.x0)).setCell ⟨w.heap.size, 4, none⟩ (.int .i64 a.s1)).setCell ⟨w.heap.size, 5, none⟩ (.int .i64 a.n1)).setCell ⟨w.heap.size, 6, none⟩ (.int .i64 a.x1)).setCell ⟨w.heap.size, 7, none⟩ (.int .i64 a.s2)).setCell ⟨w.heap.size, 8, none⟩ (.int .i64 a.n2)).setCell ⟨w.heap.size, 9, none⟩ (.int .i64 a.x2)) = Wf
   intro Hbf hbox
   obtain ⟨⟨a0, a1, a2, a3, a4, a5, a6, a7, a8, a9⟩, _⟩ := Box.ten hbox
   refine bodyPost_ret (v := .tuple #[.agg (agC a), .int .i64 0]) (by simp [results, Tryz.results49, go_sem, a0, a1, a2, a3, a4, a5, a6, a7, a8, a9]) rfl (HQ.out _ Hbf.out)
set_option maxRecDepth 100000 in
set_option maxHeartbeats 2000000 in
theorem batchcheck_ok (s : Sch) (A : Option Addr) (l : List Rw) (c : Nat) (w : World) (h : SchAt w w.heap.size s) (hr : RwsAt w w.heap.size A l) (ho : BatchOk s l) : Calls Tryz.prog 47 #[.agg (schC s), .slice A l.length c] w (RetI (fun r => r = 0) w) := by
 have HR := kp (fun r w' h hb => RetI.mono (P := fun r => r = 0) (w := w) (r := r) (w' := w') h hb)
 have hb0 := (Below.refl w.heap.size w).alloc (Nat.le_refl _) (.cells (schC s) 25)
 have Hb0 := kp hb0
 have HB := kp (Box.new w 25 (schC s))
 have H0 := kp ((h.below hb0).more hb0.size)
 have HR0 := kp ((hr.below hb0).more hb0.size)
 have hn := hr.n
 have HW := kp (schcheck_ok s (w.alloc (.cells (schC s) 25)) ((h.below hb0).more hb0.size) ho.sch)
 have HRow := kp row_ok
 have Ho := kp ho
 have h300 := ho.n
 unfold maxLen at hn
 clear h hr hb0 ho
 generalize hQ : RetI (fun r => r = 0) w = Q at *
 clear hQ
 unfold schC at HB Hb0 H0 HR0 HW ⊢
 have HBf := kp (show ∀ W, Below (w.alloc (.cells #[.slice s.A s.dims.length s.c, .slice s.Am s.meas.length s.cm] 25)).heap.size (w.alloc (.cells #[.slice s.A s.dims.length s.c, .slice s.Am s.meas.length s.cm] 25)) W → Below w.heap.size w W from fun W hW => Hb0.out.trans (hW.mono Hb0.out.size))
 obtain ⟨z0, z1, _, _⟩ := HB.out.two
 go_enter Tryz.func47, Tryz.ntmps47
 go_wp2_with fail
 refine HW.out.mono ?_
 clear z0 z1
 generalize w.alloc (.cells #[.slice s.A s.dims.length s.c, .slice s.Am s.meas.length s.cm] 25) = W0 at *
 rintro e w1 ⟨n, rfl, rfl, hb1⟩
 have Hb1 := kp hb1
 clear hb1 HW
 have h3' : ¬ (300 : Int) < (l.length : Int) := by omega
 go_wp2_with fail
 clear h3'
 go_loopw [20] (fun v20 wr => ∃ k : Nat, k ≤ l.length ∧ v20 = .int .i64 k ∧ Below W0.heap.size W0 wr) (fun v20 _ => l.length - (intOf v20).toNat)
 case atStart => exact ⟨0, Nat.zero_le _, rfl, Hb1.out⟩
 case round =>
  obtain ⟨k, hk, rfl, hbe⟩ := hrel
  have Hbe := kp hbe
  clear hbe
  by_cases hlt : k < l.length
  ·have hrs := (HR0.out.below Hbe.out).more Hbe.out.size
   have hss := (H0.out.below Hbe.out).more Hbe.out.size
   obtain ⟨b, off, rfl, hb, c0, c1⟩ := hrs.rw_ k hlt
   have hrw := hrs.each _ (List.getElem_mem hlt)
   have hbA := (Below.refl wr.heap.size wr).alloc (Nat.le_refl _) (.cells (rwC (l[k]'hlt)) 73)
   have HRk := kp (HRow.out s (l[k]'hlt) _ ((hss.below hbA).more hbA.size) ((hrw.below hbA).more hbA.size) Ho.out.sch (Ho.out.rows _ (List.getElem_mem hlt)))
   have HbA := kp (Hbe.out.trans (hbA.mono Hbe.out.size))
   have HBx := kp ((HB.out.under Hbe.out).under hbA)
   have HBr := kp (Box.new wr 73 (rwC (l[k]'hlt)))
   unfold rwC at HRk HbA HBx HBr
   unfold schC at HRk
   have hi0 : (0 : Int) ≤ (k : Int) := by omega
   have hi1 : (k : Int) < (l.length : Int) := by omega
   clear hrs hss hrw hbA
   generalize hrk : (l[k]'hlt) = r at *
   clear hrk
   go_upto_region 9 with fail
   clear c0 c1
   generalize wr.alloc (.cells #[.slice r.A r.terms.length r.c, .slice r.Av r.vals.length r.cv] 73) = W2 at *
   obtain ⟨b0, b1, _, _⟩ := HBx.out.two
   obtain ⟨q0, q1, _, _⟩ := HBr.out.two
   go_wp2_with fail
   refine HRk.out.mono ?_
   rintro e w2 ⟨v, keys, rfl, _, _, hb2⟩
   have Hb2 := kp (HbA.out.trans (hb2.mono HbA.out.size))
   clear hb2 b0 b1 q0 q1 HRk
   go_wp2_with fail
   exact ⟨⟨k + 1, by omega, by go_num, Hb2.out⟩, by simp [intOf]; omega⟩
  ·go_wp2_with fail
   exact HR.out _ _ rfl (HBf.out _ Hbe.out)
theorem own_cap {w : World} {B sz n c : Nat} {A : Option Addr} {e : TypeId} {xs : List Value} (h : w.ownsRow B e sz (.slice A n c) n xs) : n ≤ c ∧ c ≤ 9223372036854775807 := by
 rcases h.2 with ⟨h0, h1⟩ | ⟨g, cap, cur, hv, hB, hh, hnc, hcm, _⟩
 ·injection h0 with _ _ h2
  omega
 ·injection hv with _ _ hc
  unfold maxLen at hcm
  omega
def FactsRet0 (s : Sch) (rows : List Rw) (w : World) (e : Ending) (w' : World) : Prop := ∃ (A : Option Addr) (c : Nat) (l : List Fa), e = .returned (.tuple #[.slice A l.length c, .int .i64 0]) ∧ FasAt w' w'.heap.size A l ∧ FactsTo s rows rows.length l ∧ (l.length ≤ c ∧ c ≤ 9223372036854775807) ∧ Below w.heap.size w w'
set_option maxRecDepth 100000 in
set_option maxHeartbeats 2000000 in
theorem batchfacts_ok (s : Sch) (A : Option Addr) (rows : List Rw) (c : Nat) (w : World) (h : SchAt w w.heap.size s) (hr : RwsAt w w.heap.size A rows) (ho : BatchOk s rows) : Calls Tryz.prog 20 #[.agg (schC s), .slice A rows.length c] w (FactsRet0 s rows w) := by
 have HYes := kp (show ∀ A' c' l w', FasAt w' w'.heap.size A' l → FactsTo s rows rows.length l → (l.length ≤ c' ∧ c' ≤ 9223372036854775807) → Below w.heap.size w w' → FactsRet0 s rows w (.returned (.tuple #[.slice A' l.length c', .int .i64 0])) w' from fun A' c' l w' h1 h2 h3 hb => ⟨A', c', l, rfl, h1, h2, h3, hb⟩)
 have hb0 := (Below.refl w.heap.size w).alloc (Nat.le_refl _) (.cells (schC s) 25)
 have Hb0 := kp hb0
 have HB := kp (Box.new w 25 (schC s))
 have H0 := kp ((h.below hb0).more hb0.size)
 have HR0 := kp ((hr.below hb0).more hb0.size)
 have hn := ho.n
 have Ho := kp ho
 have HRow := kp row_ok
 have HOf := kp aggof_ok
 have HChk := kp (batchcheck_ok s A rows c (w.alloc (.cells (schC s) 25)) ((h.below hb0).more hb0.size) ((hr.below hb0).more hb0.size) ho)
 obtain ⟨i0, ti0, tz0, tz1, tz2⟩ := info_parts info_fact
 clear h hr ho hb0
 generalize hQ : FactsRet0 s rows w = Q at *
 clear hQ
 unfold schC at HB Hb0 H0 HR0 HChk ⊢
 obtain ⟨z0, z1, _, _⟩ := HB.out.two
 go_enter Tryz.func20, Tryz.ntmps20
 go_wp2_with fail
 refine HChk.out.mono ?_
 clear z0 z1
 generalize w.alloc (.cells #[.slice s.A s.dims.length s.c, .slice s.Am s.meas.length s.cm] 25) = W0 at *
 rintro e w1 ⟨n, rfl, rfl, hb1⟩
 have Hb1 := kp hb1
 clear hb1 HChk
 go_wp2_with fail
 go_loopw [7, 22] (fun v7 v22 wr => ∃ (k : Nat) (l : List Fa) (A' : Option Addr) (c' : Nat), k ≤ rows.length ∧ v22 = .int .i64 k ∧ v7 = .slice A' k c' ∧ FactsTo s rows k l ∧ wr.ownsRow W0.heap.size 78 11 (.slice A' k c') k (l.flatMap factV) ∧ (∀ f ∈ l, FaAp wr (.slice A' k c') f) ∧ Below W0.heap.size W0 wr) (fun _ v22 _ => rows.length - (intOf v22).toNat)
 case atStart => exact ⟨0, [], none, 0, Nat.zero_le _, rfl, rfl, ⟨rfl, fun i _ _ _ h => by simp at h⟩, own_nil _ _ _ _, (fun f hf => by cases hf), Hb1.out⟩
 case round =>
  obtain ⟨k, l, A', c', hk, rfl, rfl, hto, hown, hap, hbe⟩ := hrel
  have Hto := kp hto
  have Hown := kp hown
  have Hap := kp hap
  have Hbe := kp hbe
  clear hto hown hap hbe
  by_cases hlt : k < rows.length
  ·have hrs := (HR0.out.below Hbe.out).more Hbe.out.size
   have hss := (H0.out.below Hbe.out).more Hbe.out.size
   obtain ⟨b, off, rfl, hb, c0, c1⟩ := hrs.rw_ k hlt
   have hrw := hrs.each _ (List.getElem_mem hlt)
   have hbA := (Below.refl wr.heap.size wr).alloc (Nat.le_refl _) (.cells (rwC (rows[k]'hlt)) 73)
   have HRk := kp (HRow.out s (rows[k]'hlt) _ ((hss.below hbA).more hbA.size) ((hrw.below hbA).more hbA.size) Ho.out.sch (Ho.out.rows _ (List.getElem_mem hlt)))
   have Hrw := kp ((hrw.below hbA).more hbA.size)
   have HbA := kp hbA
   have HBx := kp ((HB.out.under Hbe.out).under hbA)
   have HBr := kp (Box.new wr 73 (rwC (rows[k]'hlt)))
   have Hat := kp (List.getElem?_eq_getElem hlt)
   unfold rwC at HRk HbA HBx HBr Hrw
   unfold schC at HRk
   have hi0 : (0 : Int) ≤ (k : Int) := by omega
   have hi1 : (k : Int) < (rows.length : Int) := by omega
   clear hrs hss hrw hbA
   generalize (rows[k]'hlt) = r at *
   go_upto_region 8 with fail
   clear c0 c1
   generalize wr.alloc (.cells #[.slice r.A r.terms.length r.c, .slice r.Av r.vals.length r.cv] 73) = W2 at *
   obtain ⟨b0, b1, _, _⟩ := HBx.out.two
   obtain ⟨q0, q1, _, _⟩ := HBr.out.two
   go_wp2_with fail
   refine HRk.out.mono ?_
   rintro e w2 ⟨v, keys, rfl, hkeys, hownk, hb2⟩
   obtain ⟨Ak, ck, rfl⟩ := own_formK hownk
   have Hkeys := kp hkeys
   have Hownk := kp hownk
   have Hb2 := kp hb2
   have HBr2 := kp (HBr.out.under hb2)
   have hvn : r.vals.length ≤ 3 := by rw [hkeys.nv]; exact Ho.out.sch.m2
   have HOfk := kp (HOf.out r.Av r.vals r.cv w2 hvn ((Hrw.out.vals.below hb2).more hb2.size))
   clear hb2 b0 b1 q0 q1 HRk hkeys hownk hvn
   obtain ⟨q0, q1, _, _⟩ := HBr2.out.two
   go_wp2_with fail
   refine HOfk.out.mono ?_
   rintro e w3 ⟨rfl, hb3⟩
   have Hb3 := kp (HbA.out.trans ((Hb2.out.trans (hb3.mono Hb2.out.size)).mono HbA.out.size))
   have Hownk3 := kp (own_below Hownk.out hb3)
   clear hb3 q0 q1 HOfk
   have Hag := kp (show agOf r.vals = agOf r.vals from rfl)
   have Hnx := kp (Hto.out.next (f := ⟨Ak, keys, ck, agOf r.vals⟩) Hat.out Hkeys.out rfl)
   have hbG := (Below.refl w3.heap.size w3).alloc (Nat.le_refl _) (.cells (agC (agOf r.vals)) 47)
   have HBg := kp (Box.new w3 47 (agC (agOf r.vals)))
   have Hb4 := kp (Hb3.out.trans (hbG.mono Hb3.out.size))
   have Hown4 := kp (own_below Hown.out Hb4.out)
   have Hap4 := kp (fun f hf => (Hap.out f hf).below Hb4.out)
   have Hbe4 := kp (Hbe.out.trans (Hb4.out.mono Hbe.out.size))
   have HapN := kp (show FaAp (w3.alloc (.cells (agC (agOf r.vals)) 47)) (.slice A' k c') ⟨Ak, keys, ck, agOf r.vals⟩ from FaAp.new (B := W2.heap.size) (own_below Hownk3.out hbG) (fun j hj => Nat.lt_of_lt_of_le (Hown.out.lt j hj).2 HbA.out.size))
   have hk1 : k + 1 < 1048576 * 64 := by omega
   have Hs4 := kp Hbe4.out.size
   clear hbG Hag
   generalize agOf r.vals = ag at *
   go_upto_region 10 with fail
   generalize w3.alloc (.cells (agC ag) 47) = W4 at *
   generalize w3.heap.size = g3 at *
   obtain ⟨⟨a0, a1, a2, a3, a4, a5, a6, a7, a8, a9⟩, _⟩ := Box.ten HBg.out
   go_wp2_with (at_builtin; refine wpList_appK rfl (.tmp 38) (.tmp 42) 32 rfl W0.heap.size 78 i0 _ 11 104 Tryz.underlying32 ti0 tz0 tz1 tz2 rfl (by decide) W4 (factC ⟨Ak, keys, ck, ag⟩) rfl (fact_one _) (.slice A' k c') k (l.flatMap factV) rfl Hown4.out rfl hk1 (by decide) Hs4.out ?_; intro v5 w5 hown5 happ5; obtain ⟨A5, c5, h5⟩ := own_formK hown5; subst h5; have Hown5 := kp hown5; have Hb5 := kp (happ5.belowK Hbe4.out Hown4.out (Nat.le_refl _) Hs4.out); have Hap5 := kp (show ∀ f ∈ l ++ [⟨Ak, keys, ck, ag⟩], FaAp w5 (.slice A5 (k + 1) c5) f from fun f hf => by (rcases List.mem_append.1 hf with hf | hf; exact (Hap4.out f hf).app happ5; rw [List.mem_singleton.1 hf]; exact HapN.out.app happ5)); clear hown5 happ5)
   refine ⟨⟨k + 1, l ++ [⟨Ak, keys, ck, ag⟩], A5, c5, by omega, by go_num, rfl, Hnx.out, ?_, Hap5.out, Hb5.out⟩, by simp [intOf]; omega⟩
   rw [List.flatMap_append]
   exact Hown5.out
  ·obtain rfl : k = rows.length := by omega
   have Hll := kp Hto.out.1
   have Hfin := kp (show FasAt wr wr.heap.size A' l from ⟨row_ownK Hown.out, fun f hf => (Hap.out f hf).1⟩)
   go_wp2_with fail
   have := HYes.out A' c' l _ Hfin.out Hto.out (by rw [Hll.out]; exact own_cap Hown.out) (Hb0.out.trans (Hbe.out.mono Hb0.out.size))
   rw [Hll.out] at this
   exact this
end Go.Proofs.YthmbgbmcdbdecaaGreat.Tc
