/- TopCube holds for every input: of the cube of any batch, each way leads to the aggregate of just the rows that stand under it, or there is none; the cube has no more cells than its tree; its facts are as many as the tuples. No condition. -/
import Derived.Test.YthmbgbmcdbdecaaGreatG01
import Derived.Test.YthmbgbmcdbdecaaGreatG22
import Derived.Test.YthmbgbmcdbdecaaGreatG45
import Derived.Test.YthmbgbmcdbdecaaGreatG46
import Derived.Test.YthmbgbmcdbdecaaGreatG51
import Derived.SizedLaws
import Derived.ChangeArms
namespace Go.Proofs.YthmbgbmcdbdecaaGreat.Tc
open Go.RowKit Base
set_option linter.unusedVariables false
set_option linter.unusedSimpArgs false
section
attribute [local go_sem] arr_eq
def Ing2 (s : Sch) (rows : List Rw) (w : World) (e : Ending) (w' : World) : Prop := (e = .returned (.tuple #[.slice none 0 0, .int .i64 12]) ∧ Below w.heap.size w w') ∨
 ∃ (A : Option Addr) (c : Nat) (l : List Fa), e = .returned (.tuple #[.slice A l.length c, .int .i64 0]) ∧ (∃ ps qs r, RowsTo s rows ps ∧ qs.Perm ps ∧ SortedP qs ∧ foldP [] qs = some r ∧ l.map pl = r) ∧ FasAt w' w'.heap.size A l ∧ Below w.heap.size w w'
theorem ing2_any (s : Sch) (A : Option Addr) (rows : List Rw) (c : Nat) (w : World) (h : SchAt w w.heap.size s) (hr : RwsAt w w.heap.size A rows) (ho : BatchOk s rows) (hn : rows.length ≤ 64) :
 Calls Tryz.prog 7 #[.agg (schC s), .slice A rows.length c] w (Ing2 s rows w) := by
 refine (ingest_any s A rows c w h hr ho hn).mono ?_
 rintro e w' ⟨ps, qs, h1, h2, h3, h4, h5⟩
 unfold FoldB at h4
 cases hf : foldP [] qs with
 | none => rw [hf] at h4; exact .inl ⟨h4, h5⟩
 | some r =>
  rw [hf] at h4
  obtain ⟨v, l, he, hl, ho, _⟩ := h4
  obtain ⟨A', c', rfl⟩ := ho.form
  exact .inr ⟨A', c', l, he, ⟨ps, qs, r, h1, h2, h3, hf, hl⟩, ho.fas, h5⟩
def PtTo (a : Ag) (m : Nat) (w : World) (e : Ending) (w' : World) : Prop := ∃ f : Int, e = .returned (.tuple #[.agg (agC a), .int .i64 f]) ∧ ((m = 0 ∧ f = 10) ∨ (0 < m ∧ f = 0)) ∧ Below w.heap.size w w'
theorem top_point {s : Sch} {l la : List Fa} {ns : List PNode} {most ga : Nat} {A An : Option Addr} {c cn : Nat} {ys : List Fa} {nds : List Nd} {w : World} {way : List Pos} (h : CubeAt s l ns most ga A An c cn ys nds w) (ht : TopOk s l la way) (hlen : way.length = s.dims.length) (hway : WayTo s way) {Ap : Option Addr} {cp : Nat} (hp : Row w w.heap.size Ap (way.flatMap posV)) :
 Calls Tryz.prog 13 #[.pointer (some ⟨ga, 0, none⟩), .slice Ap way.length cp] w (PtTo ((sumP (pls la) (matchTo s (pls la) way la.length)).getD agZero) (matchTo s (pls la) way la.length).length w) := by
 refine (h.point hp hlen hway).mono ?_
 rintro e w' ⟨he, hb⟩
 rcases hm : matchTo s (pls la) way la.length with _ | ⟨x, xs⟩
 ·obtain ⟨h1, h2⟩ := ht.no ns h.ok hm
  rw [h1] at he
  rw [hm] at h2
  exact ⟨10, by rw [h2]; exact he, .inl ⟨rfl, rfl⟩, hb⟩
 ·obtain ⟨cl, h1, h2⟩ := ht.yes ns h.ok (by rw [hm]; intro h; cases h)
  rw [h1] at he
  rw [hm] at h2
  exact ⟨0, by rw [← h2]; exact he, .inr ⟨Nat.succ_pos _, rfl⟩, hb⟩
def OfTo (w : World) (e : Ending) (w' : World) : Prop := ∃ p q r : Nat, e = .returned (.agg #[.int .i64 (p : Nat), .int .i64 (q : Nat), .int .i64 (r : Nat)]) ∧ q ≤ r ∧ Below w.heap.size w w'
theorem top_census {s : Sch} {l : List Fa} {ns : List PNode} {most ga : Nat} {A An : Option Addr} {c cn : Nat} {ys : List Fa} {nds : List Nd} {w : World} (h : CubeAt s l ns most ga A An c cn ys nds w) :
 Calls Tryz.prog 14 #[.pointer (some ⟨ga, 0, none⟩)] w (OfTo w) := by
 refine h.census.mono ?_
 rintro e w' ⟨he, hb⟩
 have := h.len
 exact ⟨_, _, _, he, h.ok.cells (by omega), hb⟩
def BackTo (n : Nat) (w : World) (e : Ending) (w' : World) : Prop := ∃ (A : Option Addr) (c : Nat), e = .returned (.tuple #[.slice A n c, .int .i64 0]) ∧ Below w.heap.size w w'
theorem top_facts {s : Sch} {l la : List Fa} {ns : List PNode} {most ga : Nat} {A An : Option Addr} {c cn : Nat} {ys : List Fa} {nds : List Nd} {w : World} {way : List Pos} (h : CubeAt s l ns most ga A An c cn ys nds w) (ht : TopOk s l la way) :
 Calls Tryz.prog 15 #[.pointer (some ⟨ga, 0, none⟩), .int .i64 4000] w (BackTo l.length w) := by
 have hl := ht.facts.len
 refine (h.facts (by omega)).mono ?_
 rintro e w' ⟨A', c', x, he, hx, _, _, hb⟩
 have hn := congrArg List.length hx
 rw [List.length_map, h.ok.tuples] at hn
 rw [hn] at he
 exact ⟨A', c', he, hb⟩
set_option maxRecDepth 100000 in
set_option maxHeartbeats 8000000 in
theorem topcube_any (s : Sch) (A : Option Addr) (rows : List Rw) (c : Nat) (A2 : Option Addr) (qs : List Pos) (c2 : Nat) (w : World) (h : SchAt w w.heap.size s) (hr : RwsAt w w.heap.size A rows) (hq : Row w w.heap.size A2 (qs.flatMap posV)) (hn : qs.length * 16 ≤ 140737488351232) :
 Calls Tryz.prog 3 #[.agg (schC s), .slice A rows.length c, .slice A2 qs.length c2] w (RetB (fun r => r = true) w) := by
 have HR := kp (fun r w' h hb => RetB.mono (P := fun r => r = true) (w := w) (r := r) (w' := w') h hb)
 have hb0 := (Below.refl w.heap.size w).alloc (Nat.le_refl _) (.cells (schC s) 25)
 have HS0 := kp (Box.new w 25 (schC s))
 have Hb0 := kp hb0
 have HSc := kp (fun W (hW : Below w.heap.size w W) => (h.below hW).more hW.size)
 have HA := kp (fun W (hW : Below w.heap.size w W) => asked_any s A2 qs c2 W (HSc.out W hW) ((hq.below hW).more hW.size) hn)
 have HBt := kp (show ∀ W, Below w.heap.size w W → Calls Tryz.prog 5 #[.agg (schC s), .slice A rows.length c, .int .i64 5, .int .i64 40] W (RetB (fun r => r = true → BatchOk s rows ∧ s.dims.length ≤ 5 ∧ rows.length ≤ 40) W) from fun W hW => batch_any s A rows c 5 40 W (HSc.out W hW) ((hr.below hW).more hW.size) (by decide) (by decide))
 have HI := kp (fun W (hW : Below w.heap.size w W) ho hn => ing2_any s A rows c W (HSc.out W hW) ((hr.below hW).more hW.size) ho hn)
 have HFx := kp (fun W (hW : Below w.heap.size w W) ho => r20facts_any s A rows c W (HSc.out W hW) ((hr.below hW).more hW.size) ho)
 have HBu := kp built_any
 have HWd := kp wide_any
 have HCb := kp (fun Af cf fs W (hW : Below w.heap.size w W) hf hs hok => (show Calls Tryz.prog 10 #[.agg (schC s), .int .i64 20000, .slice Af fs.length cf] W (CubeRet s fs 20000 W) from cube_any s 20000 Af cf fs W (HSc.out W hW) hf hs hok (by decide)))
 have HM := kp (fun Af Ap fs ps cf cp W (hW : Below w.heap.size w W) => r26matches_any s Af Ap fs ps cf cp W (HSc.out W hW))
 have HSm := kp r26sum_any
 have Hfit := kp (show ∀ r ∈ rows, ∀ x ∈ r.vals, fit x from fun r hx x hv => wf_fit ((hr.each r hx).wf x hv))
 generalize RetB (fun r => r = true) w = Q at *
 clear h hr hq hn hb0
 unfold schC at HS0 Hb0 HA HBt HI HFx HCb HM ⊢
 obtain ⟨z0, z1, _, _⟩ := HS0.out.two
 generalize hW0 : w.alloc (.cells #[.slice s.A s.dims.length s.c, .slice s.Am s.meas.length s.cm] 25) = W0 at *
 have HA0 := kp (HA.out W0 Hb0.out)
 go_enter Tryz.func3, Tryz.ntmps3
 go_wp2_with fail
 refine HA0.out.mono ?_
 clear hW0 z0 z1 HA HA0
 rintro e w1 ⟨Ap, cp, ps, b, rfl, hyes, hb1⟩
 have Hb1 := kp (Hb0.out.trans (hb1.mono Hb0.out.size))
 have HS1 := kp (HS0.out.under hb1)
 clear hb1 HS0 Hb0
 have HB1 := kp (HBt.out w1 Hb1.out)
 obtain ⟨z0, z1, _, _⟩ := HS1.out.two
 go_wp2_with fail
 refine HB1.out.mono ?_
 rintro e w2 ⟨r2, rfl, hr2, hb2⟩
 have Hb2 := kp (Hb1.out.trans (hb2.mono Hb1.out.size))
 have HS2 := kp (HS1.out.under hb2)
 clear z0 z1 HB1 HBt HS1
 cases r2 with
 | false =>
  go_wp2_with fail
  refine (HBu.out w2).mono ?_
  rintro e w3 ⟨_, rfl, rfl, hb3⟩
  have Hf := kp (HR.out true w3 rfl (Hb2.out.trans (hb3.mono Hb2.out.size)))
  go_wp2_with fail
  exact Hf.out
 | true =>
 cases b with
 | false =>
  go_wp2_with fail
  refine (HBu.out w2).mono ?_
  rintro e w3 ⟨_, rfl, rfl, hb3⟩
  have Hf := kp (HR.out true w3 rfl (Hb2.out.trans (hb3.mono Hb2.out.size)))
  go_wp2_with fail
  exact Hf.out
 | true =>
 obtain ⟨hlen, hway, hps⟩ := hyes rfl
 obtain ⟨ho, hd5, hn40⟩ := hr2 rfl
 have Hps2 := kp ((hps.below hb2).more hb2.size)
 have Hlen := kp hlen
 have Hway := kp hway
 have Ho := kp ho
 have Hn40 := kp hn40
 clear hlen hway hps ho hd5 hn40 hyes hr2 hb2 Hb1
 have HI2 := kp (HI.out w2 Hb2.out Ho.out (by have := Hn40.out; omega))
 obtain ⟨z0, z1, _, _⟩ := HS2.out.two
 go_wp2_with fail
 refine HI2.out.mono ?_
 clear HI HI2 z0 z1
 rintro e w3 (⟨rfl, hb3⟩ | ⟨Al, cl, l, rfl, hing, hl3, hb3⟩)
 ·have Hb3 := kp (Hb2.out.trans (hb3.mono Hb2.out.size))
  have HS3 := kp (HS2.out.under hb3)
  clear hb3
  have HF3 := kp (HFx.out w3 Hb3.out Ho.out)
  obtain ⟨z0, z1, _, _⟩ := HS3.out.two
  go_wp2_with fail
  refine HF3.out.mono ?_
  clear z0 z1
  rintro e w4 ⟨Aa, ca, la, rfl, _, _, hb4⟩
  have Hb4 := kp (Hb3.out.trans (hb4.mono Hb3.out.size))
  clear hb4
  go_wp2_with fail
  refine (HBu.out w4).mono ?_
  rintro e w5 ⟨_, rfl, rfl, hb5⟩
  have Hf := kp (HR.out true w5 rfl (Hb4.out.trans (hb5.mono Hb4.out.size)))
  go_wp2_with fail
  exact Hf.out
 ·have Hb3 := kp (Hb2.out.trans (hb3.mono Hb2.out.size))
  have HS3 := kp (HS2.out.under hb3)
  have Hps3 := kp ((Hps2.out.below hb3).more hb3.size)
  have Hl3 := kp hl3
  have Hing := kp hing
  clear hb3 hl3 hing HS2 Hps2 Hb2
  have HF3 := kp (HFx.out w3 Hb3.out Ho.out)
  obtain ⟨z0, z1, _, _⟩ := HS3.out.two
  go_wp2_with fail
  refine HF3.out.mono ?_
  clear z0 z1
  rintro e w4 ⟨Aa, ca, la, rfl, hla4, hft, hb4⟩
  have Hb4 := kp (Hb3.out.trans (hb4.mono Hb3.out.size))
  have HS4 := kp (HS3.out.under hb4)
  have Hps4 := kp ((Hps3.out.below hb4).more hb4.size)
  have Hl4 := kp ((Hl3.out.below hb4).more hb4.size)
  have Hla4 := kp hla4
  have Hft := kp hft
  have hlan : la.length ≤ 40 := by rw [hft.1]; exact Hn40.out
  have HW4 := kp (HWd.out Aa la ca w4 hla4 (by omega) (fun f hf => by
   obtain ⟨i, hi, rfl⟩ := List.getElem_of_mem hf
   have hir : i < rows.length := by rw [← hft.1]; exact hi
   have hk := (key_ok Ho.out.sch (hft.2 i _ _ (List.getElem?_eq_getElem hir) (List.getElem?_eq_getElem hi)).1).len
   have := Ho.out.sch.n2
   omega))
  clear hb4 hla4 hft HS3 Hps3 Hl3 Hb3 HF3 hlan HFx HWd
  go_wp2_with fail
  refine HW4.out.mono ?_
  clear HW4
  rintro e w5 ⟨r5, rfl, hr5, hb5⟩
  have Hb5 := kp (Hb4.out.trans (hb5.mono Hb4.out.size))
  cases r5 with
  | false =>
   clear hr5 hb5
   go_wp2_with fail
   refine (HBu.out w5).mono ?_
   rintro e w6 ⟨_, rfl, rfl, hb6⟩
   have Hf := kp (HR.out true w6 rfl (Hb5.out.trans (hb6.mono Hb5.out.size)))
   go_wp2_with fail
   exact Hf.out
  | true =>
  have HS5 := kp (HS4.out.under hb5)
  have Hps5 := kp ((Hps4.out.below hb5).more hb5.size)
  have Hl5 := kp ((Hl4.out.below hb5).more hb5.size)
  have Hla5 := kp ((Hla4.out.below hb5).more hb5.size)
  have HT := kp (show TopOk s l la ps from by
   obtain ⟨ps', qs', r, a1, a2, a3, a4, a5⟩ := Hing.out
   exact top_ok Ho.out Hn40.out Hfit.out a1 a2 a3 a4 a5 Hft.out (hr5 rfl) Hlen.out Hway.out)
  clear hr5 hb5 HS4 Hps4 Hl4 Hla4 Hb4 Hing Hft Hfit
  have HC5 := kp (HCb.out Al cl l w5 Hb5.out Hl5.out Ho.out.sch HT.out.facts)
  obtain ⟨z0, z1, _, _⟩ := HS5.out.two
  go_wp2_with fail
  refine HC5.out.mono ?_
  clear HC5 HCb z0 z1
  rintro e w6 (⟨ns, ga, A6, An6, c6, cn6, ys, nds, rfl, _, hat6, hb6⟩ | ⟨_, rfl, hb6⟩)
  case inr =>
   have Hb6 := kp (Hb5.out.trans (hb6.mono Hb5.out.size))
   clear hb6
   go_wp2_with fail
   refine (HBu.out w6).mono ?_
   rintro e w7 ⟨_, rfl, rfl, hb7⟩
   have Hf := kp (HR.out true w7 rfl (Hb6.out.trans (hb7.mono Hb6.out.size)))
   go_wp2_with fail
   exact Hf.out
  have Hb6 := kp (Hb5.out.trans (hb6.mono Hb5.out.size))
  have HS6 := kp (HS5.out.under hb6)
  have Hps6 := kp ((Hps5.out.below hb6).more hb6.size)
  have Hla6 := kp ((Hla5.out.below hb6).more hb6.size)
  have Hat6 := kp hat6
  have HM6 := kp (HM.out Aa Ap la ps ca cp w6 Hb6.out Ho.out.sch Hla6.out Hps6.out HT.out.wok HT.out.keys (by have := HT.out.few; omega))
  clear hb6 hat6 HS5 Hps5 Hl5 Hla5 Hb5 HM
  obtain ⟨z0, z1, _, _⟩ := HS6.out.two
  go_wp2_with fail
  refine HM6.out.mono ?_
  clear HM6 z0 z1
  rintro e w7 ⟨v7, rfl, ho7, hb7⟩
  obtain ⟨Am, cm, rfl⟩ := own_formK ho7
  have Hb7 := kp (Hb6.out.trans (hb7.mono Hb6.out.size))
  have Hps7 := kp ((Hps6.out.below hb7).more hb7.size)
  have Hla7 := kp ((Hla6.out.below hb7).more hb7.size)
  have Hat7 := kp (Hat6.out.below hb7)
  have HS7 := kp (HSm.out Aa Am la (matchTo s (pls la) ps la.length) ca cm w7 Hla7.out (row_ownK ho7) HT.out.lt HT.out.bnd (by have := HT.out.fewm; omega))
  clear hb7 ho7 Hps6 Hla6 Hat6 Hb6 HSm HS6
  go_wp2_with fail
  refine HS7.out.mono ?_
  clear HS7
  rintro e w8 ⟨rfl, hb8⟩
  have HPt := kp (fun w Ap cp (h : CubeAt s l ns 20000 ga A6 An6 c6 cn6 ys nds w) hp => top_point h HT.out Hlen.out Hway.out (Ap := Ap) (cp := cp) hp)
  have Hfx := kp (fun w (h : CubeAt s l ns 20000 ga A6 An6 c6 cn6 ys nds w) => top_facts h HT.out)
  have HOf := kp (fun w (h : CubeAt s l ns 20000 ga A6 An6 c6 cn6 ys nds w) => top_census h)
  generalize (matchTo s (pls la) ps la.length).length = m at *
  generalize (sumP (pls la) (matchTo s (pls la) ps la.length)).getD agZero = ag at *
  clear HT Hlen Hway Ho Hn40
  obtain ⟨ac, s0, n0, x0, s1, n1, x1, s2, n2, x2⟩ := ag
  dsimp only [agC]
  have hbz := (Below.refl w8.heap.size w8).alloc (Nat.le_refl _) (.cells #[.int .i64 0, .int .i64 0, .int .i64 0, .int .i64 0, .int .i64 0, .int .i64 0, .int .i64 0, .int .i64 0, .int .i64 0, .int .i64 0] 47)
  have HGz := kp (Box.new w8 47 #[.int .i64 0, .int .i64 0, .int .i64 0, .int .i64 0, .int .i64 0, .int .i64 0, .int .i64 0, .int .i64 0, .int .i64 0, .int .i64 0])
  generalize hWz8 : w8.alloc (.cells #[.int .i64 0, .int .i64 0, .int .i64 0, .int .i64 0, .int .i64 0, .int .i64 0, .int .i64 0, .int .i64 0, .int .i64 0, .int .i64 0] 47) = Wz8 at *
  have HG8 := kp (show Box (setAll Wz8 w8.heap.size 0 [.int .i64 ac, .int .i64 s0, .int .i64 n0, .int .i64 x0, .int .i64 s1, .int .i64 n1, .int .i64 x1, .int .i64 s2, .int .i64 n2, .int .i64 x2]) w8.heap.size 47 #[.int .i64 ac, .int .i64 s0, .int .i64 n0, .int .i64 x0, .int .i64 s1, .int .i64 n1, .int .i64 x1, .int .i64 s2, .int .i64 n2, .int .i64 x2] from box_setAll0 HGz.out [.int .i64 ac, .int .i64 s0, .int .i64 n0, .int .i64 x0, .int .i64 s1, .int .i64 n1, .int .i64 x1, .int .i64 s2, .int .i64 n2, .int .i64 x2] rfl)
  have hbs := below_setAll (Nat.le_refl w8.heap.size) [.int .i64 ac, .int .i64 s0, .int .i64 n0, .int .i64 x0, .int .i64 s1, .int .i64 n1, .int .i64 x1, .int .i64 s2, .int .i64 n2, .int .i64 x2] Wz8 0 hbz
  have hbk := hb8.trans (hbs.mono hb8.size)
  obtain ⟨⟨u0, u1, u2, u3, u4, u5, u6, u7, u8, u9⟩, ⟨v0, v1, v2, v3, v4, v5, v6, v7, v8, v9⟩⟩ := Box.ten HGz.out
  generalize hW8 : setAll Wz8 w8.heap.size 0 _ = W8 at *
  simp only [setAll, Nat.zero_add, Nat.reduceAdd] at hW8
  have Hb8 := kp (Hb7.out.trans (hbk.mono Hb7.out.size))
  have Hps8 := kp ((Hps7.out.below hbk).more hbk.size)
  have Hat8 := kp (Hat7.out.below hbk)
  have HP8 := kp (HPt.out W8 Ap cp Hat8.out Hps8.out)
  clear hbz hbs hbk hb8 HGz Hb7 Hps7 Hat7 Hla7 HPt
  go_wp2_with fail
  refine HP8.out.mono ?_
  clear hW8 hWz8 u0 u1 u2 u3 u4 u5 u6 u7 u8 u9 v0 v1 v2 v3 v4 v5 v6 v7 v8 v9
  rintro e w9 ⟨f9, rfl, hf9, hb9⟩
  dsimp only [agC]
  have hbz := (Below.refl w9.heap.size w9).alloc (Nat.le_refl _) (.cells #[.int .i64 0, .int .i64 0, .int .i64 0, .int .i64 0, .int .i64 0, .int .i64 0, .int .i64 0, .int .i64 0, .int .i64 0, .int .i64 0] 47)
  have HGz := kp (Box.new w9 47 #[.int .i64 0, .int .i64 0, .int .i64 0, .int .i64 0, .int .i64 0, .int .i64 0, .int .i64 0, .int .i64 0, .int .i64 0, .int .i64 0])
  generalize hWz9 : w9.alloc (.cells #[.int .i64 0, .int .i64 0, .int .i64 0, .int .i64 0, .int .i64 0, .int .i64 0, .int .i64 0, .int .i64 0, .int .i64 0, .int .i64 0] 47) = Wz9 at *
  have HG9 := kp (show Box (setAll Wz9 w9.heap.size 0 [.int .i64 ac, .int .i64 s0, .int .i64 n0, .int .i64 x0, .int .i64 s1, .int .i64 n1, .int .i64 x1, .int .i64 s2, .int .i64 n2, .int .i64 x2]) w9.heap.size 47 #[.int .i64 ac, .int .i64 s0, .int .i64 n0, .int .i64 x0, .int .i64 s1, .int .i64 n1, .int .i64 x1, .int .i64 s2, .int .i64 n2, .int .i64 x2] from box_setAll0 HGz.out [.int .i64 ac, .int .i64 s0, .int .i64 n0, .int .i64 x0, .int .i64 s1, .int .i64 n1, .int .i64 x1, .int .i64 s2, .int .i64 n2, .int .i64 x2] rfl)
  have hbs := below_setAll (Nat.le_refl w9.heap.size) [.int .i64 ac, .int .i64 s0, .int .i64 n0, .int .i64 x0, .int .i64 s1, .int .i64 n1, .int .i64 x1, .int .i64 s2, .int .i64 n2, .int .i64 x2] Wz9 0 hbz
  have hbk := hb9.trans (hbs.mono hb9.size)
  obtain ⟨⟨u0, u1, u2, u3, u4, u5, u6, u7, u8, u9⟩, ⟨v0, v1, v2, v3, v4, v5, v6, v7, v8, v9⟩⟩ := Box.ten HGz.out
  generalize hW9 : setAll Wz9 w9.heap.size 0 _ = W9 at *
  simp only [setAll, Nat.zero_add, Nat.reduceAdd] at hW9
  have Hb9 := kp (Hb8.out.trans (hbk.mono Hb8.out.size))
  have Hat9 := kp (Hat8.out.below hbk)
  have HG89 := kp (HG8.out.under hbk)
  have HO9 := kp (HOf.out W9 Hat9.out)
  clear hbz hbs hbk hb9 HGz Hb8 Hps8 Hat8 HOf HG8 HP8
  obtain ⟨a0, a1, a2, a3, a4, a5, a6, a7, a8, a9⟩ := (Box.ten HG89.out).1
  obtain ⟨b0, b1, b2, b3, b4, b5, b6, b7, b8, b9⟩ := (Box.ten HG9.out).1
  clear HG9 HG89
  rcases hf9 with ⟨rfl, rfl⟩ | ⟨hm, rfl⟩
  ·go_wp2_with fail
   refine HO9.out.mono ?_
   clear hW9 hWz9 u0 u1 u2 u3 u4 u5 u6 u7 u8 u9 v0 v1 v2 v3 v4 v5 v6 v7 v8 v9 a0 a1 a2 a3 a4 a5 a6 a7 a8 a9 b0 b1 b2 b3 b4 b5 b6 b7 b8 b9
   rintro e w10 ⟨p, q, r, rfl, hqr, hb10⟩
   have hbz := (Below.refl w10.heap.size w10).alloc (Nat.le_refl _) (.cells #[.int .i64 0, .int .i64 0, .int .i64 0] 53)
   have HGz := kp (Box.new w10 53 #[.int .i64 0, .int .i64 0, .int .i64 0])
   generalize hWz10 : w10.alloc (.cells #[.int .i64 0, .int .i64 0, .int .i64 0] 53) = Wz10 at *
   have HG10 := kp (show Box (setAll Wz10 w10.heap.size 0 [.int .i64 (p : Nat), .int .i64 (q : Nat), .int .i64 (r : Nat)]) w10.heap.size 53 #[.int .i64 (p : Nat), .int .i64 (q : Nat), .int .i64 (r : Nat)] from box_setAll0 HGz.out [.int .i64 (p : Nat), .int .i64 (q : Nat), .int .i64 (r : Nat)] rfl)
   have hbs := below_setAll (Nat.le_refl w10.heap.size) [.int .i64 (p : Nat), .int .i64 (q : Nat), .int .i64 (r : Nat)] Wz10 0 hbz
   have hbk := hb10.trans (hbs.mono hb10.size)
   have u0 := HGz.out.cell 0
   have u1 := HGz.out.cell 1
   have u2 := HGz.out.cell 2
   have v0 := HGz.out.free 0
   have v1 := HGz.out.free 1
   have v2 := HGz.out.free 2
   simp at u0 u1 u2
   generalize hW10 : setAll Wz10 w10.heap.size 0 _ = W10 at *
   simp only [setAll, Nat.zero_add, Nat.reduceAdd] at hW10
   have Hb10 := kp (Hb9.out.trans (hbk.mono Hb9.out.size))
   have Hat10 := kp (Hat9.out.below hbk)
   have HF10 := kp (Hfx.out W10 Hat10.out)
   clear hbz hbs hbk hb10 HGz Hb9 Hat9 HO9 Hfx
   go_wp2_with fail
   refine HF10.out.mono ?_
   clear hW10 hWz10 u0 u1 u2 v0 v1 v2
   rintro e w11 ⟨Ab, cb, rfl, hb11⟩
   have Hb11 := kp (Hb10.out.trans (hb11.mono Hb10.out.size))
   have HG11 := kp (HG10.out.under hb11)
   have u1 := HG11.out.cell 1
   have u2 := HG11.out.cell 2
   simp at u1 u2
   clear HG10 HG11 hb11 Hb10 Hat10 HF10
   have q1 : (q : Int) ≤ (r : Int) := by omega
   have q1d : decide ((q : Int) ≤ (r : Int)) = true := decide_eq_true q1
   have q1n : decide (q ≤ r) = true := decide_eq_true hqr
   go_wp2_with fail
   refine (HBu.out w11).mono ?_
   rintro e w12 ⟨_, rfl, rfl, hb12⟩
   have Hf := kp (HR.out true w12 rfl (Hb11.out.trans (hb12.mono Hb11.out.size)))
   go_wp2_with fail
   exact Hf.out
  ·have qm : decide ((0 : Int) < (m : Int)) = true := decide_eq_true (by omega)
   have qm1 : decide ((m : Int) > (0 : Int)) = true := decide_eq_true (by omega)
   have qm2 : decide (0 < m) = true := decide_eq_true (by omega)
   go_wp2_with fail
   refine HO9.out.mono ?_
   clear hW9 hWz9 u0 u1 u2 u3 u4 u5 u6 u7 u8 u9 v0 v1 v2 v3 v4 v5 v6 v7 v8 v9 a0 a1 a2 a3 a4 a5 a6 a7 a8 a9 b0 b1 b2 b3 b4 b5 b6 b7 b8 b9
   rintro e w10 ⟨p, q, r, rfl, hqr, hb10⟩
   have hbz := (Below.refl w10.heap.size w10).alloc (Nat.le_refl _) (.cells #[.int .i64 0, .int .i64 0, .int .i64 0] 53)
   have HGz := kp (Box.new w10 53 #[.int .i64 0, .int .i64 0, .int .i64 0])
   generalize hWz10 : w10.alloc (.cells #[.int .i64 0, .int .i64 0, .int .i64 0] 53) = Wz10 at *
   have HG10 := kp (show Box (setAll Wz10 w10.heap.size 0 [.int .i64 (p : Nat), .int .i64 (q : Nat), .int .i64 (r : Nat)]) w10.heap.size 53 #[.int .i64 (p : Nat), .int .i64 (q : Nat), .int .i64 (r : Nat)] from box_setAll0 HGz.out [.int .i64 (p : Nat), .int .i64 (q : Nat), .int .i64 (r : Nat)] rfl)
   have hbs := below_setAll (Nat.le_refl w10.heap.size) [.int .i64 (p : Nat), .int .i64 (q : Nat), .int .i64 (r : Nat)] Wz10 0 hbz
   have hbk := hb10.trans (hbs.mono hb10.size)
   have u0 := HGz.out.cell 0
   have u1 := HGz.out.cell 1
   have u2 := HGz.out.cell 2
   have v0 := HGz.out.free 0
   have v1 := HGz.out.free 1
   have v2 := HGz.out.free 2
   simp at u0 u1 u2
   generalize hW10 : setAll Wz10 w10.heap.size 0 _ = W10 at *
   simp only [setAll, Nat.zero_add, Nat.reduceAdd] at hW10
   have Hb10 := kp (Hb9.out.trans (hbk.mono Hb9.out.size))
   have Hat10 := kp (Hat9.out.below hbk)
   have HF10 := kp (Hfx.out W10 Hat10.out)
   clear hbz hbs hbk hb10 HGz Hb9 Hat9 HO9 Hfx
   go_wp2_with fail
   refine HF10.out.mono ?_
   clear hW10 hWz10 u0 u1 u2 v0 v1 v2
   rintro e w11 ⟨Ab, cb, rfl, hb11⟩
   have Hb11 := kp (Hb10.out.trans (hb11.mono Hb10.out.size))
   have HG11 := kp (HG10.out.under hb11)
   have u1 := HG11.out.cell 1
   have u2 := HG11.out.cell 2
   simp at u1 u2
   clear HG10 HG11 hb11 Hb10 Hat10 HF10
   have q1 : (q : Int) ≤ (r : Int) := by omega
   have q1d : decide ((q : Int) ≤ (r : Int)) = true := decide_eq_true q1
   have q1n : decide (q ≤ r) = true := decide_eq_true hqr
   go_wp2_with fail
   refine (HBu.out w11).mono ?_
   rintro e w12 ⟨_, rfl, rfl, hb12⟩
   have Hf := kp (HR.out true w12 rfl (Hb11.out.trans (hb12.mono Hb11.out.size)))
   go_wp2_with fail
   exact Hf.out
end
end Go.Proofs.YthmbgbmcdbdecaaGreat.Tc
namespace Go.Proofs.YthmbgbmcdbdecaaGreat.topCube
open Go.ChangeShapes Go.WideShapes Go.RowKit Base Tc
set_option linter.unusedVariables false
set_option maxRecDepth 100000 in
theorem walk {H : Type} {enc : TypeId × Value → H} {base : Nat} {d0 d1 d2 : DataW H} {p0 p1 p2 : List MemPlace} (v0 v1 v2 : Value) (w : World)
 (hv0 : Value.okWide Tryz.prog w .any base 25 v0) (ht0 : DataW.Trod enc Tryz.prog w 0 (fun _ => true) true 25 v0 d0 p0)
 (hv1 : Value.okWide Tryz.prog w .any base 26 v1) (ht1 : DataW.Trod enc Tryz.prog w 0 (fun _ => true) true 26 v1 d1 p1)
 (hv2 : Value.okWide Tryz.prog w .any base 27 v2) (ht2 : DataW.Trod enc Tryz.prog w 0 (fun _ => true) true 27 v2 d2 p2) (hsz : ∀ A len c, v2 = .slice A len c → len * 16 ≤ 140737488351232) :
 Calls Tryz.prog 3 #[v0, v1, v2] w fun e w' => e = .returned (.bool true) ∧ Below w.heap.size w w' := by
 obtain ⟨s, rfl, hs⟩ := open_sch hv0 ht0
 obtain ⟨o1, n1, k1, rfl⟩ := okWide_slice Tryz.underlying26 hv1
 obtain ⟨o2, n2, k2, rfl⟩ := okWide_slice Tryz.underlying27 hv2
 obtain ⟨f1, h1⟩ := ht1
 obtain ⟨A1, l1, c1, hv1e, hl1, hm1, hr1, ha1⟩ := open_rws (v := .slice o1 n1 k1) h1
 rw [hv1e]
 obtain ⟨f2, h2⟩ := ht2
 obtain ⟨A2, l2, c2, hv2e, hl2, hm2, hr2, _⟩ := open_poss (v := .slice o2 n2 k2) h2
 rw [hv2e] at hsz ⊢
 refine (topcube_any s A1 l1 c1 A2 l2 c2 w hs ⟨Nat.le_trans hl1 hm1, hr1, ha1⟩ hr2 (hsz A2 l2.length c2 rfl)).mono ?_
 rintro e w' ⟨r, rfl, rfl, hb⟩
 exact ⟨rfl, hb⟩
end Go.Proofs.YthmbgbmcdbdecaaGreat.topCube
namespace Go.Proofs.YthmbgbmcdbdecaaGreat.topCube
open Go.ChangeShapes Go.WideShapes Go.ChangeAt Go.RowKit Base
open Go.ChangeMaps (open_string shut_string)
set_option linter.unusedVariables false
theorem own : ownKnob Tryz.prog.godebug = none := by kernel_rfl
theorem laidOut : laidOutB Tryz.prog = true := by kernel_rfl
set_option maxRecDepth 100000 in
theorem lifted (os : Os) (started : os.Started) (H : Type) (enc : TypeId × Value → H) :
 ReturnsInHanded {} Tryz.checked os 3 .any (Rows.topCubeSpec.pre6 enc Tryz.prog Tryz.f3 Rows.topCubeRow.domain false) (Rows.topCubeSpec.post enc Tryz.prog Tryz.f3 false true false false) := by
 refine returnsInHanded_of_change_sized (C := Tryz.checked) own started (by kernel_rfl) Tryz.func3
  (ChangeSpec.witness6 (enc := enc) (C := Tryz.checked) false ⟨#[], #[.agg #[.slice none 0 0, .slice none 0 0], .slice none 0 0, .slice none 0 0], []⟩ 8 (by kernel_rfl) (by kernel_rfl) (by kernel_rfl) (by kernel_rfl)) ?_
 intro W base args ds gs before hval0 hW hcnd hsz _
 have hval : ∀ (j : Nat) t v, Tryz.f3.params[j]? = some t → args[j]? = some v → Value.okWide Tryz.prog W .any base t v := hval0
 have hW' := hW
 obtain ⟨p, q, hA0, hV, rfl, hfz, hnd⟩ := hW
 have hA : DataW.TrodAll enc Tryz.prog W 0 (fun _ => true) true Tryz.f3.params.toList args.toList ds p := hA0
 rw [Tryz.params3] at hA hval
 obtain ⟨v0, vs0, d0, ds0, p0, q0, hargs, rfl, rfl, h0, r0⟩ := trodAll_cons hA
 obtain ⟨v1, vs1, d1, ds1, p1, q1, rfl, rfl, rfl, h1, r1⟩ := trodAll_cons r0
 obtain ⟨v2, vs2, d2, ds2, p2, q2, rfl, rfl, rfl, h2, r2⟩ := trodAll_cons r1
 obtain ⟨rfl, rfl, rfl⟩ := trodAll_nil r2
 obtain rfl : args = #[v0, v1, v2] := by cases args; simp_all
 obtain ⟨rfl, rfl⟩ := trodVars_none hV
 have k0 := h0
 have lt0 : ∀ x ∈ p0, x.block < W.heap.size := by obtain ⟨m, hm⟩ := k0; exact DataW.trod_lt m _ _ _ hm
 have k1 := h1
 have lt1 : ∀ x ∈ p1, x.block < W.heap.size := by obtain ⟨m, hm⟩ := k1; exact DataW.trod_lt m _ _ _ hm
 have k2 := h2
 have lt2 : ∀ x ∈ p2, x.block < W.heap.size := by obtain ⟨m, hm⟩ := k2; exact DataW.trod_lt m _ _ _ hm
 have hlen : ∀ A len c, v2 = .slice A len c → len * 16 ≤ 140737488351232 := by
  intro A len c e
  obtain ⟨fuel, hf⟩ := h2
  subst e
  rcases DataW.trod_slice Tryz.underlying27 hf with ⟨hcs, _⟩ | ⟨a, len', cap, elems, rest, n, _, hcs, hx, _, _, _, hln, _, _⟩
  ·injection (show [Value.slice A len c] = _ from hcs) with hcs
   injection hcs with _ hcs
   subst hcs
   decide
  ·injection (show [Value.slice A len c] = _ from hcs) with hcs
   injection hcs with _ hcs
   subst hcs
   have hd : d2 = .slice (elems.map (·.1)) (rest.map (·.1)) := congrArg Prod.fst hx
   have hb : Tryz.prog.bytesOf 58 = 16 := by kernel_rfl
   have := sized_slice hsz (j := 2) (t := 27) (e := 58) (elems := elems.map (·.1)) (spare := rest.map (·.1)) (by rw [Tryz.params3]; rfl) (by rw [hd]; rfl) Tryz.underlying27
   have hb' : Tryz.checked.prog.bytesOf 58 = 16 := hb
   rw [hb', List.length_map, List.length_map] at this
   unfold reachBytes at this
   omega
 refine (walk v0 v1 v2 W (hval 0 25 v0 rfl rfl) h0 (hval 1 26 v1 rfl rfl) h1 (hval 2 27 v2 rfl rfl) h2 hlen).mono fun e W' ⟨he, bel⟩ => ?_
 subst he
 exact ⟨_, rfl, _, _, _, [], _, [], hW', trodAll_mk1 (shut_bool Tryz.underlying4 _), (trodAll_cons_mk (Below.trod laidOut (by kernel_rfl) (of_decide_eq_true (by kernel_rfl)) k0 bel lt0) (trodAll_cons_mk (Below.trod laidOut (by kernel_rfl) (of_decide_eq_true (by kernel_rfl)) k1 bel lt1) (trodAll_cons_mk (Below.trod laidOut (by kernel_rfl) (of_decide_eq_true (by kernel_rfl)) k2 bel lt2) trodAll_mk0))), rfl, bel.frame _, fun h => by cases h⟩
theorem over : Rows.topCubeRow.holds Tryz.pinned (OpenSpec.ofChange Rows.topCubeSpec) :=
 OpenClaim.holds_of_wide 3 Tryz.f3 rfl rfl rfl rfl rfl rfl rfl ⟨rfl, rfl, rfl, rfl, rfl⟩ rfl rfl rfl rfl rfl (by kernel_rfl) Tryz.func3 (by kernel_rfl)
  (of_decide_eq_true (by kernel_rfl)) (by unfold Func.isWrapper; first | (rw [if_pos (by decide +kernel)]; kernel_rfl) | (rw [if_neg (by decide +kernel)]; exact ⟨rfl, rfl⟩))
  (fun os started H enc _ => lifted os started H enc)
theorem proved : Rows.TopCubeSaid := over
#print axioms proved
end Go.Proofs.YthmbgbmcdbdecaaGreat.topCube
