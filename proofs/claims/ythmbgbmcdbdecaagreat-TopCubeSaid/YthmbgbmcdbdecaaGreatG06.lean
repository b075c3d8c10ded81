/- Parts of a proof: Layer 20: a batch that may be, as the document has it. Layer 6: aggregates; the document's Of. -/
import Derived.Test.YthmbgbmcdbdecaaGreatG01
import Derived.Test.YthmbgbmcdbdecaaGreatG05
import Derived.Deep.Fields
import Derived.ChangeSame
import Derived.WalkLawsBesides
import Derived.WalkSpells
import Derived.Deep.QuietTactic
import Derived.BigQuiet
import Derived.Deep.Cut
import Derived.Lib.Strings
namespace Go.Proofs.YthmbgbmcdbdecaaGreat.Tc
open Go.RowKit Base
set_option linter.unusedVariables false
set_option linter.unusedSimpArgs false
structure BatchOk (s : Sch) (l : List Rw) : Prop where
 sch : SchOk s
 n : l.length ≤ 300
 rows : ∀ r ∈ l, ∃ keys, RowKeys s r keys
set_option maxRecDepth 100000 in
set_option maxHeartbeats 2000000 in
theorem r20wrong_any (s : Sch) (A : Option Addr) (l : List Rw) (c : Nat) (w : World) (h : SchAt w w.heap.size s) (hr : RwsAt w w.heap.size A l) : Calls Tryz.prog 18 #[.agg (schC s), .slice A l.length c] w (RetI (fun r => r = 0 → BatchOk s l) w) := by
 have HR := kp (fun r w' h hb => RetI.mono (P := fun r => r = 0 → BatchOk s l) (w := w) (r := r) (w' := w') h hb)
 have hb0 := (Below.refl w.heap.size w).alloc (Nat.le_refl _) (.cells (schC s) 25)
 have Hb0 := kp hb0
 have HB := kp (Box.new w 25 (schC s))
 have H0 := kp ((h.below hb0).more hb0.size)
 have HR0 := kp ((hr.below hb0).more hb0.size)
 have hn := hr.n
 have HW := kp (r17wrong_any s (w.alloc (.cells (schC s) 25)) ((h.below hb0).more hb0.size))
 have HRow := kp r17row_any
 have HOk := kp (show SchOk s → l.length ≤ 300 → (∀ r ∈ l, ∃ keys, RowKeys s r keys) → BatchOk s l from fun a b c => ⟨a, b, c⟩)
 unfold maxLen at hn
 clear h hr hb0
 generalize hQ : RetI (fun r => r = 0 → BatchOk s l) w = Q at *
 clear hQ
 unfold schC at HB Hb0 H0 HR0 HW ⊢
 have HBf := kp (show ∀ W, Below (w.alloc (.cells #[.slice s.A s.dims.length s.c, .slice s.Am s.meas.length s.cm] 25)).heap.size (w.alloc (.cells #[.slice s.A s.dims.length s.c, .slice s.Am s.meas.length s.cm] 25)) W → Below w.heap.size w W from fun W hW => Hb0.out.trans (hW.mono Hb0.out.size))
 obtain ⟨z0, z1, _, _⟩ := HB.out.two
 go_enter Tryz.func18, Tryz.ntmps18
 go_wp2_with fail
 refine HW.out.mono ?_
 clear z0 z1
 generalize w.alloc (.cells #[.slice s.A s.dims.length s.c, .slice s.Am s.meas.length s.cm] 25) = W0 at *
 rintro e w1 ⟨n, rfl, hn1, hb1⟩
 have Hn1 := kp hn1
 have Hb1 := kp hb1
 clear hn1 hb1 HW
 by_cases he : n = 0
 ·subst he
  have h00 : ((0 : Int) != 0) = false := by simp
  have Hso := kp (Hn1.out rfl)
  clear Hn1
  by_cases h300 : l.length ≤ 300
  ·have h3' : ¬ (300 : Int) < (l.length : Int) := by omega
   go_wp2_with fail
   clear h3'
   go_loopw [20] (fun v20 wr => ∃ k : Nat, k ≤ l.length ∧ v20 = .int .i64 k ∧ (∀ r ∈ l.take k, ∃ keys, RowKeys s r keys) ∧ Below W0.heap.size W0 wr) (fun v20 _ => l.length - (intOf v20).toNat)
   case atStart => exact ⟨0, Nat.zero_le _, rfl, by simp, Hb1.out⟩
   case round =>
    obtain ⟨k, hk, rfl, hto, hbe⟩ := hrel
    have Hto := kp hto
    have Hbe := kp hbe
    clear hto hbe
    by_cases hlt : k < l.length
    ·have hrs := (HR0.out.below Hbe.out).more Hbe.out.size
     have hss := (H0.out.below Hbe.out).more Hbe.out.size
     obtain ⟨b, off, rfl, hb, c0, c1⟩ := hrs.rw_ k hlt
     have hrw := hrs.each _ (List.getElem_mem hlt)
     have Htk := kp (show (∃ keys, RowKeys s (l[k]'hlt) keys) → ∀ r ∈ l.take (k + 1), ∃ keys, RowKeys s r keys from fun h r hr => by
      rw [List.take_succ_eq_append_getElem hlt] at hr
      rcases List.mem_append.1 hr with hr | hr
      ·exact Hto.out r hr
      ·rw [List.mem_singleton.1 hr]; exact h)
     have hbA := (Below.refl wr.heap.size wr).alloc (Nat.le_refl _) (.cells (rwC (l[k]'hlt)) 73)
     have HRk := kp (HRow.out s (l[k]'hlt) _ ((hss.below hbA).more hbA.size) ((hrw.below hbA).more hbA.size) Hso.out)
     have HbA := kp (Hbe.out.trans (hbA.mono Hbe.out.size))
     have HBx := kp ((HB.out.under Hbe.out).under hbA)
     have HBr := kp (Box.new wr 73 (rwC (l[k]'hlt)))
     unfold rwC at HRk HbA HBx HBr
     unfold schC at HRk
     have hi0 : (0 : Int) ≤ (k : Int) := by omega
     have hi1 : (k : Int) < (l.length : Int) := by omega
     clear hrs hss hrw hbA
     generalize hrk : (l[k]'hlt) = r at *
     clear hrk
     go_upto_region 9 with fail
     clear c0 c1
     generalize wr.alloc (.cells #[.slice r.A r.terms.length r.c, .slice r.Av r.vals.length r.cv] 73) = W2 at *
     obtain ⟨b0, b1, _, _⟩ := HBx.out.two
     obtain ⟨q0, q1, _, _⟩ := HBr.out.two
     go_wp2_with fail
     refine HRk.out.mono ?_
     rintro e w2 ⟨v, n, rfl, hn2, _, hb2⟩
     have Hn2 := kp hn2
     have Hb2 := kp (HbA.out.trans (hb2.mono HbA.out.size))
     clear hn2 hb2 b0 b1 q0 q1 HRk
     by_cases he : n = 0
     ·subst he
      have Hnx := kp (Htk.out (by obtain ⟨keys, hk1, _⟩ := Hn2.out rfl; exact ⟨keys, hk1⟩))
      clear Hn2
      go_wp2_with fail
      exact ⟨⟨k + 1, by omega, by go_num, Hnx.out, Hb2.out⟩, by simp [intOf]; omega⟩
     ·have hne : (n != 0) = true := by simpa using he
      go_wp2_with fail
      exact HR.out _ _ (fun h => absurd h he) (HBf.out _ Hb2.out)
    ·go_wp2_with fail
     exact HR.out _ _ (fun _ => HOk.out Hso.out h300 (fun r hr => Hto.out r (by rw [List.take_of_length_le (by omega)]; exact hr))) (HBf.out _ Hbe.out)
  ·have h3' : (300 : Int) < (l.length : Int) := by omega
   go_wp2_with fail
   exact HR.out _ _ (fun h => by cases h) (HBf.out _ Hb1.out)
 ·have hne : (n != 0) = true := by simpa using he
  go_wp2_with fail
  exact HR.out _ _ (fun h => absurd h he) (HBf.out _ Hb1.out)
structure Ag where
 c : Int
 s0 : Int
 n0 : Int
 x0 : Int
 s1 : Int
 n1 : Int
 x1 : Int
 s2 : Int
 n2 : Int
 x2 : Int
abbrev agC (a : Ag) : Array Value := #[.int .i64 a.c, .int .i64 a.s0, .int .i64 a.n0, .int .i64 a.x0, .int .i64 a.s1, .int .i64 a.n1, .int .i64 a.x1, .int .i64 a.s2, .int .i64 a.n2, .int .i64 a.x2]
abbrev agL (a : Ag) : List Value := [.int .i64 a.c, .int .i64 a.s0, .int .i64 a.n0, .int .i64 a.x0, .int .i64 a.s1, .int .i64 a.n1, .int .i64 a.x1, .int .i64 a.s2, .int .i64 a.n2, .int .i64 a.x2]
theorem Box.ten {w : World} {g : Nat} {t : TypeId} {a0 a1 a2 a3 a4 a5 a6 a7 a8 a9 : Value} (h : Box w g t #[a0, a1, a2, a3, a4, a5, a6, a7, a8, a9]) :
 (w.cell? ⟨g, 0, none⟩ = some a0 ∧ w.cell? ⟨g, 1, none⟩ = some a1 ∧ w.cell? ⟨g, 2, none⟩ = some a2 ∧ w.cell? ⟨g, 3, none⟩ = some a3 ∧ w.cell? ⟨g, 4, none⟩ = some a4 ∧ w.cell? ⟨g, 5, none⟩ = some a5 ∧ w.cell? ⟨g, 6, none⟩ = some a6 ∧ w.cell? ⟨g, 7, none⟩ = some a7 ∧ w.cell? ⟨g, 8, none⟩ = some a8 ∧ w.cell? ⟨g, 9, none⟩ = some a9) ∧
 (w.frozen? ⟨g, 0, none⟩ = false ∧ w.frozen? ⟨g, 1, none⟩ = false ∧ w.frozen? ⟨g, 2, none⟩ = false ∧ w.frozen? ⟨g, 3, none⟩ = false ∧ w.frozen? ⟨g, 4, none⟩ = false ∧ w.frozen? ⟨g, 5, none⟩ = false ∧ w.frozen? ⟨g, 6, none⟩ = false ∧ w.frozen? ⟨g, 7, none⟩ = false ∧ w.frozen? ⟨g, 8, none⟩ = false ∧ w.frozen? ⟨g, 9, none⟩ = false) :=
 ⟨⟨h.cell 0, h.cell 1, h.cell 2, h.cell 3, h.cell 4, h.cell 5, h.cell 6, h.cell 7, h.cell 8, h.cell 9⟩, ⟨h.free 0, h.free 1, h.free 2, h.free 3, h.free 4, h.free 5, h.free 6, h.free 7, h.free 8, h.free 9⟩⟩
theorem Box.ten_set {w : World} {g : Nat} {t : TypeId} {a0 a1 a2 a3 a4 a5 a6 a7 a8 a9 : Value} (v0 v1 v2 v3 v4 v5 v6 v7 v8 v9 : Value) (h : Box w g t #[a0, a1, a2, a3, a4, a5, a6, a7, a8, a9]) :
 Box ((((((((((w.setCell ⟨g, 0, none⟩ v0).setCell ⟨g, 1, none⟩ v1).setCell ⟨g, 2, none⟩ v2).setCell ⟨g, 3, none⟩ v3).setCell ⟨g, 4, none⟩ v4).setCell ⟨g, 5, none⟩ v5).setCell ⟨g, 6, none⟩ v6).setCell ⟨g, 7, none⟩ v7).setCell ⟨g, 8, none⟩ v8).setCell ⟨g, 9, none⟩ v9) g t #[v0, v1, v2, v3, v4, v5, v6, v7, v8, v9] := by
 have h0 : Box _ g t #[v0, a1, a2, a3, a4, a5, a6, a7, a8, a9] := h.set 0 v0
 have h1 : Box _ g t #[v0, v1, a2, a3, a4, a5, a6, a7, a8, a9] := h0.set 1 v1
 have h2 : Box _ g t #[v0, v1, v2, a3, a4, a5, a6, a7, a8, a9] := h1.set 2 v2
 have h3 : Box _ g t #[v0, v1, v2, v3, a4, a5, a6, a7, a8, a9] := h2.set 3 v3
 have h4 : Box _ g t #[v0, v1, v2, v3, v4, a5, a6, a7, a8, a9] := h3.set 4 v4
 have h5 : Box _ g t #[v0, v1, v2, v3, v4, v5, a6, a7, a8, a9] := h4.set 5 v5
 have h6 : Box _ g t #[v0, v1, v2, v3, v4, v5, v6, a7, a8, a9] := h5.set 6 v6
 have h7 : Box _ g t #[v0, v1, v2, v3, v4, v5, v6, v7, a8, a9] := h6.set 7 v7
 have h8 : Box _ g t #[v0, v1, v2, v3, v4, v5, v6, v7, v8, a9] := h7.set 8 v8
 have h9 : Box _ g t #[v0, v1, v2, v3, v4, v5, v6, v7, v8, v9] := h8.set 9 v9
 exact h9
theorem Below.ten_set {w w' : World} {B g : Nat} (v0 v1 v2 v3 v4 v5 v6 v7 v8 v9 : Value) (h : Below B w w') (hg : B ≤ g) :
 Below B w ((((((((((w'.setCell ⟨g, 0, none⟩ v0).setCell ⟨g, 1, none⟩ v1).setCell ⟨g, 2, none⟩ v2).setCell ⟨g, 3, none⟩ v3).setCell ⟨g, 4, none⟩ v4).setCell ⟨g, 5, none⟩ v5).setCell ⟨g, 6, none⟩ v6).setCell ⟨g, 7, none⟩ v7).setCell ⟨g, 8, none⟩ v8).setCell ⟨g, 9, none⟩ v9) :=
 (((((((((h.setCell (p := ⟨g, 0, none⟩) hg v0).setCell (p := ⟨g, 1, none⟩) hg v1).setCell (p := ⟨g, 2, none⟩) hg v2).setCell (p := ⟨g, 3, none⟩) hg v3).setCell (p := ⟨g, 4, none⟩) hg v4).setCell (p := ⟨g, 5, none⟩) hg v5).setCell (p := ⟨g, 6, none⟩) hg v6).setCell (p := ⟨g, 7, none⟩) hg v7).setCell (p := ⟨g, 8, none⟩) hg v8).setCell (p := ⟨g, 9, none⟩) hg v9
theorem Turn.ten_set {w w' : World} {g : Nat} (v0 v1 v2 v3 v4 v5 v6 v7 v8 v9 : Value) {p : Nat → Prop} (h : Turn p w w') (hg : p g) :
 Turn p w ((((((((((w'.setCell ⟨g, 0, none⟩ v0).setCell ⟨g, 1, none⟩ v1).setCell ⟨g, 2, none⟩ v2).setCell ⟨g, 3, none⟩ v3).setCell ⟨g, 4, none⟩ v4).setCell ⟨g, 5, none⟩ v5).setCell ⟨g, 6, none⟩ v6).setCell ⟨g, 7, none⟩ v7).setCell ⟨g, 8, none⟩ v8).setCell ⟨g, 9, none⟩ v9) :=
 ((((((((((h.trans (Turn.set _ ⟨g, 0, none⟩ v0 hg)).trans (Turn.set _ ⟨g, 1, none⟩ v1 hg)).trans (Turn.set _ ⟨g, 2, none⟩ v2 hg)).trans (Turn.set _ ⟨g, 3, none⟩ v3 hg)).trans (Turn.set _ ⟨g, 4, none⟩ v4 hg)).trans (Turn.set _ ⟨g, 5, none⟩ v5 hg)).trans (Turn.set _ ⟨g, 6, none⟩ v6 hg)).trans (Turn.set _ ⟨g, 7, none⟩ v7 hg)).trans (Turn.set _ ⟨g, 8, none⟩ v8 hg)).trans (Turn.set _ ⟨g, 9, none⟩ v9 hg))
def pv (l : List Int) (i : Nat) : Int := (l[i]?).getD 0
def agTo (l : List Int) (k : Nat) : Ag := ⟨1, pv (l.take k) 0, pv (l.take k) 0, pv (l.take k) 0, pv (l.take k) 1, pv (l.take k) 1, pv (l.take k) 1, pv (l.take k) 2, pv (l.take k) 2, pv (l.take k) 2⟩
def agOf (l : List Int) : Ag := agTo l l.length
def agZero : Ag := ⟨0, 0, 0, 0, 0, 0, 0, 0, 0, 0⟩
theorem pv_take (l : List Int) (k i : Nat) : pv (l.take k) i = if i < k then pv l i else 0 := by
 unfold pv
 rw [List.getElem?_take]
 split <;> rfl
theorem agTo_three (l : List Int) (k : Nat) (h : l.length ≤ 3) (hk : l.length ≤ k) : agTo l k = agOf l := by
 unfold agOf agTo
 rw [List.take_of_length_le hk, List.take_of_length_le (Nat.le_refl _)]
theorem agTo_0 (l : List Int) : agTo l 0 = ⟨1, 0, 0, 0, 0, 0, 0, 0, 0, 0⟩ := by simp [agTo, pv]
theorem agTo_1 (l : List Int) : agTo l 1 = ⟨1, pv l 0, pv l 0, pv l 0, 0, 0, 0, 0, 0, 0⟩ := by simp [agTo, pv_take]
theorem agTo_2 (l : List Int) : agTo l 2 = ⟨1, pv l 0, pv l 0, pv l 0, pv l 1, pv l 1, pv l 1, 0, 0, 0⟩ := by simp [agTo, pv_take]
theorem agTo_3 (l : List Int) : agTo l 3 = ⟨1, pv l 0, pv l 0, pv l 0, pv l 1, pv l 1, pv l 1, pv l 2, pv l 2, pv l 2⟩ := by simp [agTo, pv_take]
def RetA (a : Ag) (w : World) (e : Ending) (w' : World) : Prop := e = .returned (.agg (agC a)) ∧ Below w.heap.size w w'
set_option maxRecDepth 100000 in
set_option maxHeartbeats 4000000 in
theorem r06of_any (A : Option Addr) (l : List Int) (c : Nat) (w : World) (hl : l.length ≤ 3) (hr : Row w w.heap.size A (l.map (.int .i64))) : Calls Tryz.prog 24 #[.slice A l.length c] w (RetA (agOf l) w) := by
 have Hr := kp hr
 have HQ := kp (show ∀ w', Below w.heap.size w w' → RetA (agOf l) w (.returned (.agg (agC (agOf l)))) w' from fun w' h => ⟨rfl, h⟩)
 generalize hQ : RetA (agOf l) w = Q at *
 clear hQ hr
 have hb1 := (Below.refl w.heap.size w).alloc (Nat.le_refl _) (.cells (agC agZero) 47)
 have hb0 := hb1.alloc hb1.size (.cells (agC (agTo l 0)) 47)
 have Hb0 := kp hb0
 have HB2 := kp ((Box.new w 47 (agC agZero)).alloc (.cells (agC (agTo l 0)) 47))
 have HB3 := kp (Box.lay (w := w.alloc (.cells (agC agZero) 47)) (g := w.heap.size + 1) (t := 47) (cs := agC (agTo l 0)) (by simp))
 clear hb0 hb1
 generalize hN : l.length = n at *
 have Hn := kp hN
 clear hN
 go_enter Tryz.func24, Tryz.ntmps24
 go_wp2_with fail
 go_loopw [4] (fun v4 wr => ∃ k : Nat, k ≤ n ∧ v4 = .int .i64 k ∧ Box wr w.heap.size 47 (agC agZero) ∧ Box wr (w.heap.size + 1) 47 (agC (agTo l k)) ∧ Below w.heap.size w wr) (fun v4 _ => n - (intOf v4).toNat)
 case atStart => exact ⟨0, Nat.zero_le _, rfl, HB2.out, HB3.out, Hb0.out⟩
 case round =>
  obtain ⟨k, hk, rfl, hbx2, hbx3, hbe⟩ := hrel
  have Hbx2 := kp hbx2
  have Hbe := kp hbe
  clear hbx2 hbe
  by_cases hlt : k < n
  ·have hkl : k < l.length := by rw [Hn.out]; exact hlt
   obtain ⟨b, off, rfl, hb, c0⟩ := Row.at_ ((Hr.out.below Hbe.out).more Hbe.out.size) (k := k) (by rw [List.length_map]; exact hkl)
   rw [List.getElem_map] at c0
   have hi0 : (0 : Int) ≤ (k : Int) := by omega
   match k, hk, hlt, hkl, hbx3, c0, hi0 with
   | 0, hk, hlt, hkl, hbx3, c0, hi0 => ?_
   | 1, hk, hlt, hkl, hbx3, c0, hi0 => ?_
   | 2, hk, hlt, hkl, hbx3, c0, hi0 => ?_
   | k + 3, hk, hlt, hkl, hbx3, c0, hi0 => omega
   ·rw [agTo_0] at hbx3
    rw [Nat.add_zero] at c0
    have Hbx3 := kp hbx3
    obtain ⟨⟨a0, a1, a2, a3, a4, a5, a6, a7, a8, a9⟩, ⟨f0, f1, f2, f3, f4, f5, f6, f7, f8, f9⟩⟩ := Box.ten hbx3
    have Hpv := kp (show pv l 0 = (l[0]'hkl) by unfold pv; rw [List.getElem?_eq_getElem hkl]; rfl)
    have hi1 : (0 : Int) < (n : Int) := by omega
    have hi2 : ((0 : Nat) : Int) < (n : Int) := by omega
    clear hbx3
    generalize (l[0]'hkl) = y at *
    go_wp2_with fail
    refine wp_region_noPanic ?_
    refine wp_region_T (t := 16) (S := (fun w' => w'.cell? ⟨b, off, none⟩ = some (.int .i64 y) ∧ w'.cell? ⟨w.heap.size + 1, 1, none⟩ = some (.int .i64 0) ∧ w'.cell? ⟨w.heap.size + 1, 2, none⟩ = some (.int .i64 0) ∧ w'.cell? ⟨w.heap.size + 1, 3, none⟩ = some (.int .i64 0))) (by kernel_rfl) ⟨c0, a1, a2, a3⟩ (fun hHeld => ?_)
    refine tk 0 hHeld ?_
    refine tk 1 hHeld ?_
    refine tk 2 hHeld ?_
    refine tk 3 hHeld ?_
    refine tk 4 hHeld ?_
    refine tk 5 hHeld ?_
    refine tk 6 hHeld ?_
    refine tk 7 hHeld ?_
    refine tk 8 hHeld ?_
    refine tk 9 hHeld ?_
    refine tk 10 hHeld ?_
    refine tk 11 hHeld ?_
    refine tk 12 hHeld ?_
    refine tk 13 hHeld ?_
    refine wpAnyT_far (i := 14) (oi := ?op14) (v := ?vp14) ?ap14 (by kernel_rfl) (by kernel_rfl) (by kernel_rfl) (by kernel_rfl) (fun _ _ _ h => h) ?bp14 hHeld ?cp14
    case ap14 => (simp only [List.getElem?_toArray, List.getElem?_cons_succ, List.getElem?_cons_zero]; exact rfl)
    case bp14 => (refine Or.inl ⟨by rfl, ?_⟩; intro w hSw; (try dsimp only at hSw); go_simp; try exact rfl)
    try simp only [Act.put, List.setIfInBounds_toArray, List.set_cons_zero, List.set_cons_succ]
    refine tk 15 hHeld ?_
    refine wpAnyT_last (o := ?op16) (by kernel_rfl) ?ap16 (by kernel_rfl) (fun K hK => ?bp16)
    case ap16 => (simp only [List.getElem?_toArray, List.getElem?_cons_succ, List.getElem?_cons_zero]; exact rfl)
    obtain ⟨x1', x2', x3', x4'⟩ := hHeld
    have hHeld := x1'
    go_simp
    refine hK.out _ _ ?_
    clear hK K hHeld
    refine NoPanic.normal ?_
    try simp only [Act.put, List.setIfInBounds_toArray, List.set_cons_zero, List.set_cons_succ]
    go_wp2_with fail
    refine ⟨⟨1, by omega, by go_num, ?_, ?_, ?_⟩, by simp [intOf]; omega⟩
    ·exact ((Hbx2.out.drew.far (p := ⟨w.heap.size + 1, 1, none⟩) (by simp) _).far (p := ⟨w.heap.size + 1, 2, none⟩) (by simp) _).far (p := ⟨w.heap.size + 1, 3, none⟩) (by simp) _
    ·rw [agTo_1, Hpv.out]
     exact ((Hbx3.out.drew.set 1 (.int .i64 y)).set 2 (.int .i64 y)).set 3 (.int .i64 y)
    ·exact ((Hbe.out.drew.setCell (p := ⟨w.heap.size + 1, 1, none⟩) (by simp) _).setCell (p := ⟨w.heap.size + 1, 2, none⟩) (by simp) _).setCell (p := ⟨w.heap.size + 1, 3, none⟩) (by simp) _
   ·rw [agTo_1] at hbx3
    have Hbx3 := kp hbx3
    obtain ⟨⟨a0, a1, a2, a3, a4, a5, a6, a7, a8, a9⟩, ⟨f0, f1, f2, f3, f4, f5, f6, f7, f8, f9⟩⟩ := Box.ten hbx3
    have Hpv := kp (show pv l 1 = (l[1]'hkl) by unfold pv; rw [List.getElem?_eq_getElem hkl]; rfl)
    have hi1 : (1 : Int) < (n : Int) := by omega
    have hi2 : ((1 : Nat) : Int) < (n : Int) := by omega
    clear hbx3
    generalize (l[1]'hkl) = y at *
    go_wp2_with fail
    refine wp_region_noPanic ?_
    refine wp_region_T (t := 16) (S := (fun w' => w'.cell? ⟨b, off + 1, none⟩ = some (.int .i64 y) ∧ w'.cell? ⟨w.heap.size + 1, 4, none⟩ = some (.int .i64 0) ∧ w'.cell? ⟨w.heap.size + 1, 5, none⟩ = some (.int .i64 0) ∧ w'.cell? ⟨w.heap.size + 1, 6, none⟩ = some (.int .i64 0))) (by kernel_rfl) ⟨c0, a4, a5, a6⟩ (fun hHeld => ?_)
    refine tk 0 hHeld ?_
    refine tk 1 hHeld ?_
    refine tk 2 hHeld ?_
    refine tk 3 hHeld ?_
    refine tk 4 hHeld ?_
    refine tk 5 hHeld ?_
    refine tk 6 hHeld ?_
    refine tk 7 hHeld ?_
    refine tk 8 hHeld ?_
    refine tk 9 hHeld ?_
    refine tk 10 hHeld ?_
    refine tk 11 hHeld ?_
    refine tk 12 hHeld ?_
    refine tk 13 hHeld ?_
    refine wpAnyT_far (i := 14) (oi := ?oq14) (v := ?vq14) ?aq14 (by kernel_rfl) (by kernel_rfl) (by kernel_rfl) (by kernel_rfl) (fun _ _ _ h => h) ?bq14 hHeld ?cq14
    case aq14 => (simp only [List.getElem?_toArray, List.getElem?_cons_succ, List.getElem?_cons_zero]; exact rfl)
    case bq14 => (refine Or.inl ⟨by rfl, ?_⟩; intro w hSw; (try dsimp only at hSw); go_simp; try exact rfl)
    try simp only [Act.put, List.setIfInBounds_toArray, List.set_cons_zero, List.set_cons_succ]
    refine tk 15 hHeld ?_
    refine wpAnyT_last (o := ?oq16) (by kernel_rfl) ?aq16 (by kernel_rfl) (fun K hK => ?bq16)
    case aq16 => (simp only [List.getElem?_toArray, List.getElem?_cons_succ, List.getElem?_cons_zero]; exact rfl)
    obtain ⟨x1', x2', x3', x4'⟩ := hHeld
    have hHeld := x1'
    go_simp
    refine hK.out _ _ ?_
    clear hK K hHeld
    refine NoPanic.normal ?_
    try simp only [Act.put, List.setIfInBounds_toArray, List.set_cons_zero, List.set_cons_succ]
    go_wp2_with fail
    refine ⟨⟨2, by omega, by go_num, ?_, ?_, ?_⟩, by simp [intOf]; omega⟩
    ·exact ((Hbx2.out.drew.far (p := ⟨w.heap.size + 1, 4, none⟩) (by simp) _).far (p := ⟨w.heap.size + 1, 5, none⟩) (by simp) _).far (p := ⟨w.heap.size + 1, 6, none⟩) (by simp) _
    ·rw [agTo_2, Hpv.out]
     exact ((Hbx3.out.drew.set 4 (.int .i64 y)).set 5 (.int .i64 y)).set 6 (.int .i64 y)
    ·exact ((Hbe.out.drew.setCell (p := ⟨w.heap.size + 1, 4, none⟩) (by simp) _).setCell (p := ⟨w.heap.size + 1, 5, none⟩) (by simp) _).setCell (p := ⟨w.heap.size + 1, 6, none⟩) (by simp) _
   ·rw [agTo_2] at hbx3
    have Hbx3 := kp hbx3
    obtain ⟨⟨a0, a1, a2, a3, a4, a5, a6, a7, a8, a9⟩, ⟨f0, f1, f2, f3, f4, f5, f6, f7, f8, f9⟩⟩ := Box.ten hbx3
    have Hpv := kp (show pv l 2 = (l[2]'hkl) by unfold pv; rw [List.getElem?_eq_getElem hkl]; rfl)
    have hi1 : (2 : Int) < (n : Int) := by omega
    have hi2 : ((2 : Nat) : Int) < (n : Int) := by omega
    clear hbx3
    generalize (l[2]'hkl) = y at *
    go_wp2_with fail
    refine wp_region_noPanic ?_
    refine wp_region_T (t := 16) (S := (fun w' => w'.cell? ⟨b, off + 2, none⟩ = some (.int .i64 y) ∧ w'.cell? ⟨w.heap.size + 1, 7, none⟩ = some (.int .i64 0) ∧ w'.cell? ⟨w.heap.size + 1, 8, none⟩ = some (.int .i64 0) ∧ w'.cell? ⟨w.heap.size + 1, 9, none⟩ = some (.int .i64 0))) (by kernel_rfl) ⟨c0, a7, a8, a9⟩ (fun hHeld => ?_)
    refine tk 0 hHeld ?_
    refine tk 1 hHeld ?_
    refine tk 2 hHeld ?_
    refine tk 3 hHeld ?_
    refine tk 4 hHeld ?_
    refine tk 5 hHeld ?_
    refine tk 6 hHeld ?_
    refine tk 7 hHeld ?_
    refine tk 8 hHeld ?_
    refine tk 9 hHeld ?_
    refine tk 10 hHeld ?_
    refine tk 11 hHeld ?_
    refine tk 12 hHeld ?_
    refine tk 13 hHeld ?_
    refine wpAnyT_far (i := 14) (oi := ?or14) (v := ?vr14) ?ar14 (by kernel_rfl) (by kernel_rfl) (by kernel_rfl) (by kernel_rfl) (fun _ _ _ h => h) ?br14 hHeld ?cr14
    case ar14 => (simp only [List.getElem?_toArray, List.getElem?_cons_succ, List.getElem?_cons_zero]; exact rfl)
    case br14 => (refine Or.inl ⟨by rfl, ?_⟩; intro w hSw; (try dsimp only at hSw); go_simp; try exact rfl)
    try simp only [Act.put, List.setIfInBounds_toArray, List.set_cons_zero, List.set_cons_succ]
    refine tk 15 hHeld ?_
    refine wpAnyT_last (o := ?or16) (by kernel_rfl) ?ar16 (by kernel_rfl) (fun K hK => ?br16)
    case ar16 => (simp only [List.getElem?_toArray, List.getElem?_cons_succ, List.getElem?_cons_zero]; exact rfl)
    obtain ⟨x1', x2', x3', x4'⟩ := hHeld
    have hHeld := x1'
    go_simp
    refine hK.out _ _ ?_
    clear hK K hHeld
    refine NoPanic.normal ?_
    try simp only [Act.put, List.setIfInBounds_toArray, List.set_cons_zero, List.set_cons_succ]
    go_wp2_with fail
    refine ⟨⟨3, by omega, by go_num, ?_, ?_, ?_⟩, by simp [intOf]; omega⟩
    ·exact ((Hbx2.out.drew.far (p := ⟨w.heap.size + 1, 7, none⟩) (by simp) _).far (p := ⟨w.heap.size + 1, 8, none⟩) (by simp) _).far (p := ⟨w.heap.size + 1, 9, none⟩) (by simp) _
    ·rw [agTo_3, Hpv.out]
     exact ((Hbx3.out.drew.set 7 (.int .i64 y)).set 8 (.int .i64 y)).set 9 (.int .i64 y)
    ·exact ((Hbe.out.drew.setCell (p := ⟨w.heap.size + 1, 7, none⟩) (by simp) _).setCell (p := ⟨w.heap.size + 1, 8, none⟩) (by simp) _).setCell (p := ⟨w.heap.size + 1, 9, none⟩) (by simp) _
  ·obtain rfl : k = n := by omega
   rw [agTo_three l k (by rw [Hn.out]; exact hl) (by rw [Hn.out]; exact Nat.le_refl _)] at hbx3
   have Hbx3 := kp hbx3
   clear hbx3
   generalize agOf l = a at *
   obtain ⟨⟨a0, a1, a2, a3, a4, a5, a6, a7, a8, a9⟩, _⟩ := Box.ten Hbx3.out
   obtain ⟨⟨b0, b1, b2, b3, b4, b5, b6, b7, b8, b9⟩, ⟨f0, f1, f2, f3, f4, f5, f6, f7, f8, f9⟩⟩ := Box.ten Hbx2.out
   go_wp2_with fail
   have Hbf := kp (Below.ten_set (.int .i64 a.c) (.int .i64 a.s0) (.int .i64 a.n0) (.int .i64 a.x0) (.int .i64 a.s1) (.int .i64 a.n1) (.int .i64 a.x1) (.int .i64 a.s2) (.int .i64 a.n2) (.int .i64 a.x2) Hbe.out (Nat.le_refl w.heap.size))
   have hbox := Box.ten_set (.int .i64 a.c) (.int .i64 a.s0) (.int .i64 a.n0) (.int .i64 a.x0) (.int .i64 a.s1) (.int .i64 a.n1) (.int .i64 a.x1) (.int .i64 a.s2) (.int .i64 a.n2) (.int .i64 a.x2) Hbx2.out
   clear a0 a1 a2 a3 a4 a5 a6 a7 a8 a9 b0 b1 b2 b3 b4 b5 b6 b7 b8 b9 f0 f1 f2 f3 f4 f5 f6 f7 f8 f9
   revert Hbf hbox
   generalize ((((((((((wr.setCell ⟨w.heap.size, 0, none⟩ (.int .i64 a.c)).setCell ⟨w.heap.size, 1, none⟩ (.int .i64 a.s0)).setCell ⟨w.heap.size, 2, none⟩ (.int .i64 a.n0)).setCell ⟨w.heap.size, 3, none⟩ (.int .i64 a.x0)).setCell ⟨w.heap.size, 4, none⟩ (.int .i64 a.s1)).setCell ⟨w.heap.size, 5, none⟩ (.int .i64 a.n1)).setCell ⟨w.heap.size, 6, none⟩ (.int .i64 a.x1)).setCell ⟨w.heap.size, 7, none⟩ (.int .i64 a.s2)).setCell ⟨w.heap.size, 8, none⟩ (.int .i64 a.n2)).setCell ⟨w.heap.size, 9, none⟩ (.int .i64 a.x2)) = Wf
   intro Hbf hbox
   obtain ⟨⟨a0, a1, a2, a3, a4, a5, a6, a7, a8, a9⟩, _⟩ := Box.ten hbox
   refine bodyPost_ret (v := .agg (agC a)) (by simp [results, Tryz.results24, go_sem, a0, a1, a2, a3, a4, a5, a6, a7, a8, a9]) rfl (HQ.out _ Hbf.out)
end Go.Proofs.YthmbgbmcdbdecaaGreat.Tc
