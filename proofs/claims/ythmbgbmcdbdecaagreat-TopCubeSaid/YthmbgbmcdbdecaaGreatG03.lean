/- Parts of a proof: Layers 15 to 17: the document's checks, whole. Layer 17: the document's checks of a schema. -/
import Derived.Test.YthmbgbmcdbdecaaGreatG02
import Derived.Lib.Strings
namespace Go.Proofs.YthmbgbmcdbdecaaGreat.Tc
open Go.RowKit Base
set_option linter.unusedVariables false
set_option linter.unusedSimpArgs false
structure TierOk (t : Tier) (above : Int) : Prop where
 name : NameOk t.name
 n1 : 1 ≤ t.terms.length
 n2 : t.terms.length ≤ 200
 row : RowOk t.terms
 tree : TreeOk t above
set_option maxHeartbeats 1000000 in
theorem r15wrong_any (t : Tier) (above : Int) (w : World) (h : TierAt w w.heap.size t) (ha : above ≤ 9223372036854775807) : Calls Tryz.prog 107 #[.agg (tierC t), .int .i64 above] w (RetI (fun r => r = 0 → TierOk t above) w) := by
 have HR := kp (fun r w' h hb => RetI.mono (P := fun r => r = 0 → TierOk t above) (w := w) (r := r) (w' := w') h hb)
 have hb0 := (Below.refl w.heap.size w).alloc (Nat.le_refl _) (.cells (tierC t) 63)
 have Hb0 := kp hb0
 have h0 := (h.below hb0).more hb0.size
 have HB := kp (Box.new w 63 (tierC t))
 have hn := h.nt
 have HN := kp (rname_any t.name (w.alloc (.cells (tierC t) 63)) h.name)
 have HRow := kp (show ∀ W, Below (w.alloc (.cells (tierC t) 63)).heap.size (w.alloc (.cells (tierC t) 63)) W → Calls Tryz.prog 128 #[.slice t.At t.terms.length t.ct] W (RetI (fun r => r = 0 → RowOk t.terms) W) from fun W hW => rrow_any t.At t.terms t.ct W h.nt h.sz ((h0.terms.below hW).more hW.size))
 have HTr := kp (show ∀ W, Below (w.alloc (.cells (tierC t) 63)).heap.size (w.alloc (.cells (tierC t) 63)) W → Calls Tryz.prog 129 #[.agg (tierC t), .int .i64 above] W (RetB (fun r => r = true → TreeOk t above) W) from fun W hW => rtree_any t above W ((h0.below hW).more hW.size) ha)
 have HOk := kp (show NameOk t.name → 1 ≤ t.terms.length → t.terms.length ≤ 200 → RowOk t.terms → TreeOk t above → TierOk t above from fun a b c d e => ⟨a, b, c, d, e⟩)
 unfold maxLen at hn
 unfold tierC at *
 clear h hb0 h0 ha
 generalize hQ : RetI (fun r => r = 0 → TierOk t above) w = Q at *
 clear hQ
 generalize NameOk t.name = P1 at *
 generalize RowOk t.terms = P2 at *
 generalize TreeOk t above = P3 at *
 generalize TierOk t above = P4 at *
 generalize t.name = x0 at *
 generalize t.At = x1 at *
 generalize t.terms.length = n at *
 generalize t.ct = x3 at *
 generalize t.Au = x4 at *
 generalize t.up.length = x5 at *
 generalize t.cu = x6 at *
 go_enter Tryz.func107, Tryz.ntmps107
 go_wp2_with fail
 generalize w.alloc (.cells #[.string x0, .slice x1 n x3, .slice x4 x5 x6] 63) = W0 at *
 refine HN.out.mono ?_
 rintro e w1 ⟨r, rfl, hr, hb1⟩
 have Hb1 := kp hb1
 have HB1 := kp (HB.out.under hb1)
 obtain ⟨b0, b1, b2, _, _, _⟩ := HB1.out.three
 clear hb1 HN
 have Hr := kp hr
 clear hr
 rcases r with _ | _
 ·go_wp2_with fail
  exact HR.out _ _ (fun h => by cases h) (Hb0.out.trans (Hb1.out.mono Hb0.out.size))
 ·by_cases h1 : 1 ≤ n ∧ n ≤ 200
  ·obtain ⟨h1, h2⟩ := h1
   have h1' : ¬ ((n : Nat) : Int) < 1 := by omega
   have h2' : ¬ (200 : Int) < ((n : Nat) : Int) := by omega
   go_wp2_with fail
   refine (HRow.out _ Hb1.out).mono ?_
   rintro e w2 ⟨r2, rfl, hr2, hb2⟩
   have Hb2 := kp (Hb1.out.trans (hb2.mono Hb1.out.size))
   have HB2 := kp (HB1.out.under hb2)
   have Hr2 := kp hr2
   clear hb2 hr2 b0 b1 b2
   obtain ⟨b0, b1, b2, _, _, _⟩ := HB2.out.three
   by_cases he : r2 = 0
   ·subst he
    have h00 : ((0 : Int) != 0) = false := by simp
    go_wp2_with fail
    refine (HTr.out _ Hb2.out).mono ?_
    rintro e w3 ⟨r3, rfl, hr3, hb3⟩
    have Hb3 := kp (Hb2.out.trans (hb3.mono Hb2.out.size))
    have Hr3 := kp hr3
    clear hb3 hr3
    rcases r3 with _ | _
    ·go_wp2_with fail
     exact HR.out _ _ (fun h => by cases h) (Hb0.out.trans (Hb3.out.mono Hb0.out.size))
    ·go_wp2_with fail
     exact HR.out _ _ (fun _ => HOk.out (Hr.out (by trivial)) h1 h2 (Hr2.out (by trivial)) (Hr3.out (by trivial))) (Hb0.out.trans (Hb3.out.mono Hb0.out.size))
   ·have hne : (r2 != 0) = true := by simpa using he
    go_wp2_with fail
    exact HR.out _ _ (fun h => absurd h he) (Hb0.out.trans (Hb2.out.mono Hb0.out.size))
  ·go_wp2_with fail
   all_goals first
    | exact HR.out _ _ (fun h => by cases h) (Hb0.out.trans (Hb1.out.mono Hb0.out.size))
    | (exfalso; omega)
def aboveI (d : Dim) (k : Nat) : Int := match d.tiers[k + 1]? with
 | some t => (t.terms.length : Nat)
 | none => 0
theorem aboveI_le {w : World} {B : Nat} {d : Dim} (h : DimAt w B d) (k : Nat) : aboveI d k ≤ 9223372036854775807 := by
 unfold aboveI
 split
 ·next t ht =>
  have := (h.tiers t (List.mem_of_getElem? ht)).nt
  unfold maxLen at this
  omega
 ·omega
set_option maxHeartbeats 1000000 in
theorem r16above_any (d : Dim) (k : Nat) (w : World) (h : DimAt w w.heap.size d) (hk : k < d.tiers.length) : Calls Tryz.prog 108 #[.agg (dimC d), .int .i64 k] w fun e w' => e = .returned (.int .i64 (aboveI d k)) ∧ Below w.heap.size w w' := by
 have hn := h.n
 unfold maxLen at hn
 have hb0 := (Below.refl w.heap.size w).alloc (Nat.le_refl _) (.cells (dimC d) 61)
 by_cases hk1 : k + 1 < d.tiers.length
 ·have h0 := (h.below hb0).more hb0.size
  obtain ⟨b, off, hA, hb, c0, c1, c2⟩ := h0.tier (k + 1) hk1
  have HV := kp (show aboveI d k = ((d.tiers[k + 1]'hk1).terms.length : Nat) by unfold aboveI; rw [List.getElem?_eq_getElem hk1])
  generalize aboveI d k = V at *
  have hkI : ¬ (d.tiers.length : Int) ≤ (k : Int) + 1 := by omega
  have hi0 : (0 : Int) ≤ (k : Int) + 1 := by omega
  have hi1 : (k : Int) + 1 < (d.tiers.length : Int) := by omega
  have Hb0 := kp hb0
  unfold dimC at *
  rw [hA] at *
  clear h h0 hb0 c0 c2 hA
  generalize (d.tiers[k + 1]'hk1).At = x1 at *
  generalize (d.tiers[k + 1]'hk1).terms.length = x2 at *
  generalize (d.tiers[k + 1]'hk1).ct = x3 at *
  go_enter Tryz.func108, Tryz.ntmps108
  go_wp2_with fail
  go_ret
  exact ⟨by rw [HV.out]; rfl, Hb0.out⟩
 ·have HV := kp (show aboveI d k = 0 by unfold aboveI; rw [List.getElem?_eq_none (by omega)])
  generalize aboveI d k = V at *
  have hkI : (d.tiers.length : Int) ≤ (k : Int) + 1 := by omega
  have Hb0 := kp hb0
  unfold dimC at *
  clear h hb0
  go_enter Tryz.func108, Tryz.ntmps108
  go_wp2_with fail
  go_ret
  exact ⟨by rw [HV.out]; rfl, Hb0.out⟩
structure DimOk (d : Dim) : Prop where
 name : NameOk d.name
 n1 : 1 ≤ d.tiers.length
 n2 : d.tiers.length ≤ 4
 tiers : ∀ k (h : k < d.tiers.length), TierOk d.tiers[k] (aboveI d k)
 names : ∀ i k (hk : k < d.tiers.length) (hi : i < k), d.tiers[i].name ≠ d.tiers[k].name
def DimTo (d : Dim) (k : Nat) : Prop := (∀ j (h : j < d.tiers.length), j < k → TierOk d.tiers[j] (aboveI d j)) ∧ ∀ i j (hj : j < d.tiers.length) (hi : i < j), j < k → d.tiers[i].name ≠ d.tiers[j].name
theorem DimTo.next {d : Dim} {k : Nat} (h : DimTo d k) (hk : k < d.tiers.length) (ht : TierOk d.tiers[k] (aboveI d k)) (hn : ∀ i (hi : i < k), d.tiers[i].name ≠ d.tiers[k].name) : DimTo d (k + 1) := by
 refine ⟨fun j hj hjk => ?_, fun i j hj hi hjk => ?_⟩
 ·by_cases e : j = k
  ·subst e; exact ht
  ·exact h.1 j hj (by omega)
 ·by_cases e : j = k
  ·subst e; exact hn i hi
  ·exact h.2 i j hj hi (by omega)
theorem keep_below {a b c : Value} {gD : Nat} {x0 x1 : Value} {W0 v w' : World} {bt ot : Nat} (hb : Below v.heap.size v w')
 (h : v.cell? ⟨gD, 0, none⟩ = some x0 ∧ v.cell? ⟨gD, 1, none⟩ = some x1 ∧ v.cell? ⟨bt, ot, none⟩ = some a ∧ v.cell? ⟨bt, ot + 1, none⟩ = some b ∧ v.cell? ⟨bt, ot + 2, none⟩ = some c ∧ Below W0.heap.size W0 v) :
 w'.cell? ⟨gD, 0, none⟩ = some x0 ∧ w'.cell? ⟨gD, 1, none⟩ = some x1 ∧ w'.cell? ⟨bt, ot, none⟩ = some a ∧ w'.cell? ⟨bt, ot + 1, none⟩ = some b ∧ w'.cell? ⟨bt, ot + 2, none⟩ = some c ∧ Below W0.heap.size W0 w' := by
 obtain ⟨h0, h1, h2, h3, h4, h5⟩ := h
 exact ⟨cell_keep hb h0, cell_keep hb h1, cell_keep hb h2, cell_keep hb h3, cell_keep hb h4, h5.trans (hb.mono h5.size)⟩
set_option maxRecDepth 100000 in
set_option maxHeartbeats 2000000 in
theorem r16wrong_any (d : Dim) (w : World) (h : DimAt w w.heap.size d) : Calls Tryz.prog 79 #[.agg (dimC d)] w (RetI (fun r => r = 0 → DimOk d) w) := by
 have HR := kp (fun r w' h hb => RetI.mono (P := fun r => r = 0 → DimOk d) (w := w) (r := r) (w' := w') h hb)
 have hb0 := (Below.refl w.heap.size w).alloc (Nat.le_refl _) (.cells (dimC d) 61)
 have Hb0 := kp hb0
 have H0 := kp ((h.below hb0).more hb0.size)
 have HB := kp (Box.new w 61 (dimC d))
 have hn := h.n
 have HN := kp (rname_any d.name (w.alloc (.cells (dimC d) 61)) h.name)
 have HA := kp r16above_any
 have HW := kp r15wrong_any
 have HOk := kp (show NameOk d.name → 1 ≤ d.tiers.length → d.tiers.length ≤ 4 → DimTo d d.tiers.length → DimOk d from fun a b c e => ⟨a, b, c, fun k hk => e.1 k hk hk, fun i k hk hi => e.2 i k hk hi hk⟩)
 unfold maxLen at hn
 clear h hb0
 generalize hQ : RetI (fun r => r = 0 → DimOk d) w = Q at *
 clear hQ
 unfold dimC at HB HN Hb0 H0 ⊢
 go_enter Tryz.func79, Tryz.ntmps79
 go_wp2_with fail
 generalize w.alloc (.cells #[.string d.name, .slice d.A d.tiers.length d.c] 61) = W0 at *
 refine HN.out.mono ?_
 rintro e w1 ⟨r, rfl, hr, hb1⟩
 have Hb1 := kp hb1
 have HB1 := kp (HB.out.under hb1)
 obtain ⟨b0, b1, _, _⟩ := HB1.out.two
 have Hr := kp hr
 clear hb1 HN hr
 rcases r with _ | _
 ·go_wp2_with fail
  exact HR.out _ _ (fun h => by cases h) (Hb0.out.trans (Hb1.out.mono Hb0.out.size))
 ·by_cases h1 : 1 ≤ d.tiers.length ∧ d.tiers.length ≤ 4
  ·obtain ⟨h1, h2⟩ := h1
   have h1' : ¬ ((d.tiers.length : Nat) : Int) < 1 := by omega
   have h2' : ¬ (4 : Int) < ((d.tiers.length : Nat) : Int) := by omega
   go_wp2_with fail
   clear h1' h2' b0 b1
   go_loopw [23] (fun v23 wr => ∃ k : Nat, k ≤ d.tiers.length ∧ v23 = .int .i64 k ∧ DimTo d k ∧ Below W0.heap.size W0 wr) (fun v23 _ => d.tiers.length - (intOf v23).toNat)
   case atStart => exact ⟨0, Nat.zero_le _, rfl, ⟨fun j _ h => by omega, fun i j _ _ h => by omega⟩, Hb1.out⟩
   case round =>
    obtain ⟨k, hk, rfl, hto, hbe⟩ := hrel
    have Hto := kp hto
    have Hbe := kp hbe
    obtain ⟨b0, b1, _, _⟩ := (HB.out.under hbe).two
    clear hto hbe
    by_cases hlt : k < d.tiers.length
    ·have hd := (H0.out.below Hbe.out).more Hbe.out.size
     have HA1 := kp (show ∀ W, Below wr.heap.size wr W → Calls Tryz.prog 108 #[.agg #[.string d.name, .slice d.A d.tiers.length d.c], .int .i64 k] W fun e w' => e = .returned (.int .i64 (aboveI d k)) ∧ Below W.heap.size W w' from fun W hW => HA.out d k W ((hd.below hW).more hW.size) hlt)
     have HW1 := kp (show ∀ W, Below wr.heap.size wr W → Calls Tryz.prog 107 #[.agg #[.string (d.tiers[k]'hlt).name, .slice (d.tiers[k]'hlt).At (d.tiers[k]'hlt).terms.length (d.tiers[k]'hlt).ct, .slice (d.tiers[k]'hlt).Au (d.tiers[k]'hlt).up.length (d.tiers[k]'hlt).cu], .int .i64 (aboveI d k)] W (RetI (fun r => r = 0 → TierOk (d.tiers[k]'hlt) (aboveI d k)) W) from fun W hW => HW.out (d.tiers[k]'hlt) (aboveI d k) W (((hd.tiers _ (List.getElem_mem hlt)).below hW).more hW.size) (aboveI_le hd k))
     obtain ⟨b, off, hA, hb, c0, c1, c2⟩ := hd.tier k hlt
     have Hd := kp hd
     rw [hA] at b1 HA1
     have hi0 : (0 : Int) ≤ (k : Int) := by omega
     have hi1 : (k : Int) < (d.tiers.length : Int) := by omega
     have Hnx := kp (fun a b => Hto.out.next hlt a b)
     have HA2 := kp hA
     clear hd hA
     generalize TierOk (d.tiers[k]'hlt) (aboveI d k) = PT at *
     generalize aboveI d k = ab at *
     go_wp2_with fail
     go_region_held3 (fun w' => w'.cell? ⟨w.heap.size, 0, none⟩ = some (.string d.name) ∧ w'.cell? ⟨w.heap.size, 1, none⟩ = some (.slice (some ⟨b, off, none⟩) d.tiers.length d.c) ∧ w'.cell? ⟨b, off + k * 3, none⟩ = some (.string (d.tiers[k]'hlt).name) ∧ w'.cell? ⟨b, off + k * 3 + 1, none⟩ = some (.slice (d.tiers[k]'hlt).At (d.tiers[k]'hlt).terms.length (d.tiers[k]'hlt).ct) ∧ w'.cell? ⟨b, off + k * 3 + 2, none⟩ = some (.slice (d.tiers[k]'hlt).Au (d.tiers[k]'hlt).up.length (d.tiers[k]'hlt).cu) ∧ Below wr.heap.size wr w')
      (first
        | exact ⟨b0, b1, c0, c1, c2, (Below.refl _ _).drew⟩
        | (go_split_ands; with_reducible exact keep_below hbx ⟨by assumption, by assumption, by assumption, by assumption, by assumption, by assumption⟩))
      (first
        | (go_at_call 108; go_split_ands; refine (HA1.out _ (by assumption)).mono ?_; rintro e wx ⟨rfl, hbx⟩)
        | (go_at_call 107; go_split_ands; refine (HW1.out _ (by assumption)).mono ?_; rintro e wx ⟨r1, rfl, hr1, hbx⟩))
     rename_i hHeld
     have Hr1 := kp hr1
     have Hb2 := kp (Hbe.out.trans (hHeld.2.2.2.2.2.mono Hbe.out.size))
     clear hHeld hr1 c0 c1 c2 b0 b1 HA1 HW1
     obtain ⟨b0, b1, _, _⟩ := (HB.out.under Hb2.out).two
     rw [HA2.out] at b1
     by_cases he : r1 = 0
     ·subst he
      have h00 : ((0 : Int) != 0) = false := by simp
      go_wp2_with fail
      go_loopw [5] (fun v5 wr => ∃ q : Nat, q ≤ k ∧ v5 = .int .i64 q ∧ (∀ i (hi : i < k), i < q → d.tiers[i].name ≠ (d.tiers[k]'hlt).name) ∧ Below W0.heap.size W0 wr) (fun v5 _ => k - (intOf v5).toNat)
      case atStart => exact ⟨0, Nat.zero_le _, rfl, fun i _ h => by omega, Hb2.out⟩
      case round =>
       clear b0 b1
       obtain ⟨q, hq, rfl, hno, hbe2⟩ := hrel
       have Hno := kp hno
       have Hbe2 := kp hbe2
       obtain ⟨b0, b1, _, _⟩ := (HB.out.under hbe2).two
       rw [HA2.out] at b1
       clear hno hbe2
       by_cases hqk : q < k
       ·have hd := (H0.out.below Hbe2.out).more Hbe2.out.size
        have hql : q < d.tiers.length := by omega
        obtain ⟨b', off', hA', hb', c0, _, _⟩ := hd.tier k hlt
        obtain ⟨b'', off'', hA'', hb'', d0, _, _⟩ := hd.tier q hql
        rw [HA2.out] at hA' hA''
        injection hA' with hA'
        injection hA' with e1 e2 _
        subst e1 e2
        injection hA'' with hA''
        injection hA'' with e1 e2 _
        subst e1 e2
        clear hd
        have Hnm := kp (show (d.tiers[q]'hql).name = (d.tiers[q]'hql).name ∧ (d.tiers[k]'hlt).name = (d.tiers[k]'hlt).name from ⟨rfl, rfl⟩)
        have Hnx2 := kp (show ((d.tiers[q]'hql).name.toList == (d.tiers[k]'hlt).name.toList) = false → ∀ i (hi : i < k), i < q + 1 → d.tiers[i].name ≠ (d.tiers[k]'hlt).name from fun h i hi hiq => by
         by_cases e : i = q
         ·subst e
          intro hh
          rw [hh] at h
          simp at h
         ·exact Hno.out i hi (by omega))
        clear Hnm
        have hi2 : (0 : Int) ≤ (q : Int) := by omega
        have hi3 : (q : Int) < (d.tiers.length : Int) := by omega
        have hi4 : (q : Int) < (k : Int) := by omega
        generalize (d.tiers[q]'hql).name = y at *
        generalize (d.tiers[k]'hlt).name = x at *
        rcases hyx : (y.toList == x.toList) with _ | _
        ·have Hn3 := kp (Hnx2.out hyx)
         go_wp2_with fail
         go_quiet (fail)
         go_wp2_with fail
         exact ⟨⟨q + 1, by omega, by go_num, Hn3.out, below_drewN Hbe2.out _⟩, by simp [intOf]; omega⟩
        ·go_wp2_with fail
         go_quiet (fail)
         go_wp2_with fail
         exact HR.out _ _ (fun h => by cases h) (Hb0.out.trans ((below_drewN Hbe2.out _).mono Hb0.out.size))
       ·have Hto2 := kp (Hnx.out (Hr1.out (by trivial)) (fun i hi => Hno.out i hi (by omega)))
        go_wp2_with fail
        exact ⟨⟨k + 1, by omega, by go_num, Hto2.out, Hbe2.out⟩, by simp [intOf]; omega⟩
     ·have hne : (r1 != 0) = true := by simpa using he
      go_wp2_with fail
      exact HR.out _ _ (fun h => absurd h he) (Hb0.out.trans (Hb2.out.mono Hb0.out.size))
    ·obtain rfl : k = d.tiers.length := by omega
     go_wp2_with fail
     exact HR.out _ _ (fun _ => HOk.out (Hr.out (by trivial)) h1 h2 Hto.out) (Hb0.out.trans (Hbe.out.mono Hb0.out.size))
  ·go_wp2_with fail
   all_goals first
    | exact HR.out _ _ (fun h => by cases h) (Hb0.out.trans (Hb1.out.mono Hb0.out.size))
    | (exfalso; omega)
abbrev schC (s : Sch) : Array Value := #[.slice s.A s.dims.length s.c, .slice s.Am s.meas.length s.cm]
set_option maxRecDepth 100000 in
set_option maxHeartbeats 2000000 in
theorem r17few_any (s : Sch) (w : World) (h : SchAt w w.heap.size s) : Calls Tryz.prog 16 #[.agg (schC s)] w (RetB (fun _ => True) w) := by
 have HR := kp (fun r w' hb => RetB.mono (P := fun _ => True) (w := w) (r := r) (w' := w') trivial hb)
 have hb0 := (Below.refl w.heap.size w).alloc (Nat.le_refl _) (.cells (schC s) 25)
 have Hb0 := kp hb0
 have H0 := kp ((h.below hb0).more hb0.size)
 have HB := kp (Box.new w 25 (schC s))
 have hn := h.n
 have hnm := h.nm
 have HF := kp r16few_any
 unfold maxLen at hn hnm
 clear h hb0
 generalize hQ : RetB (fun _ => True) w = Q at *
 clear hQ
 unfold schC at HB Hb0 H0 ⊢
 go_enter Tryz.func16, Tryz.ntmps16
 go_wp2_with fail
 generalize w.alloc (.cells #[.slice s.A s.dims.length s.c, .slice s.Am s.meas.length s.cm] 25) = W0 at *
 go_loopw [3, 4] (fun v3 v4 wr => ∃ (k : Nat) (x : Int), k ≤ s.dims.length ∧ k ≤ 21 ∧ v3 = .int .i64 x ∧ v4 = .int .i64 k ∧ Below W0.heap.size W0 wr) (fun _ v4 _ => s.dims.length - (intOf v4).toNat)
 case atStart => exact ⟨0, 0, Nat.zero_le _, by omega, rfl, rfl, Below.refl _ _⟩
 case round =>
  obtain ⟨k, x, hk, hk2, rfl, rfl, hbe⟩ := hrel
  have Hbe := kp hbe
  obtain ⟨b0, b1, _, _⟩ := (HB.out.under hbe).two
  clear hbe
  by_cases hgo : k < s.dims.length ∧ k ≤ 20
  ·obtain ⟨hlt, h20⟩ := hgo
   have hs := (H0.out.below Hbe.out).more Hbe.out.size
   obtain ⟨b, off, hA, hb, c0, c1⟩ := hs.dim k hlt
   rw [hA] at b0
   have HFk := kp (HF.out (s.dims[k]'hlt) wr (hs.dims _ (List.getElem_mem hlt)))
   have Hda := kp (hs.dims _ (List.getElem_mem hlt))
   have hdn := (hs.dims _ (List.getElem_mem hlt)).n
   unfold maxLen at hdn
   have HA2 := kp hA
   unfold dimC at HFk
   clear hs hA
   generalize (s.dims[k]'hlt) = d at *
   have hi0 : (0 : Int) ≤ (k : Int) := by omega
   have hi1 : (k : Int) < (s.dims.length : Int) := by omega
   have hi2 : (k : Int) ≤ 20 := by omega
   go_wp2_with fail
   refine HFk.out.mono ?_
   rintro e w1 ⟨r, rfl, _, hb1⟩
   have Hb1 := kp (Hbe.out.trans (hb1.mono Hbe.out.size))
   have Hda1 := kp ((Hda.out.below hb1).more hb1.size)
   have c1' := cell_keep hb1 c1
   clear c0 c1 b0 b1 hb1 HFk
   obtain ⟨b0, b1, _, _⟩ := (HB.out.under Hb1.out).two
   rw [HA2.out] at b0
   rcases r with _ | _
   ·go_wp2_with fail
    exact HR.out _ _ (Hb0.out.trans (Hb1.out.mono Hb0.out.size))
   ·go_wp2_with fail
    clear b0 b1 c1'
    go_loopw [3, 34] (fun v3 v34 wr => ∃ (q : Nat) (y : Int), q ≤ d.tiers.length ∧ v3 = .int .i64 y ∧ v34 = .int .i64 q ∧ Below w1.heap.size w1 wr) (fun _ v34 _ => d.tiers.length - (intOf v34).toNat)
    case atStart => exact ⟨0, x, Nat.zero_le _, rfl, rfl, Below.refl _ _⟩
    case round =>
     obtain ⟨q, y, hq, rfl, rfl, hbe2⟩ := hrel
     have Hbe2 := kp hbe2
     clear hbe2
     by_cases hqd : q < d.tiers.length
     ·obtain ⟨b', off', hA', hb', t0, t1, t2⟩ := ((Hda1.out.below Hbe2.out).more Hbe2.out.size).tier q hqd
      have hi3 : (0 : Int) ≤ (q : Int) := by omega
      have hi4 : (q : Int) < (d.tiers.length : Int) := by omega
      rw [hA']
      generalize (d.tiers[q]'hqd).name = z0 at *
      generalize (d.tiers[q]'hqd).At = z1 at *
      generalize (d.tiers[q]'hqd).terms.length = z2 at *
      generalize (d.tiers[q]'hqd).ct = z3 at *
      generalize (d.tiers[q]'hqd).Au = z4 at *
      generalize (d.tiers[q]'hqd).up.length = z5 at *
      generalize (d.tiers[q]'hqd).cu = z6 at *
      have Hnx := kp (Hbe2.out.alloc Hbe2.out.size (.cells #[.string z0, .slice z1 z2 z3, .slice z4 z5 z6] 63))
      clear hA'
      go_wp2_with fail
      first
       | exact ⟨⟨q + 1, _, by omega, rfl, by go_num, Hnx.out⟩, by simp [intOf]; omega⟩
       | (refine ⟨?_, by simp [intOf]; omega⟩; (repeat apply Exists.intro); refine And.intro ?_ rfl; exact ⟨q + 1, _, by omega, rfl, by go_num, Hnx.out⟩)
     ·go_wp2_with fail
      exact ⟨⟨k + 1, y, by omega, by omega, rfl, by go_num, Hb1.out.trans (Hbe2.out.mono Hb1.out.size)⟩, by simp [intOf]; omega⟩
  ·have hgo' : ¬ ((k : Int) < (s.dims.length : Int) ∧ (k : Int) ≤ 20) := by omega
   have Hm := kp H0.out.meas
   have Hmz := kp H0.out.sz
   by_cases hlt : (k : Int) < (s.dims.length : Int)
   all_goals
    go_wp2_with fail
    all_goals first
     | (exfalso; omega)
     | skip
    clear b0 b1
    go_loopw [7, 8] (fun v7 v8 wr => ∃ (q : Nat) (y : Int), q ≤ s.meas.length ∧ q ≤ 6 ∧ v7 = .int .i64 y ∧ v8 = .int .i64 q ∧ Below W0.heap.size W0 wr) (fun _ v8 _ => s.meas.length - (intOf v8).toNat)
    case atStart => exact ⟨0, 0, Nat.zero_le _, by omega, rfl, rfl, Hbe.out⟩
    case round =>
     obtain ⟨q, y, hq, hq2, rfl, rfl, hbe2⟩ := hrel
     have Hbe2 := kp hbe2
     obtain ⟨b0, b1, _, _⟩ := (HB.out.under hbe2).two
     clear hbe2
     by_cases hgo2 : q < s.meas.length ∧ q ≤ 5
     ·obtain ⟨hqm, h5⟩ := hgo2
      obtain ⟨b', off', hA', hb', t0⟩ := Row.at_ ((Hm.out.below Hbe2.out).more Hbe2.out.size) (k := q) (by rw [List.length_map]; exact hqm)
      rw [List.getElem_map] at t0
      rw [hA'] at b1
      have hzz := Hmz.out _ (List.getElem_mem hqm)
      unfold maxLen at hzz
      generalize (s.meas[q]'hqm) = z at *
      have hi3 : (0 : Int) ≤ (q : Int) := by omega
      have hi4 : (q : Int) < (s.meas.length : Int) := by omega
      have hi5 : (q : Int) ≤ 5 := by omega
      clear hA'
      go_wp2_with fail
      all_goals exact ⟨⟨q + 1, _, by omega, by omega, rfl, by go_num, Hbe2.out⟩, by simp [intOf]; omega⟩
     ·go_wp2_with fail
      all_goals first
       | exact HR.out _ _ (Hb0.out.trans (Hbe2.out.mono Hb0.out.size))
       | (exfalso; omega)
structure SchOk (s : Sch) : Prop where
 n1 : 1 ≤ s.dims.length
 n2 : s.dims.length ≤ 16
 dims : ∀ k (h : k < s.dims.length), DimOk s.dims[k]
 names : ∀ i k (hk : k < s.dims.length) (hi : i < k), s.dims[i].name ≠ s.dims[k].name
 m1 : 1 ≤ s.meas.length
 m2 : s.meas.length ≤ 3
 meas : ∀ k (h : k < s.meas.length), NameOk s.meas[k]
 mnames : ∀ i k (hk : k < s.meas.length) (hi : i < k), s.meas[i] ≠ s.meas[k]
def SchTo (s : Sch) (k : Nat) : Prop := (∀ j (h : j < s.dims.length), j < k → DimOk s.dims[j]) ∧ ∀ i j (hj : j < s.dims.length) (hi : i < j), j < k → s.dims[i].name ≠ s.dims[j].name
theorem SchTo.next {d : Sch} {k : Nat} (h : SchTo d k) (hk : k < d.dims.length) (ht : DimOk d.dims[k]) (hn : ∀ i (hi : i < k), d.dims[i].name ≠ d.dims[k].name) : SchTo d (k + 1) := by
 refine ⟨fun j hj hjk => ?_, fun i j hj hi hjk => ?_⟩
 ·by_cases e : j = k
  ·subst e; exact ht
  ·exact h.1 j hj (by omega)
 ·by_cases e : j = k
  ·subst e; exact hn i hi
  ·exact h.2 i j hj hi (by omega)
def MeasTo (l : List ByteArray) (k : Nat) : Prop := (∀ j (h : j < l.length), j < k → NameOk l[j]) ∧ ∀ i j (hj : j < l.length) (hi : i < j), j < k → l[i] ≠ l[j]
theorem MeasTo.next {l : List ByteArray} {k : Nat} (h : MeasTo l k) (hk : k < l.length) (ht : NameOk l[k]) (hn : ∀ i (hi : i < k), l[i] ≠ l[k]) : MeasTo l (k + 1) := by
 refine ⟨fun j hj hjk => ?_, fun i j hj hi hjk => ?_⟩
 ·by_cases e : j = k
  ·subst e; exact ht
  ·exact h.1 j hj (by omega)
 ·by_cases e : j = k
  ·subst e; exact hn i hi
  ·exact h.2 i j hj hi (by omega)
set_option maxRecDepth 100000 in
set_option maxHeartbeats 4000000 in
theorem r17wrong_any (s : Sch) (w : World) (h : SchAt w w.heap.size s) : Calls Tryz.prog 46 #[.agg (schC s)] w (RetI (fun r => r = 0 → SchOk s) w) := by
 have HR := kp (fun r w' h hb => RetI.mono (P := fun r => r = 0 → SchOk s) (w := w) (r := r) (w' := w') h hb)
 have hb0 := (Below.refl w.heap.size w).alloc (Nat.le_refl _) (.cells (schC s) 25)
 have Hb0 := kp hb0
 have H0 := kp ((h.below hb0).more hb0.size)
 have HB := kp (Box.new w 25 (schC s))
 have hn := h.n
 have hnm := h.nm
 have HW := kp r16wrong_any
 have HN := kp rname_any
 have HOk := kp (show 1 ≤ s.dims.length → s.dims.length ≤ 16 → SchTo s s.dims.length → 1 ≤ s.meas.length → s.meas.length ≤ 3 → MeasTo s.meas s.meas.length → SchOk s from fun a b c d e f => ⟨a, b, fun k hk => c.1 k hk hk, fun i k hk hi => c.2 i k hk hi hk, d, e, fun k hk => f.1 k hk hk, fun i k hk hi => f.2 i k hk hi hk⟩)
 unfold maxLen at hn hnm
 clear h hb0
 generalize hQ : RetI (fun r => r = 0 → SchOk s) w = Q at *
 clear hQ
 unfold schC at HB Hb0 H0 ⊢
 have HBf := kp (show ∀ W, Below (w.alloc (.cells #[.slice s.A s.dims.length s.c, .slice s.Am s.meas.length s.cm] 25)).heap.size (w.alloc (.cells #[.slice s.A s.dims.length s.c, .slice s.Am s.meas.length s.cm] 25)) W → Below w.heap.size w W from fun W hW => Hb0.out.trans (hW.mono Hb0.out.size))
 go_enter Tryz.func46, Tryz.ntmps46
 by_cases h1 : 1 ≤ s.dims.length ∧ s.dims.length ≤ 16
 ·obtain ⟨h1, h2⟩ := h1
  have h1' : ¬ ((s.dims.length : Nat) : Int) < 1 := by omega
  have h2' : ¬ (16 : Int) < ((s.dims.length : Nat) : Int) := by omega
  go_wp2_with fail
  clear h1' h2'
  generalize w.alloc (.cells #[.slice s.A s.dims.length s.c, .slice s.Am s.meas.length s.cm] 25) = W0 at *
  go_loopw [21] (fun v21 wr => ∃ k : Nat, k ≤ s.dims.length ∧ v21 = .int .i64 k ∧ SchTo s k ∧ Below W0.heap.size W0 wr) (fun v21 _ => s.dims.length - (intOf v21).toNat)
  case atStart => exact ⟨0, Nat.zero_le _, rfl, ⟨fun j _ h => by omega, fun i j _ _ h => by omega⟩, Below.refl _ _⟩
  case round =>
   obtain ⟨k, hk, rfl, hto, hbe⟩ := hrel
   have Hto := kp hto
   have Hbe := kp hbe
   obtain ⟨b0, b1, _, _⟩ := (HB.out.under hbe).two
   clear hto hbe
   by_cases hlt : k < s.dims.length
   ·have hs := (H0.out.below Hbe.out).more Hbe.out.size
    have HW1 := kp (HW.out (s.dims[k]'hlt) wr (hs.dims _ (List.getElem_mem hlt)))
    unfold dimC at HW1
    obtain ⟨b, off, hA, hb, c0, c1⟩ := hs.dim k hlt
    rw [hA] at b0
    have HA2 := kp hA
    have hi0 : (0 : Int) ≤ (k : Int) := by omega
    have hi1 : (k : Int) < (s.dims.length : Int) := by omega
    have Hnx := kp (fun a b => Hto.out.next hlt a b)
    clear hs hA
    generalize DimOk (s.dims[k]'hlt) = PD at *
    go_wp2_with fail
    refine HW1.out.mono ?_
    rintro e w1 ⟨r1, rfl, hr1, hb1⟩
    have Hr1 := kp hr1
    have Hb2 := kp (Hbe.out.trans (hb1.mono Hbe.out.size))
    clear hr1 hb1 c0 c1 b0 b1 HW1
    by_cases he : r1 = 0
    ·subst he
     have h00 : ((0 : Int) != 0) = false := by simp
     go_wp2_with fail
     go_loopw [5] (fun v5 wr => ∃ q : Nat, q ≤ k ∧ v5 = .int .i64 q ∧ (∀ i (hi : i < k), i < q → s.dims[i].name ≠ (s.dims[k]'hlt).name) ∧ Below W0.heap.size W0 wr) (fun v5 _ => k - (intOf v5).toNat)
     case atStart => exact ⟨0, Nat.zero_le _, rfl, fun i _ h => by omega, Hb2.out⟩
     case round =>
      obtain ⟨q, hq, rfl, hno, hbe2⟩ := hrel
      have Hno := kp hno
      have Hbe2 := kp hbe2
      obtain ⟨b0, b1, _, _⟩ := (HB.out.under hbe2).two
      rw [HA2.out] at b0
      clear hno hbe2
      by_cases hqk : q < k
      ·have hs := (H0.out.below Hbe2.out).more Hbe2.out.size
       have hql : q < s.dims.length := by omega
       obtain ⟨b', off', hA', hb', c0, _⟩ := hs.dim k hlt
       obtain ⟨b'', off'', hA'', hb'', d0, _⟩ := hs.dim q hql
       rw [HA2.out] at hA' hA''
       injection hA' with hA'
       injection hA' with e1 e2 _
       subst e1 e2
       injection hA'' with hA''
       injection hA'' with e1 e2 _
       subst e1 e2
       clear hs
       have Hnx2 := kp (show ((s.dims[q]'hql).name.toList == (s.dims[k]'hlt).name.toList) = false → ∀ i (hi : i < k), i < q + 1 → s.dims[i].name ≠ (s.dims[k]'hlt).name from fun h i hi hiq => by
        by_cases e : i = q
        ·subst e
         intro hh
         rw [hh] at h
         simp at h
        ·exact Hno.out i hi (by omega))
       have hi2 : (0 : Int) ≤ (q : Int) := by omega
       have hi3 : (q : Int) < (s.dims.length : Int) := by omega
       have hi4 : (q : Int) < (k : Int) := by omega
       generalize (s.dims[q]'hql).name = y at *
       generalize (s.dims[k]'hlt).name = x at *
       rcases hyx : (y.toList == x.toList) with _ | _
       ·have Hn3 := kp (Hnx2.out hyx)
        go_wp2_with fail
        go_quiet (fail)
        go_wp2_with fail
        exact ⟨⟨q + 1, by omega, by go_num, Hn3.out, below_drewN Hbe2.out _⟩, by simp [intOf]; omega⟩
       ·go_wp2_with fail
        go_quiet (fail)
        go_wp2_with fail
        exact HR.out _ _ (fun h => by cases h) (HBf.out _ (below_drewN Hbe2.out _))
      ·have Hto2 := kp (Hnx.out (Hr1.out (by trivial)) (fun i hi => Hno.out i hi (by omega)))
       go_wp2_with fail
       exact ⟨⟨k + 1, by omega, by go_num, Hto2.out, Hbe2.out⟩, by simp [intOf]; omega⟩
    ·have hne : (r1 != 0) = true := by simpa using he
     go_wp2_with fail
     exact HR.out _ _ (fun h => absurd h he) (HBf.out _ Hb2.out)
   ·obtain rfl : k = s.dims.length := by omega
    have Hms := kp H0.out.meas
    have Hmz := kp H0.out.sz
    clear HW H0
    generalize s.meas = l at *
    by_cases hm : 1 ≤ l.length ∧ l.length ≤ 3
    ·obtain ⟨hm1, hm2⟩ := hm
     have h1' : ¬ ((l.length : Nat) : Int) < 1 := by omega
     have h2' : ¬ (3 : Int) < ((l.length : Nat) : Int) := by omega
     go_wp2_with fail
     clear h1' h2' b0 b1
     go_loopw [65] (fun v65 wr => ∃ k : Nat, k ≤ l.length ∧ v65 = .int .i64 k ∧ MeasTo l k ∧ Below W0.heap.size W0 wr) (fun v65 _ => l.length - (intOf v65).toNat)
     case atStart => exact ⟨0, Nat.zero_le _, rfl, ⟨fun j _ h => by omega, fun i j _ _ h => by omega⟩, Hbe.out⟩
     case round =>
      obtain ⟨j, hj, rfl, hmt, hbe3⟩ := hrel
      have Hmt := kp hmt
      have Hbe3 := kp hbe3
      obtain ⟨b0, b1, _, _⟩ := (HB.out.under hbe3).two
      clear hmt hbe3
      by_cases hlt : j < l.length
      ·obtain ⟨b, off, hA, hb, c0⟩ := Row.at_ ((Hms.out.below Hbe3.out).more Hbe3.out.size) (k := j) (by rw [List.length_map]; exact hlt)
       rw [List.getElem_map] at c0
       rw [hA] at b1
       have HN1 := kp (fun W => HN.out (l[j]'hlt) W (Hmz.out _ (List.getElem_mem hlt)))
       have HA2 := kp hA
       have hi0 : (0 : Int) ≤ (j : Int) := by omega
       have hi1 : (j : Int) < (l.length : Int) := by omega
       have Hnx := kp (fun a b => Hmt.out.next hlt a b)
       clear hA
       generalize NameOk (l[j]'hlt) = PD at *
       go_wp2_with fail
       refine (HN1.out _).mono ?_
       rintro e w1 ⟨r1, rfl, hr1, hb1⟩
       have Hr1 := kp hr1
       have Hb2 := kp (Hbe3.out.trans (hb1.mono Hbe3.out.size))
       clear hr1 hb1 c0 b0 b1 HN1
       rcases r1 with _ | _
       ·go_wp2_with fail
        exact HR.out _ _ (fun h => by cases h) (HBf.out _ Hb2.out)
       ·go_wp2_with fail
        go_loopw [7] (fun v7 wr => ∃ q : Nat, q ≤ j ∧ v7 = .int .i64 q ∧ (∀ i (hi : i < j), i < q → l[i] ≠ (l[j]'hlt)) ∧ Below W0.heap.size W0 wr) (fun v7 _ => j - (intOf v7).toNat)
        case atStart => exact ⟨0, Nat.zero_le _, rfl, fun i _ h => by omega, Hb2.out⟩
        case round =>
         obtain ⟨q, hq, rfl, hno, hbe2⟩ := hrel
         have Hno := kp hno
         have Hbe2 := kp hbe2
         obtain ⟨b0, b1, _, _⟩ := (HB.out.under hbe2).two
         rw [HA2.out] at b1
         clear hno hbe2
         by_cases hqk : q < j
         ·have hql : q < l.length := by omega
          obtain ⟨b', off', hA', hb', c0⟩ := Row.at_ ((Hms.out.below Hbe2.out).more Hbe2.out.size) (k := j) (by rw [List.length_map]; exact hlt)
          obtain ⟨b'', off'', hA'', hb'', d0⟩ := Row.at_ ((Hms.out.below Hbe2.out).more Hbe2.out.size) (k := q) (by rw [List.length_map]; exact hql)
          rw [List.getElem_map] at c0 d0
          rw [HA2.out] at hA' hA''
          injection hA' with hA'
          injection hA' with e1 e2 _
          subst e1 e2
          injection hA'' with hA''
          injection hA'' with e1 e2 _
          subst e1 e2
          have Hnx2 := kp (show ((l[q]'hql).toList == (l[j]'hlt).toList) = false → ∀ i (hi : i < j), i < q + 1 → l[i] ≠ (l[j]'hlt) from fun h i hi hiq => by
           by_cases e : i = q
           ·subst e
            intro hh
            rw [hh] at h
            simp at h
           ·exact Hno.out i hi (by omega))
          have hi2 : (0 : Int) ≤ (q : Int) := by omega
          have hi3 : (q : Int) < (l.length : Int) := by omega
          have hi4 : (q : Int) < (j : Int) := by omega
          generalize (l[q]'hql) = y at *
          generalize (l[j]'hlt) = x at *
          rcases hyx : (y.toList == x.toList) with _ | _
          ·have Hn3 := kp (Hnx2.out hyx)
           go_wp2_with fail
           go_quiet (fail)
           go_wp2_with fail
           exact ⟨⟨q + 1, by omega, by go_num, Hn3.out, below_drewN Hbe2.out _⟩, by simp [intOf]; omega⟩
          ·go_wp2_with fail
           go_quiet (fail)
           go_wp2_with fail
           exact HR.out _ _ (fun h => by cases h) (HBf.out _ (below_drewN Hbe2.out _))
         ·have Hto2 := kp (Hnx.out (Hr1.out (by trivial)) (fun i hi => Hno.out i hi (by omega)))
          go_wp2_with fail
          exact ⟨⟨j + 1, by omega, by go_num, Hto2.out, Hbe2.out⟩, by simp [intOf]; omega⟩
      ·obtain rfl : j = l.length := by omega
       go_wp2_with fail
       exact HR.out _ _ (fun _ => HOk.out h1 h2 Hto.out hm1 hm2 Hmt.out) (HBf.out _ Hbe3.out)
    ·go_wp2_with fail
     all_goals first
      | exact HR.out _ _ (fun h => by cases h) (HBf.out _ Hbe.out)
      | (exfalso; omega)
 ·go_wp2_with fail
  all_goals first
   | exact HR.out _ _ (fun h => by cases h) Hb0.out
   | (exfalso; omega)
end Go.Proofs.YthmbgbmcdbdecaaGreat.Tc
