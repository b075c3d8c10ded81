/- Parts of a proof: Layer 25: aggregates joined. -/
import Derived.Test.YthmbgbmcdbdecaaGreatG05
import Derived.Test.YthmbgbmcdbdecaaGreatG06
import Derived.Test.YthmbgbmcdbdecaaGreatG17
import Derived.Deep.Fields
import Derived.ChangeSame
import Derived.WalkLawsBesides
import Derived.WalkSpells
import Derived.Deep.QuietTactic
import Derived.BigQuiet
import Derived.Deep.Cut
import Derived.Lib.Strings
namespace Go.Proofs.YthmbgbmcdbdecaaGreat.Tc
open Go.RowKit Base
set_option linter.unusedVariables false
set_option linter.unusedSimpArgs false
def addAg (a b : Ag) : Ag := ⟨a.c + b.c, a.s0 + b.s0, min a.n0 b.n0, max a.x0 b.x0, a.s1 + b.s1, min a.n1 b.n1, max a.x1 b.x1, a.s2 + b.s2, min a.n2 b.n2, max a.x2 b.x2⟩
def FitAg (a : Ag) : Prop := fit a.c ∧ fit a.s0 ∧ fit a.n0 ∧ fit a.x0 ∧ fit a.s1 ∧ fit a.n1 ∧ fit a.x1 ∧ fit a.s2 ∧ fit a.n2 ∧ fit a.x2
def partC (s n x : Int) : Array Value := #[.int .i64 s, .int .i64 n, .int .i64 x]
def PartRet (s n x s' n' x' : Int) (w : World) (e : Ending) (w' : World) : Prop := e = .returned (.tuple #[.agg #[.int .i64 (cap (s + s')), .int .i64 (min n n'), .int .i64 (max x x')], .bool (fits (s + s'))]) ∧ Below w.heap.size w w'
set_option maxRecDepth 100000 in
set_option maxHeartbeats 4000000 in
theorem part_any (s n x s' n' x' : Int) (w : World) (hs : fit s) (hs' : fit s') : Calls Tryz.prog 88 #[.agg #[.int .i64 s, .int .i64 n, .int .i64 x], .agg #[.int .i64 s', .int .i64 n', .int .i64 x']] w (PartRet s n x s' n' x' w) := by
 have HA := kp (fun w => add_any s s' w hs hs')
 have HYes := kp (show ∀ (mn mx : Int) (w' : World), mn = min n n' → mx = max x x' → Below w.heap.size w w' → PartRet s n x s' n' x' w (.returned (.tuple #[.agg #[.int .i64 (cap (s + s')), .int .i64 mn, .int .i64 mx], .bool (fits (s + s'))])) w' from fun mn mx w' h1 h2 h3 => by subst h1 h2; exact ⟨rfl, h3⟩)
 generalize hQ : PartRet s n x s' n' x' w = Q at *
 clear hQ
 go_enter Tryz.func88, Tryz.ntmps88
 go_wp2_with fail
 refine (HA.out _).mono ?_
 rintro e w' ⟨rfl, rfl⟩
 go_wp2
 all_goals first
  | refine bodyPost_ret (v := .tuple #[.agg #[.int .i64 (cap (s + s')), .int .i64 n, .int .i64 x], .bool (fits (s + s'))]) (by simp [results, Tryz.results88, go_sem]) rfl (HYes.out _ _ _ (by omega) (by omega) ((((Below.refl _ w).alloc (Nat.le_refl _) _).alloc (by simp) _).alloc (by simp; omega) _))
  | refine bodyPost_ret (v := .tuple #[.agg #[.int .i64 (cap (s + s')), .int .i64 n, .int .i64 x'], .bool (fits (s + s'))]) (by simp [results, Tryz.results88, go_sem]) rfl (HYes.out _ _ _ (by omega) (by omega) ((((Below.refl _ w).alloc (Nat.le_refl _) _).alloc (by simp) _).alloc (by simp; omega) _))
  | refine bodyPost_ret (v := .tuple #[.agg #[.int .i64 (cap (s + s')), .int .i64 n', .int .i64 x], .bool (fits (s + s'))]) (by simp [results, Tryz.results88, go_sem]) rfl (HYes.out _ _ _ (by omega) (by omega) ((((Below.refl _ w).alloc (Nat.le_refl _) _).alloc (by simp) _).alloc (by simp; omega) _))
  | refine bodyPost_ret (v := .tuple #[.agg #[.int .i64 (cap (s + s')), .int .i64 n', .int .i64 x'], .bool (fits (s + s'))]) (by simp [results, Tryz.results88, go_sem]) rfl (HYes.out _ _ _ (by omega) (by omega) ((((Below.refl _ w).alloc (Nat.le_refl _) _).alloc (by simp) _).alloc (by simp; omega) _))
def ps (a : Ag) (k : Nat) : Int := match k with | 0 => a.s0 | 1 => a.s1 | _ => a.s2
def pn (a : Ag) (k : Nat) : Int := match k with | 0 => a.n0 | 1 => a.n1 | _ => a.n2
def px (a : Ag) (k : Nat) : Int := match k with | 0 => a.x0 | 1 => a.x1 | _ => a.x2
def joinTo (a b : Ag) (k : Nat) : Ag := ⟨a.c + b.c, if 0 < k then a.s0 + b.s0 else 0, if 0 < k then min a.n0 b.n0 else 0, if 0 < k then max a.x0 b.x0 else 0, if 1 < k then a.s1 + b.s1 else 0, if 1 < k then min a.n1 b.n1 else 0, if 1 < k then max a.x1 b.x1 else 0, if 2 < k then a.s2 + b.s2 else 0, if 2 < k then min a.n2 b.n2 else 0, if 2 < k then max a.x2 b.x2 else 0⟩
def sumsFit (a b : Ag) : Prop := fit (a.c + b.c) ∧ fit (a.s0 + b.s0) ∧ fit (a.s1 + b.s1) ∧ fit (a.s2 + b.s2)
instance (a b : Ag) : Decidable (sumsFit a b) := inferInstanceAs (Decidable (_ ∧ _))
def joinA (a b : Ag) : Option Ag := if a.c = 0 then some b else if b.c = 0 then some a else if sumsFit a b then some (addAg a b) else none
theorem FitAg.ps {a : Ag} (h : FitAg a) (k : Nat) : fit (ps a k) := by
 unfold FitAg at h
 unfold Tc.ps
 split
 ·exact h.2.1
 ·exact h.2.2.2.2.1
 ·exact h.2.2.2.2.2.2.2.1
theorem Box.part {w : World} {g : Nat} {t : TypeId} {a : Ag} (h : Box w g t (agC a)) {k : Nat} (hk : k < 3) :
 (w.cell? ⟨g, 1 + k * 3, none⟩ = some (.int .i64 (ps a k)) ∧ w.cell? ⟨g, 1 + k * 3 + 1, none⟩ = some (.int .i64 (pn a k)) ∧ w.cell? ⟨g, 1 + k * 3 + 2, none⟩ = some (.int .i64 (px a k))) ∧
 (w.frozen? ⟨g, 1 + k * 3, none⟩ = false ∧ w.frozen? ⟨g, 1 + k * 3 + 1, none⟩ = false ∧ w.frozen? ⟨g, 1 + k * 3 + 2, none⟩ = false) := by
 obtain ⟨⟨a0, a1, a2, a3, a4, a5, a6, a7, a8, a9⟩, ⟨f0, f1, f2, f3, f4, f5, f6, f7, f8, f9⟩⟩ := Box.ten h
 match k, hk with
 | 0, _ => exact ⟨⟨a1, a2, a3⟩, f1, f2, f3⟩
 | 1, _ => exact ⟨⟨a4, a5, a6⟩, f4, f5, f6⟩
 | 2, _ => exact ⟨⟨a7, a8, a9⟩, f7, f8, f9⟩
theorem Box.part_set {w : World} {g : Nat} {t : TypeId} {a b : Ag} {k : Nat} (h : Box w g t (agC (joinTo a b k))) (hk : k < 3) :
 Box (((w.setCell ⟨g, 1 + k * 3, none⟩ (.int .i64 (Tc.ps a k + Tc.ps b k))).setCell ⟨g, 1 + k * 3 + 1, none⟩ (.int .i64 (min (pn a k) (pn b k)))).setCell ⟨g, 1 + k * 3 + 2, none⟩ (.int .i64 (max (px a k) (px b k)))) g t (agC (joinTo a b (k + 1))) := by
 match k, hk, h with
 | 0, _, h => exact ((h.set 1 _).set 2 _).set 3 _
 | 1, _, h => exact ((h.set 4 _).set 5 _).set 6 _
 | 2, _, h => exact ((h.set 7 _).set 8 _).set 9 _
theorem joinTo_3 (a b : Ag) : joinTo a b 3 = addAg a b := rfl
theorem sums_fit {a b : Ag} (h0 : fit (a.c + b.c)) (h : ∀ i, i < 3 → fit (ps a i + ps b i)) : sumsFit a b := ⟨h0, h 0 (by omega), h 1 (by omega), h 2 (by omega)⟩
theorem sums_not {a b : Ag} {k : Nat} (hk : k < 3) (h : ¬ fit (ps a k + ps b k)) : ¬ sumsFit a b := by
 intro hs
 match k, hk, h with
 | 0, _, h => exact h hs.2.1
 | 1, _, h => exact h hs.2.2.1
 | 2, _, h => exact h hs.2.2.2
theorem cell_far1 {w : World} {p a : Addr} {u : Value} (h : a.block ≠ p.block) : (w.setCell p u).cell? a = w.cell? a := World.cell?_of_block (Below.heap_setCell w p u a.block h)
theorem cell_far3 {w : World} {p q r a : Addr} {u v x : Value} (h1 : a.block ≠ p.block) (h2 : a.block ≠ q.block) (h3 : a.block ≠ r.block) : (((w.setCell p u).setCell q v).setCell r x).cell? a = w.cell? a :=
 (cell_far1 h3).trans ((cell_far1 h2).trans (cell_far1 h1))
def JoinRet (a b : Ag) (w : World) (e : Ending) (w' : World) : Prop := e = .returned (.tuple #[.agg (agC ((joinA a b).getD agZero)), .bool (joinA a b).isSome]) ∧ Below w.heap.size w w'
set_option maxRecDepth 100000 in
set_option maxHeartbeats 4000000 in
theorem join_any (a b : Ag) (w : World) (ha : FitAg a) (hb : FitAg b) : Calls Tryz.prog 53 #[.agg (agC a), .agg (agC b)] w (JoinRet a b w) := by
 have HA := kp (fun w => add_any a.c b.c w ha.1 hb.1)
 have HP := kp (fun k w => part_any (ps a k) (pn a k) (px a k) (ps b k) (pn b k) (px b k) w (ha.ps k) (hb.ps k))
 have HYes := kp (show ∀ (o : Option Ag) w', joinA a b = o → Below w.heap.size w w' → JoinRet a b w (.returned (.tuple #[.agg (agC (o.getD agZero)), .bool o.isSome])) w' from fun o w' h1 h2 => by subst h1; exact ⟨rfl, h2⟩)
 have Hb2 := kp ((((Below.refl w.heap.size w).alloc (Nat.le_refl _) (.cells (agC a) 47)).alloc (by simp) (.cells (agC b) 47)))
 generalize hQ : JoinRet a b w = Q at *
 clear hQ ha hb
 by_cases h0 : a.c = 0
 ·have Hj := kp (show joinA a b = some b from if_pos h0)
  go_enter Tryz.func53, Tryz.ntmps53
  go_wp2_with fail
  refine bodyPost_ret (v := .tuple #[.agg (agC ((some b : Option Ag).getD agZero)), .bool (some b : Option Ag).isSome]) (by simp [results, Tryz.results53, go_sem, agZero]) rfl (HYes.out (some b) _ Hj.out (Hb2.out.alloc (by simp; omega) _))
 by_cases h1 : b.c = 0
 ·have Hj := kp (show joinA a b = some a by unfold joinA; rw [if_neg h0, if_pos h1])
  go_enter Tryz.func53, Tryz.ntmps53
  go_wp2_with fail
  refine bodyPost_ret (v := .tuple #[.agg (agC ((some a : Option Ag).getD agZero)), .bool (some a : Option Ag).isSome]) (by simp [results, Tryz.results53, go_sem, agZero]) rfl (HYes.out (some a) _ Hj.out (Hb2.out.alloc (by simp; omega) _))
 go_enter Tryz.func53, Tryz.ntmps53
 go_wp2_with fail
 refine (HA.out _).mono ?_
 rintro e w' ⟨rfl, rfl⟩
 by_cases hf : fit (a.c + b.c)
 ·rw [cap_yes hf, fits_yes hf]
  go_wp2_with fail
  have hl3 : ((w.alloc (.cells (agC a) 47)).alloc (.cells (agC b) 47)).heap.size = w.heap.size + 2 := by simp
  have HBa := kp ((((Box.new w 47 (agC a)).alloc (.cells (agC b) 47)).alloc (.cells (agC agZero) 47)).alloc (.cells (agC (joinTo a b 0)) 47))
  have HBb := kp (((Box.lay (w := w.alloc (.cells (agC a) 47)) (g := w.heap.size + 1) (t := 47) (cs := agC b) (by simp)).alloc (.cells (agC agZero) 47)).alloc (.cells (agC (joinTo a b 0)) 47))
  have HBz := kp ((Box.lay (w := (w.alloc (.cells (agC a) 47)).alloc (.cells (agC b) 47)) (g := w.heap.size + 1 + 1) (t := 47) (cs := agC agZero) (by simp)).alloc (.cells (agC (joinTo a b 0)) 47))
  have HBj := kp (Box.lay (w := ((w.alloc (.cells (agC a) 47)).alloc (.cells (agC b) 47)).alloc (.cells (agC agZero) 47)) (g := w.heap.size + 1 + 1 + 1) (t := 47) (cs := agC (joinTo a b 0)) (by simp))
  have Hb4 := kp ((Hb2.out.alloc (by simp; omega) (.cells (agC agZero) 47)).alloc (by simp; omega) (.cells (agC (joinTo a b 0)) 47))
  go_loopw [32] (fun v32 wr => ∃ k : Nat, k ≤ 3 ∧ v32 = .int .i64 k ∧ Box wr w.heap.size 47 (agC a) ∧ Box wr (w.heap.size + 1) 47 (agC b) ∧ Box wr (w.heap.size + 1 + 1) 47 (agC agZero) ∧ Box wr (w.heap.size + 1 + 1 + 1) 47 (agC (joinTo a b k)) ∧ (∀ i, i < k → fit (ps a i + ps b i)) ∧ Below w.heap.size w wr) (fun v32 _ => 3 - (intOf v32).toNat)
  case atStart => exact ⟨0, by omega, rfl, HBa.out, HBb.out, HBz.out, HBj.out, fun i hi => by omega, Hb4.out⟩
  case round =>
   clear HBa HBb HBz HBj Hb4 Hb2 hl3 HA
   obtain ⟨k, hk, rfl, hba, hbb, hbz, hbj, hfs, hbe⟩ := hrel
   have HBa := kp hba
   have HBb := kp hbb
   have HBz := kp hbz
   have HBj := kp hbj
   have Hfs := kp hfs
   have Hbe := kp hbe
   have hsz : w.heap.size + 3 < wr.heap.size := HBj.out.lt
   clear hba hbb hbz hbj hfs hbe
   by_cases hlt : k < 3
   ·obtain ⟨⟨a0, a1, a2⟩, _⟩ := Box.part HBa.out hlt
    obtain ⟨⟨b0, b1, b2⟩, _⟩ := Box.part HBb.out hlt
    obtain ⟨_, ⟨f0, f1, f2⟩⟩ := Box.part HBj.out hlt
    have hi0 : (0 : Int) ≤ (k : Int) := by omega
    have hi1 : (k : Int) < 3 := by omega
    have HPk := kp (HP.out k)
    have Hpset := kp (fun w' (h : Box w' (w.heap.size + 1 + 1 + 1) 47 (agC (joinTo a b k))) => Box.part_set h hlt)
    clear HP
    generalize hs1 : ps a k = s1 at a0 HPk Hpset ⊢
    generalize hs2 : ps b k = s2 at b0 HPk Hpset ⊢
    have hs1 := hs1.symm
    have hs2 := hs2.symm
    generalize pn a k = n1 at *
    generalize px a k = x1 at *
    generalize pn b k = n2 at *
    generalize px b k = x2 at *
    have HNo := kp (show ¬ fit (s1 + s2) → joinA a b = none from fun h => by rw [hs1, hs2] at h; unfold joinA; rw [if_neg h0, if_neg h1, if_neg (sums_not hlt h)])
    have HNx := kp (show fit (s1 + s2) → ∀ i, i < k + 1 → fit (ps a i + ps b i) from fun h i hi => by
     rcases Nat.lt_succ_iff_lt_or_eq.1 hi with hi | rfl
     ·exact Hfs.out i hi
     ·rw [← hs1, ← hs2]; exact h)
    clear hs1 hs2
    go_wp2_with fail
    refine wp_region_noPanic ?_
    refine wp_region_T (t := 99) (S := (fun w' => ((w'.cell? ⟨w.heap.size, 1 + k * 3, none⟩ = some (.int .i64 s1) ∧ w'.cell? ⟨w.heap.size, 1 + k * 3 + 1, none⟩ = some (.int .i64 n1) ∧ w'.cell? ⟨w.heap.size, 1 + k * 3 + 2, none⟩ = some (.int .i64 x1)) ∧ (w'.cell? ⟨w.heap.size + 1, 1 + k * 3, none⟩ = some (.int .i64 s2) ∧ w'.cell? ⟨w.heap.size + 1, 1 + k * 3 + 1, none⟩ = some (.int .i64 n2) ∧ w'.cell? ⟨w.heap.size + 1, 1 + k * 3 + 2, none⟩ = some (.int .i64 x2))))) (by kernel_rfl) ⟨⟨a0, a1, a2⟩, b0, b1, b2⟩ (fun hHeld => ?_)
    refine tk 0 hHeld ?_
    refine tk 1 hHeld ?_
    refine tk 2 hHeld ?_
    refine tk 3 hHeld ?_
    refine tk 4 hHeld ?_
    refine tk 5 hHeld ?_
    refine tk 6 hHeld ?_
    refine tk 7 hHeld ?_
    refine tk 8 hHeld ?_
    refine tk 13 hHeld ?_
    have hltR : wr.drew.heap.size = wr.heap.size := by simp
    refine wpAnyT_one (i := 9) (o := ?op9) (by kernel_rfl) ?ap9 (by decide) (fun K hK => ?bp9)
    case ap9 => (simp only [List.getElem?_toArray, List.getElem?_cons_succ, List.getElem?_cons_zero]; exact rfl)
    go_simp
    refine (HPk.out wr.drew).mono ?_
    rintro e w2 ⟨rfl, hb2⟩
    have Hb2 := kp hb2
    clear hb2
    refine hK.out _ _ ?_ (fun hHeld2 => ?_)
    ·exact ⟨⟨cell_keep Hb2.out hHeld.1.1, cell_keep Hb2.out hHeld.1.2.1, cell_keep Hb2.out hHeld.1.2.2⟩, cell_keep Hb2.out hHeld.2.1, cell_keep Hb2.out hHeld.2.2.1, cell_keep Hb2.out hHeld.2.2.2⟩
    clear hK K hHeld
    have hHeld := hHeld2
    clear hHeld2
    try simp only [Act.put, List.setIfInBounds_toArray, List.set_cons_zero, List.set_cons_succ]
    have HBa2 := kp (HBa.out.drew.under Hb2.out)
    have HBb2 := kp (HBb.out.drew.under Hb2.out)
    have HBz2 := kp (HBz.out.drew.under Hb2.out)
    have HBj2 := kp (HBj.out.drew.under Hb2.out)
    have Hbe2 := kp (Hbe.out.drew.trans (Hb2.out.mono (by simp; omega)))
    obtain ⟨⟨j0, j1, j2⟩, ⟨f0', f1', f2'⟩⟩ := Box.part HBj2.out hlt
    clear f0 f1 f2
    refine tk 10 hHeld ?_
    refine tk 11 hHeld ?_
    refine tk 12 hHeld ?_
    refine tk 14 hHeld ?_
    refine wpAnyT_one (i := 15) (o := ?op15) (by kernel_rfl) ?ap15 (by decide) (fun K hK => ?bp15)
    case ap15 => (simp only [List.getElem?_toArray, List.getElem?_cons_succ, List.getElem?_cons_zero]; exact rfl)
    go_simp
    refine hK.out _ _ ?_ (fun hHeld2 => ?_)
    ·exact ⟨⟨(cell_far3 (by simp <;> omega) (by simp <;> omega) (by simp <;> omega)).trans hHeld.1.1, (cell_far3 (by simp <;> omega) (by simp <;> omega) (by simp <;> omega)).trans hHeld.1.2.1, (cell_far3 (by simp <;> omega) (by simp <;> omega) (by simp <;> omega)).trans hHeld.1.2.2⟩, (cell_far3 (by simp <;> omega) (by simp <;> omega) (by simp <;> omega)).trans hHeld.2.1, (cell_far3 (by simp <;> omega) (by simp <;> omega) (by simp <;> omega)).trans hHeld.2.2.1, (cell_far3 (by simp <;> omega) (by simp <;> omega) (by simp <;> omega)).trans hHeld.2.2.2⟩
    clear hK K hHeld
    have hHeld := hHeld2
    clear hHeld2
    try simp only [Act.put, List.setIfInBounds_toArray, List.set_cons_zero, List.set_cons_succ]
    refine tk 16 hHeld ?_
    refine wpAnyT_done (by kernel_rfl) ?_ _
    try clear hHeld
    refine NoPanic.normal ?_
    by_cases hff : fit (s1 + s2)
    ·rw [cap_yes hff, fits_yes hff]
     go_wp2_with fail
     refine ⟨⟨k + 1, by omega, by go_num, ?_, ?_, ?_, ?_, HNx.out hff, ?_⟩, by simp [intOf]; omega⟩
     ·exact ((HBa2.out.far (p := ⟨w.heap.size + 1 + 1 + 1, 1 + k * 3, none⟩) (by simp <;> omega) _).far (p := ⟨w.heap.size + 1 + 1 + 1, 1 + k * 3 + 1, none⟩) (by simp <;> omega) _).far (p := ⟨w.heap.size + 1 + 1 + 1, 1 + k * 3 + 2, none⟩) (by simp <;> omega) _
     ·exact ((HBb2.out.far (p := ⟨w.heap.size + 1 + 1 + 1, 1 + k * 3, none⟩) (by simp <;> omega) _).far (p := ⟨w.heap.size + 1 + 1 + 1, 1 + k * 3 + 1, none⟩) (by simp <;> omega) _).far (p := ⟨w.heap.size + 1 + 1 + 1, 1 + k * 3 + 2, none⟩) (by simp <;> omega) _
     ·exact ((HBz2.out.far (p := ⟨w.heap.size + 1 + 1 + 1, 1 + k * 3, none⟩) (by simp <;> omega) _).far (p := ⟨w.heap.size + 1 + 1 + 1, 1 + k * 3 + 1, none⟩) (by simp <;> omega) _).far (p := ⟨w.heap.size + 1 + 1 + 1, 1 + k * 3 + 2, none⟩) (by simp <;> omega) _
     ·exact Hpset.out _ HBj2.out
     ·exact ((Hbe2.out.setCell (p := ⟨w.heap.size + 1 + 1 + 1, 1 + k * 3, none⟩) (by simp <;> omega) _).setCell (p := ⟨w.heap.size + 1 + 1 + 1, 1 + k * 3 + 1, none⟩) (by simp <;> omega) _).setCell (p := ⟨w.heap.size + 1 + 1 + 1, 1 + k * 3 + 2, none⟩) (by simp <;> omega) _
    ·have Hno := kp (HNo.out hff)
     rw [cap_no hff, fits_no hff]
     have HBz3 := kp (((HBz2.out.far (p := ⟨w.heap.size + 1 + 1 + 1, 1 + k * 3, none⟩) (by simp <;> omega) (.int .i64 0)).far (p := ⟨w.heap.size + 1 + 1 + 1, 1 + k * 3 + 1, none⟩) (by simp <;> omega) (.int .i64 (min n1 n2))).far (p := ⟨w.heap.size + 1 + 1 + 1, 1 + k * 3 + 2, none⟩) (by simp <;> omega) (.int .i64 (max x1 x2)))
     have Hbe3 := kp (((Hbe2.out.setCell (p := ⟨w.heap.size + 1 + 1 + 1, 1 + k * 3, none⟩) (by simp <;> omega) (.int .i64 0)).setCell (p := ⟨w.heap.size + 1 + 1 + 1, 1 + k * 3 + 1, none⟩) (by simp <;> omega) (.int .i64 (min n1 n2))).setCell (p := ⟨w.heap.size + 1 + 1 + 1, 1 + k * 3 + 2, none⟩) (by simp <;> omega) (.int .i64 (max x1 x2)))
     generalize (((w2.setCell ⟨w.heap.size + 1 + 1 + 1, 1 + k * 3, none⟩ (.int .i64 0)).setCell ⟨w.heap.size + 1 + 1 + 1, 1 + k * 3 + 1, none⟩ (.int .i64 (min n1 n2))).setCell ⟨w.heap.size + 1 + 1 + 1, 1 + k * 3 + 2, none⟩ (.int .i64 (max x1 x2))) = W3 at *
     obtain ⟨⟨z0, z1, z2, z3, z4, z5, z6, z7, z8, z9⟩, ⟨g0, g1, g2, g3, g4, g5, g6, g7, g8, g9⟩⟩ := Box.ten HBz3.out
     go_wp2_with fail
     have HBf := kp (Box.ten_set (.int .i64 0) (.int .i64 0) (.int .i64 0) (.int .i64 0) (.int .i64 0) (.int .i64 0) (.int .i64 0) (.int .i64 0) (.int .i64 0) (.int .i64 0) HBz3.out)
     have Hbf := kp (Below.ten_set (.int .i64 0) (.int .i64 0) (.int .i64 0) (.int .i64 0) (.int .i64 0) (.int .i64 0) (.int .i64 0) (.int .i64 0) (.int .i64 0) (.int .i64 0) Hbe3.out (show w.heap.size ≤ w.heap.size + 1 + 1 by omega))
     clear z0 z1 z2 z3 z4 z5 z6 z7 z8 z9
     generalize ((((((((((W3.setCell { block := w.heap.size + 1 + 1, off := 0 } (Value.int IntKind.i64 0)).setCell { block := w.heap.size + 1 + 1, off := 1 } (Value.int IntKind.i64 0)).setCell { block := w.heap.size + 1 + 1, off := 2 } (Value.int IntKind.i64 0)).setCell { block := w.heap.size + 1 + 1, off := 3 } (Value.int IntKind.i64 0)).setCell { block := w.heap.size + 1 + 1, off := 4 } (Value.int IntKind.i64 0)).setCell { block := w.heap.size + 1 + 1, off := 5 } (Value.int IntKind.i64 0)).setCell { block := w.heap.size + 1 + 1, off := 6 } (Value.int IntKind.i64 0)).setCell { block := w.heap.size + 1 + 1, off := 7 } (Value.int IntKind.i64 0)).setCell { block := w.heap.size + 1 + 1, off := 8 } (Value.int IntKind.i64 0)).setCell { block := w.heap.size + 1 + 1, off := 9 } (Value.int IntKind.i64 0)) = WF at *
     obtain ⟨⟨z0, z1, z2, z3, z4, z5, z6, z7, z8, z9⟩, _⟩ := Box.ten HBf.out
     refine bodyPost_ret (v := .tuple #[.agg (agC ((none : Option Ag).getD agZero)), .bool (none : Option Ag).isSome]) (by simp [results, Tryz.results53, go_sem, agZero, z0, z1, z2, z3, z4, z5, z6, z7, z8, z9]) rfl (HYes.out none _ Hno.out Hbf.out)
   ·obtain rfl : k = 3 := by omega
    obtain ⟨⟨c0, c1, c2, c3, c4, c5, c6, c7, c8, c9⟩, _⟩ := Box.ten HBj.out
    obtain ⟨⟨z0, z1, z2, z3, z4, z5, z6, z7, z8, z9⟩, ⟨f0, f1, f2, f3, f4, f5, f6, f7, f8, f9⟩⟩ := Box.ten HBz.out
    go_wp2_with fail
    have Hj := kp (show joinA a b = some (joinTo a b 3) by unfold joinA; rw [if_neg h0, if_neg h1, if_pos (sums_fit hf Hfs.out), joinTo_3])
    have HBf := kp (Box.ten_set (.int .i64 (joinTo a b 3).c) (.int .i64 (joinTo a b 3).s0) (.int .i64 (joinTo a b 3).n0) (.int .i64 (joinTo a b 3).x0) (.int .i64 (joinTo a b 3).s1) (.int .i64 (joinTo a b 3).n1) (.int .i64 (joinTo a b 3).x1) (.int .i64 (joinTo a b 3).s2) (.int .i64 (joinTo a b 3).n2) (.int .i64 (joinTo a b 3).x2) HBz.out)
    have Hbf := kp (Below.ten_set (.int .i64 (joinTo a b 3).c) (.int .i64 (joinTo a b 3).s0) (.int .i64 (joinTo a b 3).n0) (.int .i64 (joinTo a b 3).x0) (.int .i64 (joinTo a b 3).s1) (.int .i64 (joinTo a b 3).n1) (.int .i64 (joinTo a b 3).x1) (.int .i64 (joinTo a b 3).s2) (.int .i64 (joinTo a b 3).n2) (.int .i64 (joinTo a b 3).x2) Hbe.out (show w.heap.size ≤ w.heap.size + 1 + 1 by omega))
    clear z0 z1 z2 z3 z4 z5 z6 z7 z8 z9
    generalize ((((((((((wr.setCell { block := w.heap.size + 1 + 1, off := 0 } (Value.int IntKind.i64 (joinTo a b 3).c)).setCell { block := w.heap.size + 1 + 1, off := 1 } (Value.int IntKind.i64 (joinTo a b 3).s0)).setCell { block := w.heap.size + 1 + 1, off := 2 } (Value.int IntKind.i64 (joinTo a b 3).n0)).setCell { block := w.heap.size + 1 + 1, off := 3 } (Value.int IntKind.i64 (joinTo a b 3).x0)).setCell { block := w.heap.size + 1 + 1, off := 4 } (Value.int IntKind.i64 (joinTo a b 3).s1)).setCell { block := w.heap.size + 1 + 1, off := 5 } (Value.int IntKind.i64 (joinTo a b 3).n1)).setCell { block := w.heap.size + 1 + 1, off := 6 } (Value.int IntKind.i64 (joinTo a b 3).x1)).setCell { block := w.heap.size + 1 + 1, off := 7 } (Value.int IntKind.i64 (joinTo a b 3).s2)).setCell { block := w.heap.size + 1 + 1, off := 8 } (Value.int IntKind.i64 (joinTo a b 3).n2)).setCell { block := w.heap.size + 1 + 1, off := 9 } (Value.int IntKind.i64 (joinTo a b 3).x2)) = WF at *
    obtain ⟨⟨z0, z1, z2, z3, z4, z5, z6, z7, z8, z9⟩, _⟩ := Box.ten HBf.out
    refine bodyPost_ret (v := .tuple #[.agg (agC (joinTo a b 3)), .bool true]) (by simp [results, Tryz.results53, go_sem, z0, z1, z2, z3, z4, z5, z6, z7, z8, z9]) rfl (HYes.out (some (joinTo a b 3)) _ Hj.out Hbf.out)
 ·rw [cap_no hf, fits_no hf]
  have Hj := kp (show joinA a b = none by unfold joinA; rw [if_neg h0, if_neg h1, if_neg (fun h => hf h.1)])
  go_wp2_with fail
  refine bodyPost_ret (v := .tuple #[.agg (agC ((none : Option Ag).getD agZero)), .bool (none : Option Ag).isSome]) (by simp [results, Tryz.results53, go_sem, agZero]) rfl (HYes.out (none) _ Hj.out ((Hb2.out.alloc (by simp; omega) _).alloc (by simp; omega) _))
end Go.Proofs.YthmbgbmcdbdecaaGreat.Tc
