/- Parts of a proof: Layer 27: rows taken in (ingest.Rows). Layer 15, 16: which member stands above which. Layer 16: a dimension's sizes, and its members lifted. Layer 16: all members of a tier, lifted. Layer 17: a schema's shape. -/
import Derived.Test.YthmbgbmcdbdecaaGreatG03
import Derived.Test.YthmbgbmcdbdecaaGreatG05
import Derived.Test.YthmbgbmcdbdecaaGreatG10
import Derived.Test.YthmbgbmcdbdecaaGreatG17
import Derived.Test.YthmbgbmcdbdecaaGreatG19
import Derived.OrdersHeld
import Derived.StillTail
import Derived.Lib.Strings
import Derived.Maps.Own
import Derived.Maps.OwnOps
import Derived.Maps.OwnSet
import Derived.Maps.Views
import Derived.RangeFuncNested
import Derived.RangeFuncBound
import Derived.RangeFuncCalls
import Derived.RangeFuncLeaves
import Derived.RangeFuncBox
import Derived.Shelf.Abstract
import Derived.Shelf.RegionOpen
import Derived.OwnWalkIn
import Derived.TacticsInMore
import Derived.LoopNIn
import Derived.LoopIn
namespace Go.Proofs.YthmbgbmcdbdecaaGreat.Tc
open Go.RowKit Base
set_option linter.unusedVariables false
set_option linter.unusedSimpArgs false
theorem wf_fit {a : Int} (h : (Lit.int .i64 a).wf = true) : fit a := by
 have := bounds_i64 h
 unfold fit
 exact ⟨by omega, by omega⟩
def SortedP (l : List (List Nat × Ag)) : Prop := l.Pairwise fun a b => cmpN a.1 b.1 ≤ 0
theorem sortedP_of {l : List Fa} (h : SortedF l) : SortedP (l.map pl) := List.pairwise_map.2 h
def RowsTo (s : Sch) (rows : List Rw) (ps : List (List Nat × Ag)) : Prop := ∃ l : List Fa, FactsTo s rows rows.length l ∧ pls l = ps
theorem pv_fit {l : List Int} (h : ∀ x ∈ l, fit x) (i : Nat) : fit (pv l i) := by
 unfold pv
 rcases hx : l[i]? with _ | x
 ·unfold fit; simp
 ·exact h x (List.mem_of_getElem? hx)
theorem agOf_fit {l : List Int} (h : ∀ x ∈ l, fit x) : FitAg (agOf l) := by
 have h1 : fit 1 := by unfold fit; omega
 unfold agOf agTo
 rw [List.take_of_length_le (Nat.le_refl _)]
 exact ⟨h1, pv_fit h 0, pv_fit h 0, pv_fit h 0, pv_fit h 1, pv_fit h 1, pv_fit h 1, pv_fit h 2, pv_fit h 2, pv_fit h 2⟩
def FoldB (B : Nat) (ps : List (List Nat × Ag)) (e : Ending) (w' : World) : Prop :=
 match foldP [] ps with
 | none => e = .returned (.tuple #[.slice none 0 0, .int .i64 12])
 | some qs => ∃ (v : Value) (l : List Fa), e = .returned (.tuple #[v, .int .i64 0]) ∧ l.map pl = qs ∧ FasOwn w' B v l ∧ KeysFrom B l
theorem FoldRet.at_ {ps : List (List Nat × Ag)} {w w' : World} {e : Ending} {B : Nat} (h : FoldRet ps w e w') (hB : B ≤ w.heap.size) : FoldB B ps e w' ∧ Below w.heap.size w w' := by
 unfold FoldRet at h
 unfold FoldB
 cases hp : foldP [] ps with
 | none => simp only [hp] at h ⊢; exact h
 | some qs =>
  simp only [hp] at h ⊢
  obtain ⟨v, l, h1, h2, h3, h4, h5⟩ := h
  exact ⟨⟨v, l, h1, h2, ⟨own_base h3.1 hB, h3.2⟩, fun f hf b off e hne => Nat.le_trans hB (h4 f hf b off e hne)⟩, h5⟩
theorem FoldRet.form {ps : List (List Nat × Ag)} {w w' : World} {e : Ending} (h : FoldRet ps w e w') : ∃ (v : Value) (n : Int), e = .returned (.tuple #[v, .int .i64 n]) := by
 unfold FoldRet at h
 cases hp : foldP [] ps with
 | none => simp only [hp] at h; exact ⟨_, _, h.1⟩
 | some qs =>
  simp only [hp] at h
  obtain ⟨v, l, h1, h2, h3, h4, h5⟩ := h
  exact ⟨_, _, h1⟩
def IngRet (s : Sch) (rows : List Rw) (w : World) (e : Ending) (w' : World) : Prop := ∃ ps qs, RowsTo s rows ps ∧ qs.Perm ps ∧ SortedP qs ∧ FoldB w.heap.size qs e w' ∧ Below w.heap.size w w'
set_option maxRecDepth 100000 in
set_option maxHeartbeats 4000000 in
theorem ingest_any (s : Sch) (A : Option Addr) (rows : List Rw) (c : Nat) (w : World) (h : SchAt w w.heap.size s) (hr : RwsAt w w.heap.size A rows) (ho : BatchOk s rows) (hn : rows.length ≤ 64) :
 Calls Tryz.prog 7 #[.agg (schC s), .slice A rows.length c] w (IngRet s rows w) := by
 have HYes := kp (show ∀ ps qs e w', RowsTo s rows ps → qs.Perm ps → SortedP qs → FoldB w.heap.size qs e w' → Below w.heap.size w w' → IngRet s rows w e w' from fun ps qs e w' h1 h2 h3 h4 h5 => ⟨ps, qs, h1, h2, h3, h4, h5⟩)
 have hb0 := (Below.refl w.heap.size w).alloc (Nat.le_refl _) (.cells (schC s) 25)
 have Hb0 := kp hb0
 have HB := kp (Box.new w 25 (schC s))
 have HF := kp (batchfacts_ok s A rows c (w.alloc (.cells (schC s) 25)) ((h.below hb0).more hb0.size) ((hr.below hb0).more hb0.size) ho)
 have HK := kp ksort_any
 have HFd := kp fold_any
 have Hfit := kp (show ∀ l : List Fa, FactsTo s rows rows.length l → (∀ f ∈ l, FitAg f.ag) ∧ ∀ f ∈ l, f.keys.length ≤ 1000000 from fun l hl => by
  have key : ∀ f ∈ l, ∃ r ∈ rows, RowKeys s r f.keys ∧ f.ag = agOf r.vals := fun f hf => by
   obtain ⟨i, hi, rfl⟩ := List.getElem_of_mem hf
   have hi2 : i < rows.length := by rw [← hl.1]; exact hi
   exact ⟨rows[i], List.getElem_mem hi2, hl.2 i _ _ (List.getElem?_eq_getElem hi2) (List.getElem?_eq_getElem hi)⟩
  refine ⟨fun f hf => ?_, fun f hf => ?_⟩
  ·obtain ⟨r, hr', h1, h2⟩ := key f hf
   rw [h2]
   exact agOf_fit (fun x hx => wf_fit ((hr.each r hr').wf x hx))
  ·obtain ⟨r, hr', h1, h2⟩ := key f hf
   have := h1.n
   have := ho.sch.n2
   omega)
 clear h hr ho hb0
 generalize hQ : IngRet s rows w = Q at *
 clear hQ
 obtain ⟨m, hm⟩ : ∃ m, rows.length = m := ⟨_, rfl⟩
 have Hm := kp hm
 rw [hm] at HF hn ⊢
 clear hm
 unfold schC at HB Hb0 HF ⊢
 obtain ⟨z0, z1, _, _⟩ := HB.out.two
 go_enter Tryz.func7, Tryz.ntmps7
 go_wp2_with fail
 refine HF.out.mono ?_
 clear z0 z1 HF
 generalize w.alloc (.cells #[.slice s.A s.dims.length s.c, .slice s.Am s.meas.length s.cm] 25) = W0 at *
 rintro e w1 ⟨A1, c1, l1, rfl, hat, hto, ⟨hc1, hc2⟩, hb1⟩
 obtain ⟨hfa, hka⟩ := Hfit.out l1 hto
 have hl1 : l1.length ≤ 64 := by have := hto.1; have := Hm.out; omega
 have HKk := kp (HK.out A1 l1 c1 w1 hl1 hc1 hc2 hka hat)
 have Hto := kp hto
 have Hb1 := kp (Hb0.out.trans (hb1.mono Hb0.out.size))
 have Hfa := kp hfa
 have Hka := kp hka
 clear hat hto hb1 hfa hka
 obtain ⟨n1, hn1⟩ : ∃ n1, l1.length = n1 := ⟨_, rfl⟩
 rw [hn1] at HKk hc1 hl1 ⊢
 clear hn1
 go_wp2_with fail
 refine HKk.out.mono ?_
 rintro e w2 ⟨v2, l2, rfl, hp2, hs2, hown2, hkf2, hb2⟩
 obtain ⟨A2, c2, rfl⟩ := hown2.form
 have hmem : ∀ f ∈ l2, ∃ f' ∈ l1, f'.keys = f.keys ∧ f'.ag = f.ag := fun f hf => by
  have h3 := hp2.mem_iff.1 (List.mem_map_of_mem (f := pl) hf)
  obtain ⟨f', hf', e⟩ := List.mem_map.1 h3
  exact ⟨f', hf', congrArg Prod.fst e, congrArg Prod.snd e⟩
 have hlen2 : l2.length ≤ 64 := by
  have := hp2.length_eq
  unfold pls at this
  rw [List.length_map, List.length_map] at this
  have h1 := Hto.out.1
  have h2 := Hm.out
  omega
 have HFk := kp (HFd.out A2 l2 c2 w2 (by omega) (fun f hf => by obtain ⟨f', hf', e1, e2⟩ := hmem f hf; rw [← e1]; exact Hka.out f' hf') (fun f hf => by obtain ⟨f', hf', e1, e2⟩ := hmem f hf; rw [← e2]; exact Hfa.out f' hf') hown2.fas)
 have Hb2 := kp (Hb1.out.trans (hb2.mono Hb1.out.size))
 have Hfin := kp (fun e w3 (h : FoldRet (l2.map pl) w2 e w3) => HYes.out (pls l1) (l2.map pl) e w3 ⟨l1, Hto.out, rfl⟩ hp2 (sortedP_of hs2) (h.at_ Hb2.out.size).1 (Hb2.out.trans ((h.at_ Hb2.out.size).2.mono Hb2.out.size)))
 clear hp2 hs2 hown2 hkf2 hb2 hmem hlen2
 obtain ⟨n2, hn2⟩ : ∃ n2, l2.length = n2 := ⟨_, rfl⟩
 rw [hn2] at HFk ⊢
 clear hn2
 go_wp2_with fail
 refine HFk.out.mono ?_
 intro e w3 h3
 have H3 := kp (Hfin.out e w3 h3)
 obtain ⟨v3, n3, rfl⟩ := h3.form
 clear h3
 go_wp2_with fail
 exact H3.out
def upI (t : Tier) (i : Nat) : Nat := ((t.up[i]?).getD 0).toNat
def liftN (d : Dim) : Nat → Nat → Nat
 | 0, i => i
 | k + 1, i => match d.tiers[k]? with
  | some t => upI t (liftN d k i)
  | none => 0
set_option maxHeartbeats 1000000 in
theorem over_any (t : Tier) (i : Nat) (w : World) (h : TierAt w w.heap.size t) (hi : i < t.up.length) (h0 : 0 ≤ t.up[i]) : Calls Tryz.prog 118 #[.agg (tierC t), .int .i64 i] w fun e w' => e = .returned (.int .i64 (upI t i)) ∧ Below w.heap.size w w' := by
 have hb0 := (Below.refl w.heap.size w).alloc (Nat.le_refl _) (.cells (tierC t) 63)
 have Hb0 := kp hb0
 have h0' := (h.below hb0).more hb0.size
 obtain ⟨b, off, hA, hb, c0⟩ := Row.at_ h0'.up (k := i) (by rw [List.length_map]; exact hi)
 rw [List.getElem_map] at c0
 have HV := kp (show t.up[i] = (upI t i : Nat) by unfold upI; rw [List.getElem?_eq_getElem hi]; exact (Int.toNat_of_nonneg h0).symm)
 rw [HV.out] at c0
 clear HV h0 hb0
 generalize upI t i = V at *
 have hn := h.nu
 unfold maxLen at hn
 clear h h0'
 unfold tierC at *
 rw [hA] at c0 Hb0 ⊢
 generalize hN : t.up.length = n at *
 have hi1 : ¬ (i : Int) < 0 := by omega
 have hi1d : decide ((i : Int) < 0) = false := decide_eq_false hi1
 have hi2 : ¬ (n : Int) ≤ (i : Int) := by omega
 have hi2d : decide ((n : Int) ≤ (i : Int)) = false := decide_eq_false hi2
 have hi3 : (0 : Int) ≤ (i : Int) := by omega
 have hi4 : (i : Int) < (n : Int) := by omega
 clear hA hN
 go_enter Tryz.func118, Tryz.ntmps118
 go_wp2_with fail
 go_ret
 exact ⟨rfl, Hb0.out⟩
set_option maxHeartbeats 1000000 in
theorem has_yes (d : Dim) (k : Nat) (w : World) (hn : d.tiers.length ≤ maxLen) (hk : k < d.tiers.length) : Calls Tryz.prog 93 #[.agg (dimC d), .int .i64 k] w fun e w' => e = .returned (.bool true) ∧ Below w.heap.size w w' := by
 have hb0 := (Below.refl w.heap.size w).alloc (Nat.le_refl _) (.cells (dimC d) 61)
 have Hb0 := kp hb0
 unfold maxLen at hn
 unfold dimC at *
 have hi1 : (0 : Int) ≤ (k : Int) := by omega
 have hi1d : decide ((0 : Int) ≤ (k : Int)) = true := decide_eq_true hi1
 have hi2 : (k : Int) < (d.tiers.length : Int) := by omega
 have hi2d : decide ((k : Int) < (d.tiers.length : Int)) = true := decide_eq_true hi2
 clear hb0
 generalize d.tiers.length = n at *
 go_enter Tryz.func93, Tryz.ntmps93
 go_wp2_with fail
 go_ret
 exact ⟨rfl, Hb0.out⟩
theorem up_ok {d : Dim} (h : DimOk d) {k : Nat} (hk : k + 1 < d.tiers.length) : (d.tiers[k]'(by omega)).up.length = (d.tiers[k]'(by omega)).terms.length ∧ ∀ n ∈ (d.tiers[k]'(by omega)).up, 0 ≤ n ∧ n < ((d.tiers[k + 1]'hk).terms.length : Int) := by
 have h1 := (h.tiers k (by omega)).tree
 have h2 := (h.tiers (k + 1) hk).n1
 have e : aboveI d k = ((d.tiers[k + 1]'hk).terms.length : Nat) := by unfold aboveI; rw [List.getElem?_eq_getElem hk]
 rw [e] at h1
 exact ⟨h1.len (by omega), h1.up⟩
theorem lift_lt {d : Dim} (h : DimOk d) : ∀ {k : Nat} (hk : k < d.tiers.length) {i : Nat}, i < (d.tiers[0]'(by omega)).terms.length → liftN d k i < (d.tiers[k]'hk).terms.length
 | 0, hk, i, hi => hi
 | k + 1, hk, i, hi => by
  have h1 := lift_lt h (k := k) (by omega) hi
  obtain ⟨e, hu⟩ := up_ok h hk
  rw [liftN, List.getElem?_eq_getElem (by omega : k < d.tiers.length)]
  dsimp only
  unfold upI
  rw [List.getElem?_eq_getElem (by omega : liftN d k i < (d.tiers[k]'(by omega)).up.length)]
  have := hu _ (List.getElem_mem (by omega : liftN d k i < (d.tiers[k]'(by omega)).up.length))
  simp only [Option.getD_some]
  omega
theorem lift_next {d : Dim} (h : DimOk d) {k : Nat} (hk : k + 1 < d.tiers.length) {i : Nat} (hi : i < (d.tiers[0]'(by omega)).terms.length) :
 ∃ hu : liftN d k i < (d.tiers[k]'(by omega)).up.length, 0 ≤ (d.tiers[k]'(by omega)).up[liftN d k i] ∧ liftN d (k + 1) i = upI (d.tiers[k]'(by omega)) (liftN d k i) := by
 have h1 := lift_lt h (k := k) (by omega) hi
 obtain ⟨e, hu⟩ := up_ok h hk
 refine ⟨by omega, (hu _ (List.getElem_mem _)).1, ?_⟩
 rw [liftN, List.getElem?_eq_getElem (by omega : k < d.tiers.length)]
set_option maxRecDepth 100000 in
set_option maxHeartbeats 4000000 in
theorem lift_any (d : Dim) (to i : Nat) (w : World) (h : DimAt w w.heap.size d) (ho : DimOk d) (hto : to < d.tiers.length) (hi : i < (d.tiers[0]'(by omega)).terms.length) :
 Calls Tryz.prog 94 #[.agg (dimC d), .int .i64 0, .int .i64 to, .int .i64 i] w fun e w' => e = .returned (.int .i64 (liftN d to i)) ∧ Below w.heap.size w w' := by
 have hn := h.n
 have HH0 := kp (fun w => has_yes d 0 w hn (by omega))
 have HHt := kp (fun w => has_yes d to w hn hto)
 have HO := kp over_any
 have hb0 := (Below.refl w.heap.size w).alloc (Nat.le_refl _) (.cells (dimC d) 61)
 have HB := kp (Box.new w 61 (dimC d))
 have H0 := kp ((h.below hb0).more hb0.size)
 have Hb0 := kp hb0
 have Hh := kp h
 have Ho := kp ho
 have Hto := kp hto
 have Hi := kp hi
 have HLx := kp (fun (k : Nat) (hkt : k + 1 < d.tiers.length) => lift_next ho hkt hi)
 have hn4 := ho.n2
 clear h ho hb0 hi hn
 generalize hQ : (fun (e : Ending) w' => e = .returned (.int .i64 (liftN d to i)) ∧ Below w.heap.size w w') = Q
 have HQ := kp (show ∀ w', Below w.heap.size w w' → Q (.returned (.int .i64 (liftN d to i))) w' from fun w' hb => by rw [← hQ]; exact ⟨rfl, hb⟩)
 clear hQ
 unfold dimC at HH0 HHt HB H0 Hb0 ⊢
 obtain ⟨z0, z1, _, _⟩ := HB.out.two
 go_enter Tryz.func94, Tryz.ntmps94
 go_wp2_with fail
 refine (HH0.out _).mono ?_
 clear z0 z1
 generalize w.alloc (.cells #[.string d.name, .slice d.A d.tiers.length d.c] 61) = W0 at *
 rintro e w1 ⟨rfl, hb1⟩
 have Hb1 := kp (Hb0.out.trans (hb1.mono Hb0.out.size))
 have HB1 := kp (HB.out.under hb1)
 have H1 := kp ((H0.out.below hb1).more hb1.size)
 clear hb1
 obtain ⟨z0, z1, _, _⟩ := HB1.out.two
 go_wp2_with fail
 refine (HHt.out _).mono ?_
 rintro e w2 ⟨rfl, hb2⟩
 have Hb2 := kp (Hb1.out.trans (hb2.mono Hb1.out.size))
 have HB2 := kp (HB1.out.under hb2)
 have H2 := kp ((H1.out.below hb2).more hb2.size)
 clear hb2 z0 z1
 obtain ⟨z0, z1, _, _⟩ := HB2.out.two
 obtain ⟨b, off, hA, hb, c0, c1, c2⟩ := H2.out.tier 0 (by omega)
 rw [Nat.zero_mul, Nat.add_zero] at c0 c1 c2
 rw [hA] at z1
 have Hi2 := kp hA
 have hi1 : ¬ (to : Int) < 0 := by omega
 have hi1d : decide ((to : Int) < 0) = false := decide_eq_false hi1
 have hi2 : ¬ (i : Int) < 0 := by omega
 have hi2d : decide ((i : Int) < 0) = false := decide_eq_false hi2
 have hi3 := Hi.out
 have hi4 : ¬ (((d.tiers[0]'(by omega)).terms.length : Nat) : Int) ≤ (i : Int) := by omega
 have hi4d : decide ((((d.tiers[0]'(by omega)).terms.length : Nat) : Int) ≤ (i : Int)) = false := decide_eq_false hi4
 have hi5 : (0 : Int) < (d.tiers.length : Int) := by omega
 have hi4n : decide ((d.tiers[0]'(by omega)).terms.length ≤ i) = false := decide_eq_false (by omega)
 generalize (d.tiers[0]'(by omega)).terms.length = n0 at *
 generalize (d.tiers[0]'(by omega)).At = A0 at *
 generalize (d.tiers[0]'(by omega)).ct = k0 at *
 go_wp2_with fail
 go_loopw [3, 9] (fun v3 v9 wr => ∃ k : Nat, k ≤ to ∧ v9 = .int .i64 k ∧ v3 = .int .i64 (liftN d k i) ∧ Box wr w.heap.size 61 #[.string d.name, .slice d.A d.tiers.length d.c] ∧ Below w.heap.size w wr) (fun _ v9 _ => to - (intOf v9).toNat)
 case atStart => exact ⟨0, Nat.zero_le _, rfl, rfl, by have := HB2.out; rw [hA] at this ⊢; exact this, Hb2.out⟩
 case round =>
  clear z0 z1 c0 c1 c2 hi1 hi1d hi2 hi2d hi4 hi4d hi5 hi3 hA hb hi4n
  obtain ⟨k, hk, rfl, rfl, hbx, hbe⟩ := hrel
  have Hbx := kp hbx
  have Hbe := kp hbe
  clear hbx hbe
  have hp0 : (0 : Int) ≤ ((liftN d k i : Nat) : Int) := by omega
  have hp0d : decide ((0 : Int) ≤ ((liftN d k i : Nat) : Int)) = true := decide_eq_true hp0
  by_cases hlt : k < to
  ·have hk1 : (k : Int) < (to : Int) := by omega
   have hkt : k + 1 < d.tiers.length := by have := Hto.out; omega
   have hkk : k < d.tiers.length := Nat.lt_of_succ_lt hkt
   obtain ⟨hu, hu0, hnx⟩ := HLx.out k hkt
   have hd := (Hh.out.below Hbe.out).more Hbe.out.size
   obtain ⟨b, off, hA, hb, c0, c1, c2⟩ := hd.tier k hkk
   have HOk := kp (HO.out (d.tiers[k]'hkk) (liftN d k i) wr (hd.tiers _ (List.getElem_mem hkk)) hu hu0)
   unfold tierC at HOk
   rw [← hnx] at HOk
   have hi1 : (k : Int) < (d.tiers.length : Int) := by omega
   have hi2 : (0 : Int) ≤ (k : Int) := by omega
   obtain ⟨z0, z1, _, _⟩ := Hbx.out.two
   rw [hA] at z1
   clear hu hu0 hnx hd hA
   generalize liftN d k i = p at *
   go_wp2_with fail
   refine HOk.out.mono ?_
   rintro e w3 ⟨rfl, hb3⟩
   have Hb3 := kp (Hbe.out.trans (hb3.mono Hbe.out.size))
   have HB3 := kp (Hbx.out.under hb3)
   clear hb3 z0 z1 c0 c1 c2
   go_wp2_with fail
   exact ⟨⟨k + 1, by omega, by go_num, rfl, HB3.out, Hb3.out⟩, by simp [intOf]; omega⟩
  ·obtain rfl : k = to := by omega
   have hk1 : ¬ (k : Int) < (k : Int) := by omega
   have hp1 : ¬ ((liftN d k i : Nat) : Int) < -1 := by omega
   have Hf := kp (HQ.out _ Hbe.out)
   generalize liftN d k i = p at *
   go_wp2_with fail
   exact Hf.out
def Nums (l : List Nat) (w : World) (e : Ending) (w' : World) : Prop := ∃ v, e = .returned v ∧ w'.ownsRow w.heap.size 3 1 v l.length (natV l) ∧ Below w.heap.size w w'
def sizesN (d : Dim) : List Nat := d.tiers.map fun t => t.terms.length
set_option maxRecDepth 100000 in
set_option maxHeartbeats 4000000 in
theorem sizes_any (d : Dim) (w : World) (h : DimAt w w.heap.size d) (hn4 : d.tiers.length ≤ 4) : Calls Tryz.prog 59 #[.agg (dimC d)] w (Nums (sizesN d) w) := by
 obtain ⟨i0, ti0, tz0, tz1, tz2⟩ := info_parts info_int
 have hb0 := (Below.refl w.heap.size w).alloc (Nat.le_refl _) (.cells (dimC d) 61)
 have HB := kp (Box.new w 61 (dimC d))
 have Hb0 := kp hb0
 have Hh := kp h
 have hlen : (sizesN d).length = d.tiers.length := by unfold sizesN; simp
 have HQ := kp (show ∀ v w', w'.ownsRow w.heap.size 3 1 v d.tiers.length (natV (sizesN d)) → Below w.heap.size w w' → Nums (sizesN d) w (.returned v) w' from fun v w' h1 hb => ⟨v, rfl, by rw [hlen]; exact h1, hb⟩)
 clear h hb0 hlen
 generalize hQ : Nums (sizesN d) w = Q at *
 clear hQ
 unfold dimC at HB Hb0 ⊢
 obtain ⟨z0, z1, _, _⟩ := HB.out.two
 obtain ⟨m, hm⟩ : ∃ m, d.tiers.length = m := ⟨_, rfl⟩
 have Hm := kp hm
 rw [hm] at z1 HQ hn4 HB Hb0 ⊢
 clear hm
 go_enter Tryz.func59, Tryz.ntmps59
 go_wp2_with fail
 clear z0 z1
 generalize w.alloc (.cells #[.string d.name, .slice d.A m d.c] 61) = W0 at *
 go_loopw [3, 9] (fun v3 v9 wr => ∃ (k : Nat) (A : Option Addr) (c : Nat), k ≤ m ∧ v9 = .int .i64 k ∧ v3 = .slice A k c ∧ wr.ownsRow w.heap.size 3 1 (.slice A k c) k (natV ((sizesN d).take k)) ∧ Below w.heap.size w wr) (fun _ v9 _ => m - (intOf v9).toNat)
 case atStart => exact ⟨0, none, 0, Nat.zero_le _, rfl, rfl, own_nil _ _ _ _, Hb0.out⟩
 case round =>
  obtain ⟨k, A, c, hk, rfl, rfl, hown, hbe⟩ := hrel
  have Hown := kp hown
  have Hbe := kp hbe
  clear hown hbe
  by_cases hlt : k < m
  ·have hkt : k < d.tiers.length := by rw [Hm.out]; exact hlt
   obtain ⟨b, off, hA, hb, c0, c1, c2⟩ := ((Hh.out.below Hbe.out).more Hbe.out.size).tier k hkt
   have hbG := (Below.refl wr.heap.size wr).alloc (Nat.le_refl _) (.cells (tierC (d.tiers[k]'hkt)) 63)
   have Hb2 := kp (Hbe.out.trans (hbG.mono Hbe.out.size))
   have Hown1 := kp (own_below Hown.out hbG)
   have Hs2 := kp (Nat.le_trans Hbe.out.size hbG.size)
   have Htk := kp (show natV ((sizesN d).take (k + 1)) = natV ((sizesN d).take k) ++ [.int .i64 (((d.tiers[k]'hkt).terms.length : Nat) : Int)] by
    rw [List.take_succ_eq_append_getElem (by unfold sizesN; rw [List.length_map]; exact hkt), natV_snoc]
    unfold sizesN
    rw [List.getElem_map])
   have HBt := kp (Box.new wr 63 (tierC (d.tiers[k]'hkt)))
   unfold tierC at hbG Hb2 Hown1 Hs2 HBt
   have hi0 : (0 : Int) ≤ (k : Int) := by omega
   have hi1 : (k : Int) < (m : Int) := by omega
   have hk1 : k < 1048576 * 64 := by omega
   rw [hA]
   clear hbG hA
   generalize (d.tiers[k]'hkt).terms.length = q at *
   generalize (d.tiers[k]'hkt).name = tn at *
   generalize (d.tiers[k]'hkt).At = tA at *
   generalize (d.tiers[k]'hkt).ct = tc at *
   generalize (d.tiers[k]'hkt).Au = uA at *
   generalize (d.tiers[k]'hkt).up.length = ul at *
   generalize (d.tiers[k]'hkt).cu = uc at *
   go_upto_region 5 with fail
   clear c0 c1 c2
   have hz := HBt.out
   generalize wr.alloc (.cells #[.string tn, .slice tA q tc, .slice uA ul uc] 63) = W2 at *
   generalize wr.heap.size = gT at *
   have y1 : W2.cell? ⟨gT, 1, none⟩ = some (.slice tA q tc) := hz.cell 1
   clear hz
   go_wp2_with (at_builtin; refine wpList_append1 rfl (.tmp 13) (.tmp 17) 41 rfl w.heap.size 3 i0 (.int .i64 0) 8 Tryz.underlying41 ti0 tz0 tz1 tz2 rfl W2 (.int .i64 (q : Int)) rfl (.slice A k c) k (natV ((sizesN d).take k)) rfl Hown1.out rfl hk1 (by decide) Hs2.out ?_; intro v5 w5 hown5 happ5; obtain ⟨A5, c5, h5⟩ := own_form hown5; subst h5; have Hown5 := kp hown5; have Hb5 := kp (happ5.below Hb2.out Hown1.out (Nat.le_refl _) Hs2.out); clear hown5 happ5)
   exact ⟨⟨k + 1, A5, c5, by omega, by go_num, rfl, by rw [Htk.out]; exact Hown5.out, Hb5.out⟩, by simp [intOf]; omega⟩
  ·obtain rfl : k = m := by omega
   have Hf := kp (HQ.out _ _ (by have := Hown.out; rw [List.take_of_length_le (by unfold sizesN; rw [List.length_map, Hm.out]; exact Nat.le_refl _)] at this; exact this) Hbe.out)
   go_wp2_with fail
   exact Hf.out
def mapN (d : Dim) (to : Nat) : List Nat := (List.range (fin d).length).map (liftN d to)
theorem fin_at {d : Dim} (h : 0 < d.tiers.length) : fin d = (d.tiers[0]'h).terms := by
 obtain ⟨n, A, ts, c⟩ := d
 rcases ts with _ | ⟨t, ts⟩
 ·simp at h
 ·rfl
set_option maxRecDepth 100000 in
set_option maxHeartbeats 4000000 in
theorem map_any (d : Dim) (to : Nat) (w : World) (h : DimAt w w.heap.size d) (ho : DimOk d) (hto : to < d.tiers.length) : Calls Tryz.prog 63 #[.agg (dimC d), .int .i64 0, .int .i64 to] w (Nums (mapN d to) w) := by
 obtain ⟨i0, ti0, tz0, tz1, tz2⟩ := info_parts info_int
 have hn := h.n
 have hp : 0 < d.tiers.length := by omega
 have HH0 := kp (fun w => has_yes d 0 w hn hp)
 have HHt := kp (fun w => has_yes d to w hn hto)
 have hfin := fin_at hp
 have HL := kp (fun i w h (hi : i < (fin d).length) => lift_any d to i w h ho hto (by rw [hfin] at hi; exact hi))
 have hb0 := (Below.refl w.heap.size w).alloc (Nat.le_refl _) (.cells (dimC d) 61)
 have HB := kp (Box.new w 61 (dimC d))
 have Hb0 := kp hb0
 have Hh := kp h
 have Hto := kp hto
 have h200 : (fin d).length ≤ 200 := by rw [hfin]; exact (ho.tiers 0 hp).n2
 have hn4 := ho.n2
 have hlen : (mapN d to).length = (fin d).length := by unfold mapN; simp
 have HQ := kp (show ∀ v w', w'.ownsRow w.heap.size 3 1 v (fin d).length (natV (mapN d to)) → Below w.heap.size w w' → Nums (mapN d to) w (.returned v) w' from fun v w' h1 hb => ⟨v, rfl, by rw [hlen]; exact h1, hb⟩)
 have Hfin := kp hfin
 clear h ho hb0 hn hlen hfin
 generalize hQ : Nums (mapN d to) w = Q at *
 clear hQ
 unfold dimC at HH0 HHt HB Hb0 HL ⊢
 obtain ⟨z0, z1, _, _⟩ := HB.out.two
 go_enter Tryz.func63, Tryz.ntmps63
 go_wp2_with fail
 refine (HH0.out _).mono ?_
 clear z0 z1
 generalize w.alloc (.cells #[.string d.name, .slice d.A d.tiers.length d.c] 61) = W0 at *
 rintro e w1 ⟨rfl, hb1⟩
 have Hb1 := kp (Hb0.out.trans (hb1.mono Hb0.out.size))
 have HB1 := kp (HB.out.under hb1)
 clear hb1
 obtain ⟨z0, z1, _, _⟩ := HB1.out.two
 go_wp2_with fail
 refine (HHt.out _).mono ?_
 rintro e w2 ⟨rfl, hb2⟩
 have Hb2 := kp (Hb1.out.trans (hb2.mono Hb1.out.size))
 have HB2 := kp (HB1.out.under hb2)
 clear hb2 z0 z1
 obtain ⟨z0, z1, _, _⟩ := HB2.out.two
 obtain ⟨b, off, hA, hb, c0, c1, c2⟩ := ((Hh.out.below Hb2.out).more Hb2.out.size).tier 0 hp
 rw [Nat.zero_mul, Nat.add_zero] at c0 c1 c2
 rw [← Hfin.out] at c1
 rw [hA] at z1
 have hi1 : ¬ (to : Int) < 0 := by omega
 have hi1d : decide ((to : Int) < 0) = false := decide_eq_false hi1
 have hi5 : (0 : Int) < (d.tiers.length : Int) := by omega
 obtain ⟨n0, hn0⟩ : ∃ n0, (fin d).length = n0 := ⟨_, rfl⟩
 have Hn0 := kp hn0
 rw [hn0] at c1 HQ h200
 clear hn0
 go_wp2_with fail
 go_loopw [7, 31] (fun v7 v31 wr => ∃ (k : Nat) (A : Option Addr) (c : Nat), k ≤ n0 ∧ v31 = .int .i64 k ∧ v7 = .slice A k c ∧ Box wr w.heap.size 61 #[.string d.name, .slice d.A d.tiers.length d.c] ∧ wr.ownsRow (w.heap.size + 1) 3 1 (.slice A k c) k (natV ((mapN d to).take k)) ∧ Below w.heap.size w wr) (fun _ v31 _ => n0 - (intOf v31).toNat)
 case atStart => exact ⟨0, none, 0, Nat.zero_le _, rfl, rfl, by have := HB2.out; rw [hA] at this ⊢; exact this, own_nil _ _ _ _, Hb2.out⟩
 case round =>
  clear z0 z1 c0 c1 c2 hi1 hi1d hi5 hA hb
  obtain ⟨k, A, c, hk, rfl, rfl, hbx, hown, hbe⟩ := hrel
  have Hbx := kp hbx
  have Hown := kp hown
  have Hbe := kp hbe
  clear hbx hown hbe
  by_cases hlt : k < n0
  ·have HLk := kp (HL.out k wr ((Hh.out.below Hbe.out).more Hbe.out.size) (by rw [Hn0.out]; exact hlt))
   have Htk := kp (show natV ((mapN d to).take (k + 1)) = natV ((mapN d to).take k) ++ [.int .i64 ((liftN d to k : Nat) : Int)] by
    rw [List.take_succ_eq_append_getElem (by unfold mapN; rw [List.length_map, List.length_range, Hn0.out]; exact hlt), natV_snoc]
    unfold mapN
    rw [List.getElem_map, List.getElem_range])
   obtain ⟨z0, z1, _, _⟩ := Hbx.out.two
   have hi1 : (k : Int) < (n0 : Int) := by omega
   have hk1 : k < 1048576 * 64 := by omega
   generalize liftN d to k = q at *
   go_wp2_with fail
   refine HLk.out.mono ?_
   rintro e w3 ⟨rfl, hb3⟩
   have Hb3 := kp (Hbe.out.trans (hb3.mono Hbe.out.size))
   have HB3 := kp (Hbx.out.under hb3)
   have Hown3 := kp (own_below Hown.out hb3)
   clear hb3 z0 z1
   go_wp2_with (at_builtin; refine wpList_append1 rfl (.tmp 34) (.tmp 40) 41 rfl (w.heap.size + 1) 3 i0 (.int .i64 0) 8 Tryz.underlying41 ti0 tz0 tz1 tz2 rfl w3 (.int .i64 (q : Int)) rfl (.slice A k c) k (natV ((mapN d to).take k)) rfl Hown3.out rfl hk1 (by decide) HB3.out.lt ?_; intro v5 w5 hown5 happ5; obtain ⟨A5, c5, h5⟩ := own_form hown5; subst h5; have Hown5 := kp hown5; have HB5 := kp (HB3.out.grown happ5.grown (fun e => by have := (Hown3.out.lt w.heap.size e.symm).1; omega)); have Hb5 := kp (happ5.below Hb3.out Hown3.out (Nat.le_succ _) Hb3.out.size); clear hown5 happ5)
   exact ⟨⟨k + 1, A5, c5, by omega, by go_num, rfl, HB5.out, by rw [Htk.out]; exact Hown5.out, Hb5.out⟩, by simp [intOf]; omega⟩
  ·obtain rfl : k = n0 := by omega
   have Hf := kp (HQ.out _ _ (by have := own_base Hown.out (Nat.le_succ _); rw [List.take_of_length_le (by unfold mapN; rw [List.length_map, List.length_range, Hn0.out]; exact Nat.le_refl _)] at this; exact this) Hbe.out)
   go_wp2_with fail
   exact Hf.out
theorem info_ints : (Tryz.prog.info? 41).map (fun i => (i.zero, i.size, i.bytes)) = some (some (.slice none 0 0), 1, 24) := by kernel_rfl
def nl (l : List Nat) : List Nat × Ag := (l, agZero)
def ilV (f : Fa) : Value := .slice f.A f.keys.length f.c
def IlsOwn (w : World) (B : Nat) (v : Value) (xs : List Fa) : Prop := w.ownsRow B 41 1 v xs.length (xs.map ilV) ∧ (∀ x ∈ xs, FaAp w v x) ∧ KeysFrom B xs
structure IlsAt (w : World) (B : Nat) (A : Option Addr) (xs : List Fa) : Prop where
 row : Row w B A (xs.map ilV)
 each : ∀ x ∈ xs, Row w B x.A (natV x.keys)
theorem IlsAt.below {w w' : World} {B : Nat} {A : Option Addr} {xs : List Fa} (h : IlsAt w B A xs) (hb : Below B w w') : IlsAt w' B A xs := ⟨h.row.below hb, fun x hx => (h.each x hx).below hb⟩
theorem IlsAt.more {w : World} {B B' : Nat} {A : Option Addr} {xs : List Fa} (h : IlsAt w B A xs) (hB : B ≤ B') : IlsAt w B' A xs := ⟨h.row.more hB, fun x hx => (h.each x hx).more hB⟩
theorem IlsOwn.at_ {w : World} {B n c : Nat} {A : Option Addr} {xs : List Fa} (h : IlsOwn w B (.slice A n c) xs) : IlsAt w w.heap.size A xs := by
 obtain ⟨A', c', e⟩ := own_form h.1
 injection e with e1 e2 e3
 subst e1 e2 e3
 exact ⟨row_ownK h.1, fun x hx => (h.2.1 x hx).1⟩
theorem IlsOwn.below {w w' : World} {B : Nat} {v : Value} {xs : List Fa} (h : IlsOwn w B v xs) (hb : Below w.heap.size w w') : IlsOwn w' B v xs := ⟨own_below h.1 hb, fun x hx => (h.2.1 x hx).below hb, h.2.2⟩
theorem IlsOwn.base {w : World} {B B' : Nat} {v : Value} {xs : List Fa} (h : IlsOwn w B v xs) (hb : B' ≤ B) : IlsOwn w B' v xs := ⟨own_base h.1 hb, h.2.1, fun f hf b off e hne => Nat.le_trans hb (h.2.2 f hf b off e hne)⟩
theorem IlsOwn.nil (w : World) (B : Nat) : IlsOwn w B (.slice none 0 0) [] := ⟨own_nil _ _ _ _, (fun x hx => by cases hx), fun x hx => by cases hx⟩
theorem IlsOwn.app {w w' : World} {B n c n' c' : Nat} {A A' : Option Addr} {xs : List Fa} {f : Fa} (h : IlsOwn w B (.slice A n c) xs) (hf : FaAp w (.slice A n c) f) (hk : KeysFrom B [f])
 (ho : w'.ownsRow B 41 1 (.slice A' n' c') (n + 1) (xs.map ilV ++ [ilV f])) (ha : App w w' (.slice A n c) (.slice A' n' c')) (hn : xs.length = n) : IlsOwn w' B (.slice A' n' c') (xs ++ [f]) := by
 refine ⟨?_, fun x hx => ?_, fun x hx => ?_⟩
 ·rw [List.length_append, hn, List.map_append]
  exact ho
 ·rcases List.mem_append.1 hx with hx | hx
  ·exact (h.2.1 x hx).app ha
  ·rw [List.mem_singleton.1 hx]; exact hf.app ha
 ·rcases List.mem_append.1 hx with hx | hx
  ·exact h.2.2 x hx
  ·exact hk x hx
theorem il_new {w : World} {B n c : Nat} {A : Option Addr} {l : List Nat} {v : Value} (hown : w.ownsRow B 3 1 (.slice A l.length c) l.length (natV l)) (hv : ∀ k, v.ownBlock = some k → k < B) {B0 : Nat} (hB : B0 ≤ B) : FaAp w v ⟨A, l, c, agZero⟩ ∧ KeysFrom B0 [(⟨A, l, c, agZero⟩ : Fa)] := by
 refine ⟨FaAp.new (B := B) hown hv, fun f hf b off e hne => ?_⟩
 rw [List.mem_singleton.1 hf] at e
 dsimp only at e
 subst e
 exact Nat.le_trans hB (hown.lt b rfl).1
end Go.Proofs.YthmbgbmcdbdecaaGreat.Tc
