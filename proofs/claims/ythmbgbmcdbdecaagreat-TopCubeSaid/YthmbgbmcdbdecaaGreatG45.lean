/- Parts of a proof: The document's Sum of a part. The document's Few of facts; Wide. -/
import Derived.Test.YthmbgbmcdbdecaaGreatG05
import Derived.Test.YthmbgbmcdbdecaaGreatG41
import Derived.Test.YthmbgbmcdbdecaaGreatG44
namespace Go.Proofs.YthmbgbmcdbdecaaGreat.Tc
open Go.RowKit Base
set_option linter.unusedVariables false
set_option linter.unusedSimpArgs false
structure BndA (k : Nat) (a : Ag) : Prop where
 c0 : 0 ≤ a.c
 c1 : a.c ≤ (k : Int) * 1000000000
 s0 : -((k : Int) * 1000000000000) ≤ a.s0 ∧ a.s0 ≤ (k : Int) * 1000000000000
 s1 : -((k : Int) * 1000000000000) ≤ a.s1 ∧ a.s1 ≤ (k : Int) * 1000000000000
 s2 : -((k : Int) * 1000000000000) ≤ a.s2 ∧ a.s2 ≤ (k : Int) * 1000000000000
 fit : FitAg a
theorem bnd_zero : BndA 0 agZero := by
 refine ⟨?_, ?_, ?_, ?_, ?_, fit_zero⟩ <;> simp [agZero]
theorem bnd_more {j k : Nat} {a : Ag} (h : BndA j a) (hk : j ≤ k) : BndA k a := by
 obtain ⟨h0, h1, ⟨h2, h3⟩, ⟨h4, h5⟩, ⟨h6, h7⟩, h8⟩ := h
 have e : (j : Int) ≤ (k : Int) := by omega
 have e1 : (j : Int) * 1000000000 ≤ (k : Int) * 1000000000 := Int.mul_le_mul_of_nonneg_right e (by decide)
 have e2 : (j : Int) * 1000000000000 ≤ (k : Int) * 1000000000000 := Int.mul_le_mul_of_nonneg_right e (by decide)
 exact ⟨h0, by omega, ⟨by omega, by omega⟩, ⟨by omega, by omega⟩, ⟨by omega, by omega⟩, h8⟩
theorem join_bnd {j : Nat} {a b : Ag} (ha : BndA j a) (hb : BndA 1 b) (hj : j ≤ 5000) : sumsFit a b ∧ ∃ r, joinA a b = some r ∧ BndA (j + 1) r := by
 have ea : ((j + 1 : Nat) : Int) * 1000000000 = (j : Int) * 1000000000 + 1000000000 := by rw [Int.natCast_add, Int.add_mul]; rfl
 have eb : ((j + 1 : Nat) : Int) * 1000000000000 = (j : Int) * 1000000000000 + 1000000000000 := by rw [Int.natCast_add, Int.add_mul]; rfl
 have hb' := bnd_more hb (Nat.le_add_left 1 j)
 have ha' := bnd_more ha (Nat.le_add_right j 1)
 obtain ⟨h0, h1, ⟨h2, h3⟩, ⟨h4, h5⟩, ⟨h6, h7⟩, h8⟩ := ha
 obtain ⟨k0, k1, ⟨k2, k3⟩, ⟨k4, k5⟩, ⟨k6, k7⟩, k8⟩ := hb
 have e1 : (j : Int) * 1000000000 ≤ 5000 * 1000000000 := Int.mul_le_mul_of_nonneg_right (by omega) (by decide)
 have e2 : (j : Int) * 1000000000000 ≤ 5000 * 1000000000000 := Int.mul_le_mul_of_nonneg_right (by omega) (by decide)
 have hf : sumsFit a b := by
  refine ⟨⟨?_, ?_⟩, ⟨?_, ?_⟩, ⟨?_, ?_⟩, ⟨?_, ?_⟩⟩ <;> omega
 refine ⟨hf, ?_⟩
 unfold joinA
 rw [if_pos hf]
 split
 ·exact ⟨b, rfl, hb'⟩
 ·split
  ·exact ⟨a, rfl, ha'⟩
  ·refine ⟨_, rfl, ⟨?_, ?_, ⟨?_, ?_⟩, ⟨?_, ?_⟩, ⟨?_, ?_⟩, joinA_fit h8 k8 (show joinA a b = some (addAg a b) by unfold joinA; rw [if_neg (by assumption), if_neg (by assumption), if_pos hf])⟩⟩
   ·show 0 ≤ a.c + b.c; omega
   ·show a.c + b.c ≤ _; rw [ea]; omega
   ·show _ ≤ a.s0 + b.s0; rw [eb]; omega
   ·show a.s0 + b.s0 ≤ _; rw [eb]; omega
   ·show _ ≤ a.s1 + b.s1; rw [eb]; omega
   ·show a.s1 + b.s1 ≤ _; rw [eb]; omega
   ·show _ ≤ a.s2 + b.s2; rw [eb]; omega
   ·show a.s2 + b.s2 ≤ _; rw [eb]; omega
theorem joinAll_bnd : ∀ (l : List Ag) (o : Ag) (j : Nat), BndA j o → (∀ a ∈ l, BndA 1 a) → j + l.length ≤ 5000 → ∃ r, joinAll o l = some r ∧ BndA (j + l.length) r
 | [], o, j, h, _, _ => ⟨o, rfl, h⟩
 | a :: l, o, j, h, hl, hn => by
  rw [List.length_cons] at hn ⊢
  obtain ⟨_, r, hr, hb⟩ := join_bnd h (hl a List.mem_cons_self) (by omega)
  obtain ⟨r2, h2, hb2⟩ := joinAll_bnd l r (j + 1) hb (fun x hx => hl x (List.mem_cons_of_mem _ hx)) (by omega)
  refine ⟨r2, ?_, by rw [show j + (l.length + 1) = j + 1 + l.length by omega]; exact hb2⟩
  unfold joinAll
  rw [hr]
  exact h2
theorem joinAll_snoc : ∀ (l : List Ag) (o a : Ag), joinAll o (l ++ [a]) = (joinAll o l).bind fun r => joinA r a
 | [], o, a => by
  show (joinA o a).bind (fun j => joinAll j []) = _
  unfold joinAll
  simp
 | b :: l, o, a => by
  show (joinA o b).bind (fun j => joinAll j (l ++ [a])) = ((joinA o b).bind fun j => joinAll j l).bind _
  cases joinA o b with
  | none => rfl
  | some j => exact joinAll_snoc l j a
def SumOf (a : Ag) (w : World) (e : Ending) (w' : World) : Prop := e = .returned (.tuple #[.agg (agC a), .bool true]) ∧ Below w.heap.size w w'
set_option maxRecDepth 100000 in
set_option maxHeartbeats 8000000 in
theorem r26sum_any (Af Ap : Option Addr) (fs : List Fa) (part : List Nat) (cf cp : Nat) (w : World) (hf : FasAt w w.heap.size Af fs) (hp : Row w w.heap.size Ap (natV part)) (hlt : ∀ i ∈ part, i < fs.length) (hb : ∀ f ∈ fs, BndA 1 f.ag) (hn : part.length ≤ 4000) :
 Calls Tryz.prog 12 #[.slice Af fs.length cf, .slice Ap part.length cp] w (SumOf ((sumP (pls fs) part).getD agZero) w) := by
 have hb1 := (Below.refl w.heap.size w).alloc (Nat.le_refl _) (.cells #[.int .i64 0, .int .i64 0, .int .i64 0, .int .i64 0, .int .i64 0, .int .i64 0, .int .i64 0, .int .i64 0, .int .i64 0, .int .i64 0] 47)
 have hb2 := hb1.alloc hb1.size (.cells #[.int .i64 0, .int .i64 0, .int .i64 0, .int .i64 0, .int .i64 0, .int .i64 0, .int .i64 0, .int .i64 0, .int .i64 0, .int .i64 0] 47)
 have HR := kp ((Box.new w 47 #[.int .i64 0, .int .i64 0, .int .i64 0, .int .i64 0, .int .i64 0, .int .i64 0, .int .i64 0, .int .i64 0, .int .i64 0, .int .i64 0]).alloc (.cells #[.int .i64 0, .int .i64 0, .int .i64 0, .int .i64 0, .int .i64 0, .int .i64 0, .int .i64 0, .int .i64 0, .int .i64 0, .int .i64 0] 47))
 have HO := kp (show Box ((w.alloc (.cells #[.int .i64 0, .int .i64 0, .int .i64 0, .int .i64 0, .int .i64 0, .int .i64 0, .int .i64 0, .int .i64 0, .int .i64 0, .int .i64 0] 47)).alloc (.cells #[.int .i64 0, .int .i64 0, .int .i64 0, .int .i64 0, .int .i64 0, .int .i64 0, .int .i64 0, .int .i64 0, .int .i64 0, .int .i64 0] 47)) (w.heap.size + 1) 47 (agC agZero) from Box.lay (by simp))
 have Hb2 := kp hb2
 have Hf := kp hf
 have Hp := kp hp
 have Hlt := kp hlt
 have Hb := kp hb
 have HS := kp (show ∀ (k : Nat) (hk : k < part.length) (a : Ag), sumP (pls fs) (part.take k) = some a → BndA k a → ∃ hi : part[k] < fs.length, sumsFit a (fs[part[k]]'hi).ag ∧ ∃ r, joinA a (fs[part[k]]'hi).ag = some r ∧ sumP (pls fs) (part.take (k + 1)) = some r ∧ BndA (k + 1) r from fun k hk a h1 h2 => by
  have hi := hlt _ (List.getElem_mem hk)
  obtain ⟨e1, r, e2, e3⟩ := join_bnd h2 (hb _ (List.getElem_mem hi)) (by omega)
  refine ⟨hi, e1, r, e2, ?_, e3⟩
  unfold sumP at h1 ⊢
  rw [List.take_succ_eq_append_getElem hk, List.map_append, List.map_cons, List.map_nil, joinAll_snoc, h1, agF_fa (List.getElem?_eq_getElem hi)]
  exact e2)
 have HQ := kp (show ∀ a, sumP (pls fs) part = some a → ∀ w', Below w.heap.size w w' → SumOf ((sumP (pls fs) part).getD agZero) w (.returned (.tuple #[.agg (agC a), .bool true])) w' from fun a ha w' h => ⟨by rw [ha]; rfl, h⟩)
 generalize SumOf ((sumP (pls fs) part).getD agZero) w = Q at *
 clear hb1 hb2 hf hp hlt hb
 obtain ⟨n, hn'⟩ : ∃ n, part.length = n := ⟨_, rfl⟩
 obtain ⟨nf, hnf⟩ : ∃ nf, fs.length = nf := ⟨_, rfl⟩
 have Hn := kp hn'
 have Hnf := kp hnf
 rw [hn'] at hn ⊢
 rw [hnf]
 clear hn' hnf
 generalize hW2 : (w.alloc (.cells #[.int .i64 0, .int .i64 0, .int .i64 0, .int .i64 0, .int .i64 0, .int .i64 0, .int .i64 0, .int .i64 0, .int .i64 0, .int .i64 0] 47)).alloc (.cells #[.int .i64 0, .int .i64 0, .int .i64 0, .int .i64 0, .int .i64 0, .int .i64 0, .int .i64 0, .int .i64 0, .int .i64 0, .int .i64 0] 47) = W2 at *
 go_enter Tryz.func12, Tryz.ntmps12
 go_wp2_with fail
 clear hW2
 go_loopw [13] (fun v13 wr => ∃ (k : Nat) (a : Ag), k ≤ n ∧ v13 = .int .i64 (k : Nat) ∧ Box wr w.heap.size 47 #[.int .i64 0, .int .i64 0, .int .i64 0, .int .i64 0, .int .i64 0, .int .i64 0, .int .i64 0, .int .i64 0, .int .i64 0, .int .i64 0] ∧ Box wr (w.heap.size + 1) 47 (agC a) ∧ sumP (pls fs) (part.take k) = some a ∧ BndA k a ∧ Below w.heap.size w wr) (fun v13 _ => n - (intOf v13).toNat)
 case atStart => exact ⟨0, agZero, Nat.zero_le _, rfl, HR.out, HO.out, rfl, bnd_zero, Hb2.out⟩
 case round =>
  obtain ⟨k, a, hk, rfl, hR, hO, hs, hbd, hbe⟩ := hrel
  have HR3 := kp hR
  have HO3 := kp hO
  have Hs := kp hs
  have Hbd := kp hbd
  have Hbe := kp hbe
  clear hR hO hs hbd hbe HR HO Hb2
  by_cases hlt : k < n
  ·have hkp : k < part.length := by rw [Hn.out]; exact hlt
   obtain ⟨bp, op, hAp, hbp, p0⟩ := Row.at_ ((Hp.out.below Hbe.out).more Hbe.out.size) (k := k) (by rw [natV_len]; exact hkp)
   unfold natV at p0
   rw [List.getElem_map] at p0
   obtain ⟨hi, hsf, r, hjr, hsr, hbr⟩ := HS.out k hkp a Hs.out Hbd.out
   obtain ⟨bf, of_, hAf, hbf, c0, c1, c2, c3, c4, c5, c6, c7, c8, c9, c10⟩ := FasAt.cells ((Hf.out.below Hbe.out).more Hbe.out.size) _ hi
   have HJ := kp (fun W => r06join_any a (fs[part[k]'hkp]'hi).ag W Hbd.out.fit (Hb.out _ (List.getElem_mem hi)).fit hsf)
   rw [hjr] at HJ
   have Hsr := kp hsr
   have Hbr := kp hbr
   have hiN : part[k]'hkp < nf := by rw [← Hnf.out]; exact hi
   clear hsf hjr hsr hbr c0
   generalize (fs[part[k]'hkp]'hi) = f at *
   generalize (part[k]'hkp) = ii at *
   clear hi
   obtain ⟨fA, fkeys, fc, ⟨bc, t0, m0, y0, t1, m1, y1, t2, m2, y2⟩⟩ := f
   obtain ⟨ac, s0, n0, x0, s1, n1, x1, s2, n2, x2⟩ := a
   obtain ⟨rc, u0, l0, z0, u1, l1, z1, u2, l2, z2⟩ := r
   dsimp only [agC, Option.getD_some] at HJ c1 c2 c3 c4 c5 c6 c7 c8 c9 c10 HO3
   have i0' : (0 : Int) ≤ (k : Int) := by omega
   have i1' : (k : Int) < (n : Int) := by omega
   have i2' : (0 : Int) ≤ (ii : Int) := by omega
   have i3' : (ii : Int) < (nf : Int) := by omega
   obtain ⟨o0, o1, o2, o3, o4, o5, o6, o7, o8, o9⟩ := (Box.ten HO3.out).1
   rw [hAp, hAf]
   go_upto_region 5 with fail
   clear p0
   refine wp_region_noPanic ?_
   refine wp_region_T (t := 99) (S := (fun w' => (w'.cell? ⟨w.heap.size + 1, 0, none⟩ = some (.int .i64 ac) ∧ w'.cell? ⟨w.heap.size + 1, 1, none⟩ = some (.int .i64 s0) ∧ w'.cell? ⟨w.heap.size + 1, 2, none⟩ = some (.int .i64 n0) ∧ w'.cell? ⟨w.heap.size + 1, 3, none⟩ = some (.int .i64 x0) ∧ w'.cell? ⟨w.heap.size + 1, 4, none⟩ = some (.int .i64 s1) ∧ w'.cell? ⟨w.heap.size + 1, 5, none⟩ = some (.int .i64 n1) ∧ w'.cell? ⟨w.heap.size + 1, 6, none⟩ = some (.int .i64 x1) ∧ w'.cell? ⟨w.heap.size + 1, 7, none⟩ = some (.int .i64 s2) ∧ w'.cell? ⟨w.heap.size + 1, 8, none⟩ = some (.int .i64 n2) ∧ w'.cell? ⟨w.heap.size + 1, 9, none⟩ = some (.int .i64 x2)) ∧ (w'.cell? ⟨bf, of_ + ii * 11 + 1, none⟩ = some (.int .i64 bc) ∧ w'.cell? ⟨bf, of_ + ii * 11 + 2, none⟩ = some (.int .i64 t0) ∧ w'.cell? ⟨bf, of_ + ii * 11 + 3, none⟩ = some (.int .i64 m0) ∧ w'.cell? ⟨bf, of_ + ii * 11 + 4, none⟩ = some (.int .i64 y0) ∧ w'.cell? ⟨bf, of_ + ii * 11 + 5, none⟩ = some (.int .i64 t1) ∧ w'.cell? ⟨bf, of_ + ii * 11 + 6, none⟩ = some (.int .i64 m1) ∧ w'.cell? ⟨bf, of_ + ii * 11 + 7, none⟩ = some (.int .i64 y1) ∧ w'.cell? ⟨bf, of_ + ii * 11 + 8, none⟩ = some (.int .i64 t2) ∧ w'.cell? ⟨bf, of_ + ii * 11 + 9, none⟩ = some (.int .i64 m2) ∧ w'.cell? ⟨bf, of_ + ii * 11 + 10, none⟩ = some (.int .i64 y2)))) (by kernel_rfl) ⟨⟨o0, o1, o2, o3, o4, o5, o6, o7, o8, o9⟩, ⟨c1, c2, c3, c4, c5, c6, c7, c8, c9, c10⟩⟩ (fun hHeld => ?_)
   refine tk 0 hHeld ?_
   refine tk 1 hHeld ?_
   refine tk 2 hHeld ?_
   refine tk 3 hHeld ?_
   refine tk 4 hHeld ?_
   refine tk 5 hHeld ?_
   have hgo : w.heap.size + 1 < wr.heap.size := HO3.out.lt
   refine wpAnyT_two (i := 6) (j := 10) (o := ?op6) (o' := ?op10) (by kernel_rfl) ?ap6 ?ap10 (by decide) (by decide) (fun K hK => ?bp6) (fun K hK => ?bp10)
   case ap6 => (simp only [List.getElem?_toArray, List.getElem?_cons_succ, List.getElem?_cons_zero]; exact rfl)
   case ap10 => (simp only [List.getElem?_toArray, List.getElem?_cons_succ, List.getElem?_cons_zero]; exact rfl)
   case bp6 =>
    go_simp
    refine (HJ.out wr.drew).mono ?_
    rintro e wc ⟨rfl, hbc⟩
    have Hbc := kp (show Below wr.heap.size wr wc from (Below.refl _ _).drew.trans hbc)
    clear hbc
    refine hK.out _ _ ?_ (fun hHeld2 => ?_)
    ·exact ⟨keepTen (Hbc.out.block _ hgo) ⟨o0, o1, o2, o3, o4, o5, o6, o7, o8, o9⟩, keep10 (Hbc.out.block bf hbf) ⟨c1, c2, c3, c4, c5, c6, c7, c8, c9, c10⟩⟩
    clear hK K hHeld
    have hHeld := hHeld2
    clear hHeld2
    try simp only [Act.put, List.setIfInBounds_toArray, List.set_cons_zero, List.set_cons_succ]
    have hgo2 : w.heap.size + 1 < wc.heap.size := Nat.lt_of_lt_of_le hgo Hbc.out.size
    have hbf2 : bf < wc.heap.size := Nat.lt_of_lt_of_le hbf Hbc.out.size
    refine tk 7 hHeld ?_
    refine tk 8 hHeld ?_
    refine tk 9 hHeld ?_
    refine wpAnyT_one (i := 10) (o := ?ou10) (by kernel_rfl) ?au10 (by decide) (fun K hK => ?bu10)
    case au10 => (simp only [List.getElem?_toArray, List.getElem?_cons_succ, List.getElem?_cons_zero]; exact rfl)
    go_simp
    refine hK.out _ _ ?_ (fun hHeld2 => ?_)
    ·exact ⟨keepTen (Below.heap_alloc _ _ _ hgo2) hHeld.1, keep10 (Below.heap_alloc _ _ _ hbf2) hHeld.2⟩
    clear hK K hHeld
    have hHeld := hHeld2
    clear hHeld2
    try simp only [Act.put, List.setIfInBounds_toArray, List.set_cons_zero, List.set_cons_succ]
    have hx : _ ∧ _ := ⟨keepTen (Hbc.out.block _ hgo) ⟨o0, o1, o2, o3, o4, o5, o6, o7, o8, o9⟩, keep10 (Hbc.out.block bf hbf) ⟨c1, c2, c3, c4, c5, c6, c7, c8, c9, c10⟩⟩
    refine wpAnyT_one (i := 11) (o := ?ou11) (by kernel_rfl) ?au11 (by decide) (fun K hK => ?bu11)
    case au11 => (simp only [List.getElem?_toArray, List.getElem?_cons_succ, List.getElem?_cons_zero]; exact rfl)
    go_simp
    refine hK.out _ _ ?_ (fun hHeld2 => ?_)
    ·exact ⟨keepTen (Below.heap_alloc _ _ _ hgo2) hx.1, keep10 (Below.heap_alloc _ _ _ hbf2) hx.2⟩
    clear hK K hHeld
    have hHeld := hHeld2
    clear hHeld2
    try simp only [Act.put, List.setIfInBounds_toArray, List.set_cons_zero, List.set_cons_succ]
    refine tk 12 hHeld ?_
    refine wpAnyT_done (by kernel_rfl) ?_ _
    try clear hHeld
    refine NoPanic.normal ?_
    have hb4 := (Below.refl wc.heap.size wc).alloc (Nat.le_refl _) (.cells #[.int .i64 rc, .int .i64 u0, .int .i64 l0, .int .i64 z0, .int .i64 u1, .int .i64 l1, .int .i64 z1, .int .i64 u2, .int .i64 l2, .int .i64 z2] 47)
    have HB9 := kp (Box.new wc 47 #[.int .i64 rc, .int .i64 u0, .int .i64 l0, .int .i64 z0, .int .i64 u1, .int .i64 l1, .int .i64 z1, .int .i64 u2, .int .i64 l2, .int .i64 z2])
    have HO5 := kp ((HO3.out.under Hbc.out).alloc (.cells #[.int .i64 rc, .int .i64 u0, .int .i64 l0, .int .i64 z0, .int .i64 u1, .int .i64 l1, .int .i64 z1, .int .i64 u2, .int .i64 l2, .int .i64 z2] 47))
    have HR5 := kp ((HR3.out.under Hbc.out).alloc (.cells #[.int .i64 rc, .int .i64 u0, .int .i64 l0, .int .i64 z0, .int .i64 u1, .int .i64 l1, .int .i64 z1, .int .i64 u2, .int .i64 l2, .int .i64 z2] 47))
    have Hb5 := kp ((Hbe.out.trans (Hbc.out.mono Hbe.out.size)).trans (hb4.mono (Nat.le_trans Hbe.out.size Hbc.out.size)))
    have hne9 : w.heap.size + 1 ≠ wc.heap.size := by omega
    clear hb4 hx hgo2 hbf2 o0 o1 o2 o3 o4 o5 o6 o7 o8 o9 c1 c2 c3 c4 c5 c6 c7 c8 c9 c10
    generalize wc.alloc (.cells #[.int .i64 rc, .int .i64 u0, .int .i64 l0, .int .i64 z0, .int .i64 u1, .int .i64 l1, .int .i64 z1, .int .i64 u2, .int .i64 l2, .int .i64 z2] 47) = W5 at *
    generalize hg9 : wc.heap.size = g9 at *
    clear hg9
    obtain ⟨⟨e0, e1, e2, e3, e4, e5, e6, e7, e8, e9⟩, _⟩ := Box.ten HB9.out
    obtain ⟨⟨o0, o1, o2, o3, o4, o5, o6, o7, o8, o9⟩, ⟨f0, f1, f2, f3, f4, f5, f6, f7, f8, f9⟩⟩ := Box.ten HO5.out
    have HO6 := kp (show Box (setAll W5 (w.heap.size + 1) 0 [.int .i64 rc, .int .i64 u0, .int .i64 l0, .int .i64 z0, .int .i64 u1, .int .i64 l1, .int .i64 z1, .int .i64 u2, .int .i64 l2, .int .i64 z2]) (w.heap.size + 1) 47 #[.int .i64 rc, .int .i64 u0, .int .i64 l0, .int .i64 z0, .int .i64 u1, .int .i64 l1, .int .i64 z1, .int .i64 u2, .int .i64 l2, .int .i64 z2] from box_setAll0 HO5.out [.int .i64 rc, .int .i64 u0, .int .i64 l0, .int .i64 z0, .int .i64 u1, .int .i64 l1, .int .i64 z1, .int .i64 u2, .int .i64 l2, .int .i64 z2] rfl)
    have HR6 := kp (show Box (setAll W5 (w.heap.size + 1) 0 [.int .i64 rc, .int .i64 u0, .int .i64 l0, .int .i64 z0, .int .i64 u1, .int .i64 l1, .int .i64 z1, .int .i64 u2, .int .i64 l2, .int .i64 z2]) w.heap.size 47 #[.int .i64 0, .int .i64 0, .int .i64 0, .int .i64 0, .int .i64 0, .int .i64 0, .int .i64 0, .int .i64 0, .int .i64 0, .int .i64 0] from (setAll_other (by omega) _ _ _).trans HR5.out)
    have Hb6 := kp (below_setAll (Nat.le_succ w.heap.size) [.int .i64 rc, .int .i64 u0, .int .i64 l0, .int .i64 z0, .int .i64 u1, .int .i64 l1, .int .i64 z1, .int .i64 u2, .int .i64 l2, .int .i64 z2] W5 0 Hb5.out)
    generalize hW6 : setAll W5 (w.heap.size + 1) 0 _ = W6 at *
    simp only [setAll, Nat.zero_add, Nat.reduceAdd] at hW6
    clear HB9 HO5 HR5 Hb5
    go_wp2_with fail
    exact ⟨⟨k + 1, ⟨rc, u0, l0, z0, u1, l1, z1, u2, l2, z2⟩, by omega, by go_num, HR6.out, HO6.out, Hsr.out, Hbr.out, Hb6.out⟩, by simp [intOf]; omega⟩
   case bp10 =>
    go_simp
    refine hK.out _ _ ?_ (fun hHeld2 => ?_)
    ·exact ⟨keepTen (Below.heap_alloc wr.drew _ _ hgo) hHeld.1, keep10 (Below.heap_alloc wr.drew _ _ hbf) hHeld.2⟩
    clear hK K hHeld
    have hHeld := hHeld2
    clear hHeld2
    try simp only [Act.put, List.setIfInBounds_toArray, List.set_cons_zero, List.set_cons_succ]
    have hba := (Below.refl wr.drew.heap.size wr.drew).alloc (Nat.le_refl _) (.cells #[.int .i64 0, .int .i64 0, .int .i64 0, .int .i64 0, .int .i64 0, .int .i64 0, .int .i64 0, .int .i64 0, .int .i64 0, .int .i64 0] 47)
    have HBa := kp (Box.new wr.drew 47 #[.int .i64 0, .int .i64 0, .int .i64 0, .int .i64 0, .int .i64 0, .int .i64 0, .int .i64 0, .int .i64 0, .int .i64 0, .int .i64 0])
    have Hba := kp (show Below wr.heap.size wr (wr.drew.alloc (.cells #[.int .i64 0, .int .i64 0, .int .i64 0, .int .i64 0, .int .i64 0, .int .i64 0, .int .i64 0, .int .i64 0, .int .i64 0, .int .i64 0] 47)) from (Below.refl _ _).drew.trans hba)
    clear hba
    have hgoA : w.heap.size + 1 < (wr.drew.alloc (.cells #[.int .i64 0, .int .i64 0, .int .i64 0, .int .i64 0, .int .i64 0, .int .i64 0, .int .i64 0, .int .i64 0, .int .i64 0, .int .i64 0] 47)).heap.size := Nat.lt_of_lt_of_le hgo Hba.out.size
    have hbfA : bf < (wr.drew.alloc (.cells #[.int .i64 0, .int .i64 0, .int .i64 0, .int .i64 0, .int .i64 0, .int .i64 0, .int .i64 0, .int .i64 0, .int .i64 0, .int .i64 0] 47)).heap.size := Nat.lt_of_lt_of_le hbf Hba.out.size
    refine wpAnyT_one (i := 6) (o := ?ov6) (by kernel_rfl) ?av6 (by decide) (fun K hK => ?bv6)
    case av6 => (simp only [List.getElem?_toArray, List.getElem?_cons_succ, List.getElem?_cons_zero]; exact rfl)
    go_simp
    refine (HJ.out _).mono ?_
    rintro e wc ⟨rfl, hbc⟩
    have Hbc := kp (show Below (wr.drew.alloc (.cells #[.int .i64 0, .int .i64 0, .int .i64 0, .int .i64 0, .int .i64 0, .int .i64 0, .int .i64 0, .int .i64 0, .int .i64 0, .int .i64 0] 47)).heap.size (wr.drew.alloc (.cells #[.int .i64 0, .int .i64 0, .int .i64 0, .int .i64 0, .int .i64 0, .int .i64 0, .int .i64 0, .int .i64 0, .int .i64 0, .int .i64 0] 47)) wc from hbc)
    clear hbc
    refine hK.out _ _ ?_ (fun hHeld2 => ?_)
    ·exact ⟨keepTen (Hbc.out.block _ hgoA) hHeld.1, keep10 (Hbc.out.block bf hbfA) hHeld.2⟩
    clear hK K hHeld
    have hHeld := hHeld2
    clear hHeld2
    try simp only [Act.put, List.setIfInBounds_toArray, List.set_cons_zero, List.set_cons_succ]
    have HBc := kp (show Box wc wr.heap.size 47 #[.int .i64 0, .int .i64 0, .int .i64 0, .int .i64 0, .int .i64 0, .int .i64 0, .int .i64 0, .int .i64 0, .int .i64 0, .int .i64 0] from HBa.out.under Hbc.out)
    have Hbac := kp (Hba.out.trans (Hbc.out.mono Hba.out.size))
    have hx := hHeld
    have hneo : w.heap.size + 1 ≠ wr.heap.size := by omega
    have hnef : bf ≠ wr.heap.size := by omega
    obtain ⟨⟨y0, y1', y2', y3, y4, y5, y6, y7, y8, y9⟩, ⟨f0, f1, f2, f3, f4, f5, f6, f7, f8, f9⟩⟩ := Box.ten HBc.out
    refine tk 7 hHeld ?_
    refine tk 8 hHeld ?_
    refine tk 9 hHeld ?_
    refine wpAnyT_one (i := 11) (o := ?ov11) (by kernel_rfl) ?av11 (by decide) (fun K hK => ?bv11)
    case av11 => (simp only [List.getElem?_toArray, List.getElem?_cons_succ, List.getElem?_cons_zero]; exact rfl)
    go_simp
    refine hK.out _ _ ?_ (fun hHeld2 => ?_)
    ·exact ⟨keepTen (ten_other hneo) hx.1, keep10 (ten_other hnef) hx.2⟩
    clear hK K hHeld
    have hHeld := hHeld2
    clear hHeld2
    try simp only [Act.put, List.setIfInBounds_toArray, List.set_cons_zero, List.set_cons_succ]
    refine tk 12 hHeld ?_
    refine wpAnyT_done (by kernel_rfl) ?_ _
    try clear hHeld
    refine NoPanic.normal ?_
    have HB9 := kp (show Box (setAll wc wr.heap.size 0 [.int .i64 rc, .int .i64 u0, .int .i64 l0, .int .i64 z0, .int .i64 u1, .int .i64 l1, .int .i64 z1, .int .i64 u2, .int .i64 l2, .int .i64 z2]) wr.heap.size 47 #[.int .i64 rc, .int .i64 u0, .int .i64 l0, .int .i64 z0, .int .i64 u1, .int .i64 l1, .int .i64 z1, .int .i64 u2, .int .i64 l2, .int .i64 z2] from box_setAll0 HBc.out [.int .i64 rc, .int .i64 u0, .int .i64 l0, .int .i64 z0, .int .i64 u1, .int .i64 l1, .int .i64 z1, .int .i64 u2, .int .i64 l2, .int .i64 z2] rfl)
    have hb9 := below_setAll (Nat.le_refl wr.heap.size) [.int .i64 rc, .int .i64 u0, .int .i64 l0, .int .i64 z0, .int .i64 u1, .int .i64 l1, .int .i64 z1, .int .i64 u2, .int .i64 l2, .int .i64 z2] wc 0 Hbac.out
    have HO5 := kp (HO3.out.under hb9)
    have HR5 := kp (HR3.out.under hb9)
    have Hb5 := kp (Hbe.out.trans (hb9.mono Hbe.out.size))
    have hne9 : w.heap.size + 1 ≠ wr.heap.size := by omega
    clear hx hb9 HBc Hbac HBa Hba hgoA hbfA hnef hneo y0 y1' y2' y3 y4 y5 y6 y7 y8 y9 f0 f1 f2 f3 f4 f5 f6 f7 f8 f9 o0 o1 o2 o3 o4 o5 o6 o7 o8 o9 c1 c2 c3 c4 c5 c6 c7 c8 c9 c10
    simp only [setAll, Nat.zero_add, Nat.reduceAdd] at HB9 HO5 HR5 Hb5
    generalize ((((((((((wc.setCell ⟨wr.heap.size, 0, none⟩ (.int .i64 rc)).setCell ⟨wr.heap.size, 1, none⟩ (.int .i64 u0)).setCell ⟨wr.heap.size, 2, none⟩ (.int .i64 l0)).setCell ⟨wr.heap.size, 3, none⟩ (.int .i64 z0)).setCell ⟨wr.heap.size, 4, none⟩ (.int .i64 u1)).setCell ⟨wr.heap.size, 5, none⟩ (.int .i64 l1)).setCell ⟨wr.heap.size, 6, none⟩ (.int .i64 z1)).setCell ⟨wr.heap.size, 7, none⟩ (.int .i64 u2)).setCell ⟨wr.heap.size, 8, none⟩ (.int .i64 l2)).setCell ⟨wr.heap.size, 9, none⟩ (.int .i64 z2)) = W5 at *
    generalize hg9 : wr.heap.size = g9 at *
    clear hg9
    obtain ⟨⟨e0, e1, e2, e3, e4, e5, e6, e7, e8, e9⟩, _⟩ := Box.ten HB9.out
    obtain ⟨⟨o0, o1, o2, o3, o4, o5, o6, o7, o8, o9⟩, ⟨f0, f1, f2, f3, f4, f5, f6, f7, f8, f9⟩⟩ := Box.ten HO5.out
    have HO6 := kp (show Box (setAll W5 (w.heap.size + 1) 0 [.int .i64 rc, .int .i64 u0, .int .i64 l0, .int .i64 z0, .int .i64 u1, .int .i64 l1, .int .i64 z1, .int .i64 u2, .int .i64 l2, .int .i64 z2]) (w.heap.size + 1) 47 #[.int .i64 rc, .int .i64 u0, .int .i64 l0, .int .i64 z0, .int .i64 u1, .int .i64 l1, .int .i64 z1, .int .i64 u2, .int .i64 l2, .int .i64 z2] from box_setAll0 HO5.out [.int .i64 rc, .int .i64 u0, .int .i64 l0, .int .i64 z0, .int .i64 u1, .int .i64 l1, .int .i64 z1, .int .i64 u2, .int .i64 l2, .int .i64 z2] rfl)
    have HR6 := kp (show Box (setAll W5 (w.heap.size + 1) 0 [.int .i64 rc, .int .i64 u0, .int .i64 l0, .int .i64 z0, .int .i64 u1, .int .i64 l1, .int .i64 z1, .int .i64 u2, .int .i64 l2, .int .i64 z2]) w.heap.size 47 #[.int .i64 0, .int .i64 0, .int .i64 0, .int .i64 0, .int .i64 0, .int .i64 0, .int .i64 0, .int .i64 0, .int .i64 0, .int .i64 0] from (setAll_other (by omega) _ _ _).trans HR5.out)
    have Hb6 := kp (below_setAll (Nat.le_succ w.heap.size) [.int .i64 rc, .int .i64 u0, .int .i64 l0, .int .i64 z0, .int .i64 u1, .int .i64 l1, .int .i64 z1, .int .i64 u2, .int .i64 l2, .int .i64 z2] W5 0 Hb5.out)
    generalize hW6 : setAll W5 (w.heap.size + 1) 0 _ = W6 at *
    simp only [setAll, Nat.zero_add, Nat.reduceAdd] at hW6
    clear HB9 HO5 HR5 Hb5
    go_wp2_with fail
    exact ⟨⟨k + 1, ⟨rc, u0, l0, z0, u1, l1, z1, u2, l2, z2⟩, by omega, by go_num, HR6.out, HO6.out, Hsr.out, Hbr.out, Hb6.out⟩, by simp [intOf]; omega⟩
  ·obtain rfl : k = n := by omega
   have Hsk := kp (show sumP (pls fs) part = some a by have := Hs.out; rw [List.take_of_length_le (by rw [Hn.out]; exact Nat.le_refl _)] at this; exact this)
   obtain ⟨ac, s0, n0, x0, s1, n1, x1, s2, n2, x2⟩ := a
   dsimp only [agC] at HO3 HQ
   have HBr := kp (show Box (setAll wr w.heap.size 0 [.int .i64 ac, .int .i64 s0, .int .i64 n0, .int .i64 x0, .int .i64 s1, .int .i64 n1, .int .i64 x1, .int .i64 s2, .int .i64 n2, .int .i64 x2]) w.heap.size 47 #[.int .i64 ac, .int .i64 s0, .int .i64 n0, .int .i64 x0, .int .i64 s1, .int .i64 n1, .int .i64 x1, .int .i64 s2, .int .i64 n2, .int .i64 x2] from box_setAll0 HR3.out [.int .i64 ac, .int .i64 s0, .int .i64 n0, .int .i64 x0, .int .i64 s1, .int .i64 n1, .int .i64 x1, .int .i64 s2, .int .i64 n2, .int .i64 x2] rfl)
   have Hfin := kp (show Q (.returned (.tuple #[.agg #[.int .i64 ac, .int .i64 s0, .int .i64 n0, .int .i64 x0, .int .i64 s1, .int .i64 n1, .int .i64 x1, .int .i64 s2, .int .i64 n2, .int .i64 x2], .bool true])) _ from HQ.out ⟨ac, s0, n0, x0, s1, n1, x1, s2, n2, x2⟩ Hsk.out _ (below_setAll (Nat.le_refl _) [.int .i64 ac, .int .i64 s0, .int .i64 n0, .int .i64 x0, .int .i64 s1, .int .i64 n1, .int .i64 x1, .int .i64 s2, .int .i64 n2, .int .i64 x2] wr 0 Hbe.out))
   obtain ⟨o0, o1, o2, o3, o4, o5, o6, o7, o8, o9⟩ := (Box.ten HO3.out).1
   obtain ⟨_, ⟨v0, v1, v2, v3, v4, v5, v6, v7, v8, v9⟩⟩ := Box.ten HR3.out
   obtain ⟨⟨u0', u1', u2', u3', u4', u5', u6', u7', u8', u9'⟩, _⟩ := Box.ten HR3.out
   generalize hWr : setAll wr w.heap.size 0 _ = Wr at *
   simp only [setAll, Nat.zero_add, Nat.reduceAdd] at hWr
   obtain ⟨t0, t1, t2, t3, t4, t5, t6, t7, t8, t9⟩ := (Box.ten HBr.out).1
   clear HBr HR3 HO3
   go_wp2_with fail
   refine bodyPost_ret (v := .tuple #[.agg #[.int .i64 ac, .int .i64 s0, .int .i64 n0, .int .i64 x0, .int .i64 s1, .int .i64 n1, .int .i64 x1, .int .i64 s2, .int .i64 n2, .int .i64 x2], .bool true]) ?_ rfl Hfin.out
   simp [results, Tryz.results12, go_sem, t0, t1, t2, t3, t4, t5, t6, t7, t8, t9]
set_option maxRecDepth 100000 in
set_option maxHeartbeats 2000000 in
theorem r19few_any (A : Option Addr) (l : List Fa) (c most : Nat) (w : World) (h : FasAt w w.heap.size A l) (hn : l.length ≤ 1000000) (hm : most ≤ 1000000) (hk : ∀ f ∈ l, f.keys.length ≤ 1000000) : Calls Tryz.prog 25 #[.slice A l.length c, .int .i64 (most : Nat)] w (RetB (fun _ => True) w) := by
 have HR := kp (fun r w' hb => RetB.mono (P := fun _ => True) (w := w) (r := r) (w' := w') trivial hb)
 have H := kp h
 have Hk := kp hk
 generalize RetB (fun _ => True) w = Q at *
 clear h hk
 obtain ⟨n, hn'⟩ : ∃ n, l.length = n := ⟨_, rfl⟩
 have Hn := kp hn'
 rw [hn'] at hn ⊢
 clear hn'
 go_enter Tryz.func25, Tryz.ntmps25
 go_wp2_with fail
 go_loopw [5, 6] (fun v5 v6 wr => ∃ (k : Nat) (x : Int), k ≤ n ∧ v5 = .int .i64 x ∧ v6 = .int .i64 (k : Nat) ∧ wr = w) (fun _ v6 _ => n - (intOf v6).toNat)
 case atStart => exact ⟨0, 0, Nat.zero_le _, rfl, rfl, rfl⟩
 case round =>
  obtain ⟨k, x, hk, rfl, rfl, rfl⟩ := hrel
  by_cases hlt : k < n
  ·have hkl : k < l.length := by rw [Hn.out]; exact hlt
   obtain ⟨b, off, hA, hb, c0, crest⟩ := FasAt.cells H.out k hkl
   have hkk := Hk.out _ (List.getElem_mem hkl)
   clear crest
   generalize (l[k]'hkl).keys.length = kl at *
   generalize (l[k]'hkl).A = kA at *
   generalize (l[k]'hkl).c = kc at *
   have hi0 : (0 : Int) ≤ (k : Int) := by omega
   have hi1 : (k : Int) < (n : Int) := by omega
   have q1 : decide ((k : Int) < (n : Int)) = true := decide_eq_true hi1
   rw [hA]
   by_cases hmo : k ≤ most
   ·have q2 : (k : Int) ≤ (most : Int) := by omega
    have q2d : decide ((k : Int) ≤ (most : Int)) = true := decide_eq_true q2
    have q2n : decide (k ≤ most) = true := decide_eq_true hmo
    go_wp2_with fail
    all_goals exact ⟨⟨k + 1, _, by omega, rfl, by go_num, trivial⟩, by simp [intOf]; omega⟩
   ·have q2 : ¬ (k : Int) ≤ (most : Int) := by omega
    have q2d : decide ((k : Int) ≤ (most : Int)) = false := decide_eq_false q2
    have q2n : decide (k ≤ most) = false := decide_eq_false hmo
    go_wp2_with fail
    all_goals exact HR.out _ _ (Below.refl _ _)
  ·obtain rfl : k = n := by omega
   go_wp2_with fail
   all_goals exact HR.out _ _ (Below.refl _ _)
def WideF (a : Ag) : Prop := a.c ≤ 1000000000 ∧ ∀ i, i < 3 → -1000000000000 ≤ ps a i ∧ ps a i ≤ 1000000000000
set_option maxRecDepth 100000 in
set_option maxHeartbeats 4000000 in
theorem wide_any (A : Option Addr) (l : List Fa) (c : Nat) (w : World) (h : FasAt w w.heap.size A l) (hn : l.length ≤ 1000000) (hk : ∀ f ∈ l, f.keys.length ≤ 1000000) : Calls Tryz.prog 9 #[.slice A l.length c] w (RetB (fun r => r = true → ∀ f ∈ l, WideF f.ag) w) := by
 have HR := kp (fun r w' h hb => RetB.mono (P := fun r => r = true → ∀ f ∈ l, WideF f.ag) (w := w) (r := r) (w' := w') h hb)
 have H := kp h
 have HFw := kp (fun W (hW : Below w.heap.size w W) => r19few_any A l c 1000 W ((h.below hW).more hW.size) hn (by omega) hk)
 generalize RetB (fun r => r = true → ∀ f ∈ l, WideF f.ag) w = Q at *
 clear h hk
 obtain ⟨n, hn'⟩ : ∃ n, l.length = n := ⟨_, rfl⟩
 have Hn := kp hn'
 rw [hn'] at hn HFw ⊢
 clear hn'
 go_enter Tryz.func9, Tryz.ntmps9
 go_wp2_with fail
 go_loopw [8] (fun v8 wr => ∃ (k : Nat), k ≤ n ∧ v8 = .int .i64 (k : Nat) ∧ (∀ (i : Nat) (hi : i < l.length), i < k → WideF l[i].ag) ∧ Below w.heap.size w wr) (fun v8 _ => n - (intOf v8).toNat)
 case atStart => exact ⟨0, Nat.zero_le _, rfl, fun i hi h => by omega, Below.refl _ _⟩
 case round =>
  obtain ⟨k, hk, rfl, hwd, hbe⟩ := hrel
  have Hwd := kp hwd
  have Hbe := kp hbe
  clear hwd hbe
  by_cases hlt : k < n
  ·have hkl : k < l.length := by rw [Hn.out]; exact hlt
   obtain ⟨b, off, hA, hb, c0, c1, c2, c3, c4, c5, c6, c7, c8, c9, c10⟩ := FasAt.cells ((H.out.below Hbe.out).more Hbe.out.size) k hkl
   have Hnx := kp (show WideF (l[k]'hkl).ag → ∀ (i : Nat) (hi : i < l.length), i < k + 1 → WideF l[i].ag from fun hw i hi hik => by
    rcases Nat.lt_succ_iff_lt_or_eq.1 hik with h1 | rfl
    ·exact Hwd.out i hi h1
    ·exact hw)
   generalize (l[k]'hkl) = f at *
   obtain ⟨fA, fkeys, fc, ag⟩ := f
   have hb3 := (Below.refl wr.heap.size wr).alloc (Nat.le_refl _) (.cells (factC ⟨fA, fkeys, fc, ag⟩) 78)
   have HB3 := kp (Box.new wr 78 (factC ⟨fA, fkeys, fc, ag⟩))
   have Hb3 := kp (Hbe.out.trans (hb3.mono Hbe.out.size))
   clear hb3
   dsimp only [factC] at HB3 Hb3 c0 c1 c2 c3 c4 c5 c6 c7 c8 c9 c10 Hnx
   have hi0 : (0 : Int) ≤ (k : Int) := by omega
   have hi1 : (k : Int) < (n : Int) := by omega
   have HP := kp (show ∀ i, i < 3 → ∃ x, x = ps ag i ∧ (wr.alloc (.cells #[.slice fA fkeys.length fc, .int .i64 ag.c, .int .i64 ag.s0, .int .i64 ag.n0, .int .i64 ag.x0, .int .i64 ag.s1, .int .i64 ag.n1, .int .i64 ag.x1, .int .i64 ag.s2, .int .i64 ag.n2, .int .i64 ag.x2] 78)).cell? ⟨wr.heap.size, 2 + i * 3, none⟩ = some (.int .i64 x) from fun i hi => by
    match i, hi with
    | 0, _ => exact ⟨_, rfl, HB3.out.cell 2⟩
    | 1, _ => exact ⟨_, rfl, HB3.out.cell 5⟩
    | 2, _ => exact ⟨_, rfl, HB3.out.cell 8⟩)
   generalize hW3 : wr.alloc (.cells #[.slice fA fkeys.length fc, .int .i64 ag.c, .int .i64 ag.s0, .int .i64 ag.n0, .int .i64 ag.x0, .int .i64 ag.s1, .int .i64 ag.n1, .int .i64 ag.x1, .int .i64 ag.s2, .int .i64 ag.n2, .int .i64 ag.x2] 78) = W3 at *
   have y1 : W3.cell? ⟨wr.heap.size, 1, none⟩ = some (.int .i64 ag.c) := HB3.out.cell 1
   rw [hA]
   by_cases hc9 : 1000000000 < ag.c
   ·have q1 : decide (1000000000 < ag.c) = true := decide_eq_true hc9
    go_wp2_with fail
    exact HR.out false _ (fun h => by cases h) Hb3.out
   ·have q1 : decide (1000000000 < ag.c) = false := decide_eq_false hc9
    have Hc9 := kp (show ag.c ≤ 1000000000 by omega)
    clear hc9
    go_wp2_with fail
    clear hW3 c0 c1 c2 c3 c4 c5 c6 c7 c8 c9 c10
    go_loopw [16] (fun v16 wj => ∃ (j : Nat), j ≤ 3 ∧ v16 = .int .i64 (j : Nat) ∧ (∀ i, i < j → -1000000000000 ≤ ps ag i ∧ ps ag i ≤ 1000000000000) ∧ wj = W3) (fun v16 _ => 3 - (intOf v16).toNat)
    case atStart => exact ⟨0, Nat.zero_le _, rfl, fun i hi => by omega, rfl⟩
    case round =>
     obtain ⟨j, hj, rfl, hps, rfl⟩ := hrel
     have Hps := kp hps
     clear hps
     by_cases hj3 : j < 3
     ·obtain ⟨x, hx, hcx⟩ := HP.out j hj3
      have Hpn := kp (show (-1000000000000 ≤ x ∧ x ≤ 1000000000000) → ∀ i, i < j + 1 → -1000000000000 ≤ ps ag i ∧ ps ag i ≤ 1000000000000 from fun h i hi => by
       rcases Nat.lt_succ_iff_lt_or_eq.1 hi with h1 | rfl
       ·exact Hps.out i h1
       ·rw [← hx]; exact h)
      clear hx
      have j0 : (0 : Int) ≤ (j : Int) := by omega
      have j1 : (j : Int) < 3 := by omega
      by_cases hx1 : 1000000000000 < x
      ·have q2 : decide (1000000000000 < x) = true := decide_eq_true hx1
       go_wp2_with fail
       exact HR.out false _ (fun h => by cases h) Hb3.out
      ·have q2 : decide (1000000000000 < x) = false := decide_eq_false hx1
       by_cases hx2 : x < -1000000000000
       ·have q3 : decide (x < -1000000000000) = true := decide_eq_true hx2
        go_wp2_with fail
        exact HR.out false _ (fun h => by cases h) Hb3.out
       ·have q3 : decide (x < -1000000000000) = false := decide_eq_false hx2
        have Hpn2 := kp (Hpn.out ⟨by omega, by omega⟩)
        clear hx1 hx2
        go_wp2_with fail
        exact ⟨⟨j + 1, by omega, by go_num, Hpn2.out, trivial⟩, by simp [intOf]; omega⟩
     ·obtain rfl : j = 3 := by omega
      have Hn2 := kp (Hnx.out ⟨Hc9.out, Hps.out⟩)
      go_wp2_with fail
      exact ⟨⟨k + 1, by omega, by go_num, Hn2.out, Hb3.out⟩, by simp [intOf]; omega⟩
  ·obtain rfl : k = n := by omega
   have HF1 := kp (HFw.out wr Hbe.out)
   have Hall := kp (show ∀ f ∈ l, WideF f.ag from fun f hf => by
    obtain ⟨i, hi, rfl⟩ := List.getElem_of_mem hf
    exact Hwd.out i hi (by have := Hn.out; omega))
   by_cases h1000 : k ≤ 1000
   ·have q1 : (k : Int) ≤ 1000 := by omega
    have q1d : decide ((k : Int) ≤ 1000) = true := decide_eq_true q1
    have q1n : decide (k ≤ 1000) = true := decide_eq_true h1000
    go_wp2_with fail
    refine HF1.out.mono ?_
    rintro e w2 ⟨r, rfl, _, hb2⟩
    have Hf := kp (HR.out r w2 (fun _ => Hall.out) (Hbe.out.trans (hb2.mono Hbe.out.size)))
    go_wp2_with fail
    exact Hf.out
   ·have q1 : ¬ (k : Int) ≤ 1000 := by omega
    have q1d : decide ((k : Int) ≤ 1000) = false := decide_eq_false q1
    have q1n : decide (k ≤ 1000) = false := decide_eq_false h1000
    have Hf := kp (HR.out false wr (fun h => by cases h) Hbe.out)
    go_wp2_with fail
    exact Hf.out
end Go.Proofs.YthmbgbmcdbdecaaGreat.Tc
