/- Parts of a proof: A schema and facts that rise: a cube may be built of them. What folding does to facts: each tuple once, and every sum as it was. Rows taken in, in plain words. -/
import Derived.Test.YthmbgbmcdbdecaaGreatG35
import Derived.Test.YthmbgbmcdbdecaaGreatG45
namespace Go.Proofs.YthmbgbmcdbdecaaGreat.Tc
open Go.RowKit Base
set_option linter.unusedVariables false
set_option linter.unusedSimpArgs false
theorem join_bnd2 {j k : Nat} {a b : Ag} (ha : BndA j a) (hb : BndA k b) (hj : j + k ≤ 5000) : sumsFit a b ∧ ∃ r, joinA a b = some r ∧ BndA (j + k) r := by
 have ea : ((j + k : Nat) : Int) * 1000000000 = (j : Int) * 1000000000 + (k : Int) * 1000000000 := by rw [Int.natCast_add, Int.add_mul]
 have eb : ((j + k : Nat) : Int) * 1000000000000 = (j : Int) * 1000000000000 + (k : Int) * 1000000000000 := by rw [Int.natCast_add, Int.add_mul]
 have hb' := bnd_more hb (Nat.le_add_left k j)
 have ha' := bnd_more ha (Nat.le_add_right j k)
 obtain ⟨h0, h1, ⟨h2, h3⟩, ⟨h4, h5⟩, ⟨h6, h7⟩, h8⟩ := ha
 obtain ⟨k0, k1, ⟨k2, k3⟩, ⟨k4, k5⟩, ⟨k6, k7⟩, k8⟩ := hb
 have e1 : ((j + k : Nat) : Int) * 1000000000 ≤ 5000 * 1000000000 := Int.mul_le_mul_of_nonneg_right (by omega) (by decide)
 have e2 : ((j + k : Nat) : Int) * 1000000000000 ≤ 5000 * 1000000000000 := Int.mul_le_mul_of_nonneg_right (by omega) (by decide)
 rw [ea] at e1
 rw [eb] at e2
 have hf : sumsFit a b := by
  refine ⟨⟨?_, ?_⟩, ⟨?_, ?_⟩, ⟨?_, ?_⟩, ⟨?_, ?_⟩⟩ <;> omega
 refine ⟨hf, ?_⟩
 unfold joinA
 rw [if_pos hf]
 split
 ·exact ⟨b, rfl, hb'⟩
 ·split
  ·exact ⟨a, rfl, ha'⟩
  ·refine ⟨_, rfl, ⟨?_, ?_, ⟨?_, ?_⟩, ⟨?_, ?_⟩, ⟨?_, ?_⟩, joinA_fit h8 k8 (show joinA a b = some (addAg a b) by unfold joinA; rw [if_neg (by assumption), if_neg (by assumption), if_pos hf])⟩⟩
   ·show 0 ≤ a.c + b.c; omega
   ·show a.c + b.c ≤ _; rw [ea]; omega
   ·show _ ≤ a.s0 + b.s0; rw [eb]; omega
   ·show a.s0 + b.s0 ≤ _; rw [eb]; omega
   ·show _ ≤ a.s1 + b.s1; rw [eb]; omega
   ·show a.s1 + b.s1 ≤ _; rw [eb]; omega
   ·show _ ≤ a.s2 + b.s2; rw [eb]; omega
   ·show a.s2 + b.s2 ≤ _; rw [eb]; omega
theorem joinA_ok {m : Nat} {a b r : Ag} (ha : AgOk m a ∨ a = agZero) (hb : AgOk m b) (h : joinA a b = some r) : AgOk m r := by
 unfold joinA at h
 split at h
 ·injection h with h; subst h; exact hb
 ·rename_i h0
  split at h
  ·rename_i h1; have := hb.c; omega
  ·split at h
   ·injection h with h
    subst h
    rcases ha with ha | ha
    ·have hc : 2 ≤ (addAg a b).c := by show 2 ≤ a.c + b.c; have := ha.c; have := hb.c; omega
     refine ⟨by omega, fun k hk hm => ?_, fun k hk hm h => by omega, fun k hk hm => ?_⟩
     ·have h1 := ha.le k hk hm
      have h2 := hb.le k hk hm
      match k, hk with
      | 0, _ => show min a.n0 b.n0 ≤ max a.x0 b.x0; simp only [pn, px] at h1 h2; omega
      | 1, _ => show min a.n1 b.n1 ≤ max a.x1 b.x1; simp only [pn, px] at h1 h2; omega
      | 2, _ => show min a.n2 b.n2 ≤ max a.x2 b.x2; simp only [pn, px] at h1 h2; omega
     ·have h1 := ha.none k hk hm
      have h2 := hb.none k hk hm
      match k, hk with
      | 0, _ => simp only [pn, px, ps] at h1 h2; exact ⟨show a.s0 + b.s0 = 0 by omega, show min a.n0 b.n0 = 0 by omega, show max a.x0 b.x0 = 0 by omega⟩
      | 1, _ => simp only [pn, px, ps] at h1 h2; exact ⟨show a.s1 + b.s1 = 0 by omega, show min a.n1 b.n1 = 0 by omega, show max a.x1 b.x1 = 0 by omega⟩
      | 2, _ => simp only [pn, px, ps] at h1 h2; exact ⟨show a.s2 + b.s2 = 0 by omega, show min a.n2 b.n2 = 0 by omega, show max a.x2 b.x2 = 0 by omega⟩
    ·subst ha; exact absurd rfl h0
   ·cases h
theorem joinAll_ok {m k : Nat} : ∀ (l : List Ag) (o : Ag) (j : Nat), BndA j o → (AgOk m o ∨ o = agZero) → (∀ a ∈ l, BndA k a ∧ AgOk m a) → j + k * l.length ≤ 5000 → ∃ r, joinAll o l = some r ∧ BndA (j + k * l.length) r ∧ (AgOk m r ∨ (r = agZero ∧ l = []))
 | [], o, j, h, ho, _, _ => ⟨o, rfl, by simpa using h, ho.elim .inl (fun e => .inr ⟨e, rfl⟩)⟩
 | a :: l, o, j, h, ho, hl, hn => by
  rw [List.length_cons] at hn ⊢
  have e : k * (l.length + 1) = k * l.length + k := Nat.mul_succ k l.length
  obtain ⟨_, r, hr, hb⟩ := join_bnd2 h (hl a List.mem_cons_self).1 (by omega)
  have hok := joinA_ok ho (hl a List.mem_cons_self).2 hr
  obtain ⟨r2, h2, hb2, h3⟩ := joinAll_ok l r (j + k) hb (.inl hok) (fun x hx => hl x (List.mem_cons_of_mem _ hx)) (by omega)
  refine ⟨r2, ?_, by rw [show j + k * (l.length + 1) = j + k + k * l.length by omega]; exact hb2, ?_⟩
  ·unfold joinAll
   rw [hr]
   exact h2
  ·rcases h3 with h3 | ⟨h3, h4⟩
   ·exact .inl h3
   ·subst h4
    injection h2 with h2
    exact .inl (h2 ▸ hok)
structure FactsOk (s : Sch) (fs : List Fa) : Prop where
 len : fs.length ≤ 64
 keys : ∀ f ∈ fs, KeyOk s f.keys
 ag : ∀ f ∈ fs, BndA 64 f.ag ∧ AgOk s.meas.length f.ag
 rise : Rises fs
theorem sizes_len (d : Dim) : (sizesN d).length = d.tiers.length := by unfold sizesN; rw [List.length_map]
theorem sizes_get (d : Dim) (j : Nat) (h : j < (sizesN d).length) : (sizesN d)[j] = (d.tiers[j]'(by rw [← sizes_len]; exact h)).terms.length := by simp [sizesN]
theorem sizes_at {d : Dim} {j y : Nat} (h : (sizesN d)[j]? = some y) : ∃ hj : j < d.tiers.length, y = (d.tiers[j]'hj).terms.length := by
 obtain ⟨h1, h2⟩ := List.getElem?_eq_some_iff.1 h
 exact ⟨by rw [← sizes_len]; exact h1, by rw [← h2, sizes_get]⟩
theorem sizes_fall {d : Dim} (h : DimOk d) : SzOk (sizesN d) := by
 have hl := sizes_len d
 refine ⟨by rw [hl]; exact h.n1, by rw [hl]; exact h.n2, fun j hj => ?_, fun j hj => ?_⟩
 ·have h1 := h.tiers j (by rw [← hl]; exact hj)
  rw [sizes_get]
  exact ⟨h1.n1, h1.n2⟩
 ·have hj1 : j + 1 < d.tiers.length := by rw [← hl]; exact hj
  obtain ⟨e, hu⟩ := up_ok h hj1
  rw [sizes_get, sizes_get, ← e]
  have ht := (h.tiers j (by omega)).tree
  have ha : aboveI d j = ((d.tiers[j + 1]'hj1).terms.length : Nat) := by unfold aboveI; rw [List.getElem?_eq_getElem hj1]
  have hsub := nodup_sub_len (List.range (d.tiers[j + 1]'hj1).terms.length) ((d.tiers[j]'(by omega)).up.map Int.toNat) List.nodup_range (fun i hi => by
   refine List.mem_map.2 ⟨(i : Int), ht.all i (by rw [ha]; have := List.mem_range.1 hi; omega), by simp⟩)
  rw [List.length_map, List.length_range] at hsub
  exact hsub
theorem lifts_at {d : Dim} {k : Nat} {l : List Nat} (h : (liftsN d)[k]? = some l) : k < d.tiers.length ∧ l = mapN d k := by
 unfold liftsN at h
 rw [List.getElem?_map] at h
 obtain ⟨q, hq, e⟩ := Option.map_eq_some_iff.1 h
 obtain ⟨h1, h2⟩ := List.getElem?_eq_some_iff.1 hq
 rw [List.getElem_range] at h2
 rw [List.length_range] at h1
 exact ⟨h1, by rw [← e, ← h2]⟩
theorem mapN_at {d : Dim} {k q z : Nat} (h : (mapN d k)[q]? = some z) : q < (fin d).length ∧ z = liftN d k q := by
 unfold mapN at h
 rw [List.getElem?_map] at h
 obtain ⟨x, hx, e⟩ := Option.map_eq_some_iff.1 h
 obtain ⟨h1, h2⟩ := List.getElem?_eq_some_iff.1 hx
 rw [List.getElem_range] at h2
 rw [List.length_range] at h1
 exact ⟨h1, by rw [← e, ← h2]⟩
theorem mapN_get (d : Dim) (k : Nat) {q : Nat} (h : q < (fin d).length) : (mapN d k)[q]? = some (liftN d k q) := by
 unfold mapN
 rw [List.getElem?_map, List.getElem?_range h]
 rfl
theorem dim_at {s : Sch} (hs : SchOk s) {a : Nat} {d : Dim} (h : s.dims[a]? = some d) : DimOk d := by
 obtain ⟨h1, h2⟩ := List.getElem?_eq_some_iff.1 h
 rw [← h2]
 exact hs.dims a h1
theorem fin_len {d : Dim} (h : DimOk d) : (fin d).length = (d.tiers[0]'h.n1).terms.length := by rw [fin_at h.n1]
theorem build_ok {s : Sch} (hs : SchOk s) {fs : List Fa} (h : FactsOk s fs) {most : Nat} (hm : most ≤ 131072) : BuildOk s fs most := by
 have hX : (s.dims.map sizesN).length = s.dims.length := by rw [List.length_map]
 have hpl : (pls fs).length = fs.length := by unfold pls; rw [List.length_map]
 have key : ∀ xs : List Fa, xs.map Fa.keys = s.dims.map sizesN → xs.length = s.dims.length ∧ ∀ (i : Nat) (h1 : i < xs.length) (h2 : i < s.dims.length), xs[i].keys = sizesN s.dims[i] := fun xs hx => by
  have h0 := congrArg List.length hx
  rw [List.length_map, List.length_map] at h0
  refine ⟨h0, fun i h1 h2 => ?_⟩
  have h3 : (xs.map Fa.keys)[i]? = (s.dims.map sizesN)[i]? := by rw [hx]
  rw [List.getElem?_map, List.getElem?_map, List.getElem?_eq_getElem h1, List.getElem?_eq_getElem h2] at h3
  injection h3
 refine ⟨hs, ?_, fun xs hx f hf => ?_, fun xs hx => ?_, h.rise, fun f hf => (h.ag f hf).1.fit, hm⟩
 ·refine ⟨by rw [hX]; exact hs.n1, by rw [hX]; exact hs.n2, by rw [List.length_map, List.length_map], hs.m1, hs.m2, by rw [hpl]; have := h.len; omega, ?_, ?_, ?_, ?_, ?_, ?_⟩
  ·intro a ls x h1 h2
   rw [List.getElem?_map] at h1 h2
   obtain ⟨d, hd, rfl⟩ := Option.map_eq_some_iff.1 h1
   rw [hd] at h2
   injection h2 with h2
   subst h2
   have ho := dim_at hs hd
   have e : (liftsN d).length = d.tiers.length := by unfold liftsN; rw [List.length_map, List.length_range]
   rw [e, sizes_len]
   exact ⟨rfl, ho.n1, ho.n2⟩
  ·intro a x h2 y hy
   rw [List.getElem?_map] at h2
   obtain ⟨d, hd, rfl⟩ := Option.map_eq_some_iff.1 h2
   obtain ⟨j, hj, rfl⟩ := List.getElem_of_mem hy
   exact ((sizes_fall (dim_at hs hd)).each j hj).2
  ·intro a ls x k l y y0 h1 h2 h3 h4 h5
   rw [List.getElem?_map] at h1 h2
   obtain ⟨d, hd, rfl⟩ := Option.map_eq_some_iff.1 h1
   rw [hd] at h2
   injection h2 with h2
   subst h2
   have ho := dim_at hs hd
   obtain ⟨hk, rfl⟩ := lifts_at h3
   obtain ⟨hk', rfl⟩ := sizes_at h4
   obtain ⟨h0', rfl⟩ := sizes_at h5
   have hfl := fin_len ho
   have hn2 := (ho.tiers 0 h0').n2
   refine ⟨by unfold mapN; rw [List.length_map, List.length_range]; omega, fun q hq => ⟨_, mapN_get d k (by omega), lift_lt ho hk' hq⟩⟩
  ·intro i p hp
   unfold pls at hp
   rw [List.getElem?_map] at hp
   obtain ⟨f, hf, rfl⟩ := Option.map_eq_some_iff.1 hp
   have hk := h.keys f (List.mem_of_getElem? hf)
   refine ⟨by rw [hX]; exact hk.len, fun a q x hq hx => ?_⟩
   rw [List.getElem?_map] at hx
   obtain ⟨d, hd, rfl⟩ := Option.map_eq_some_iff.1 hx
   obtain ⟨hd1, hd2⟩ := List.getElem?_eq_some_iff.1 hd
   obtain ⟨hq1, hq2⟩ := List.getElem?_eq_some_iff.1 hq
   have ho := dim_at hs hd
   have h1 := hk.each a hd1 hq1 (by rw [hd2]; exact ho.n1)
   refine ⟨(d.tiers[0]'ho.n1).terms.length, by rw [List.getElem?_eq_getElem (by rw [sizes_len]; exact ho.n1), sizes_get], ?_⟩
   have hq2' : f.keys[a] = q := hq2
   rw [← hq2']
   subst hd2
   exact h1
  ·intro a ls k l l' q q' z h1 h2 h3 h4 h5
   rw [List.getElem?_map] at h1
   obtain ⟨d, hd, rfl⟩ := Option.map_eq_some_iff.1 h1
   obtain ⟨hk, rfl⟩ := lifts_at h2
   obtain ⟨hk', rfl⟩ := lifts_at h3
   obtain ⟨hq, e⟩ := mapN_at h4
   obtain ⟨hq', e'⟩ := mapN_at h5
   rw [mapN_get d (k + 1) hq, mapN_get d (k + 1) hq']
   unfold liftN
   rw [← e, ← e']
  ·intro part hp
   have hlen : part.length ≤ fs.length := by
    have := nodup_sub_len part (List.range (pls fs).length) hp.nd (fun i hi => List.mem_range.2 (hp.lt i hi))
    rw [List.length_range, hpl] at this
    exact this
   have h64 := h.len
   obtain ⟨r, h1, h2, h3⟩ := joinAll_ok (m := s.meas.length) (k := 64) (part.map (agF (pls fs))) agZero 0 bnd_zero (.inr rfl) (fun a ha => by
    obtain ⟨i, hi, rfl⟩ := List.mem_map.1 ha
    have hi' : i < fs.length := by have := hp.lt i hi; rw [hpl] at this; exact this
    rw [agF_fa (List.getElem?_eq_getElem hi')]
    exact h.ag _ (List.getElem_mem hi')) (by rw [List.length_map]; omega)
   refine ⟨r, h1, h3.resolve_right (fun ⟨_, e⟩ => hp.ne (List.map_eq_nil_iff.1 e))⟩
 ·obtain ⟨h0, h1⟩ := key xs hx
  have hk := h.keys f hf
  refine ⟨by rw [h0]; exact hk.len, fun i hi hi' => ?_, (h.ag f hf).2⟩
  have hid : i < s.dims.length := by rw [← h0]; exact hi'
  have ho := hs.dims i hid
  have e := h1 i hi' hid
  refine ⟨by rw [e, sizes_len]; exact ho.n1, ?_⟩
  have h2 := hk.each i hid hi ho.n1
  have h3 : (xs[i].keys)[0]? = some ((s.dims[i]'hid).tiers[0]'ho.n1).terms.length := by rw [e, List.getElem?_eq_getElem (by rw [sizes_len]; exact ho.n1), sizes_get]
  rw [(List.getElem?_eq_some_iff.1 h3).2]
  exact h2
 ·obtain ⟨h0, h1⟩ := key xs hx
  refine ⟨by rw [h0]; exact hs.n1, by rw [h0]; exact hs.n2, hs.m1, hs.m2, fun x hx' => ?_⟩
  obtain ⟨i, hi, rfl⟩ := List.getElem_of_mem hx'
  rw [h1 i hi (by rw [← h0]; exact hi)]
  exact sizes_fall (hs.dims i (by rw [← h0]; exact hi))
structure GA (m k : Nat) (a : Ag) : Prop where
 b : BndA k a
 ok : AgOk m a
theorem GA.c {m k : Nat} {a : Ag} (h : GA m k a) : a.c ≠ 0 := by have := h.ok.c; omega
theorem GA.more {m j k : Nat} {a : Ag} (h : GA m j a) (hk : j ≤ k) : GA m k a := ⟨bnd_more h.b hk, h.ok⟩
theorem join_some {m j k : Nat} {a b : Ag} (ha : BndA j a) (hoa : AgOk m a ∨ a = agZero) (hb : GA m k b) (h : j + k ≤ 5000) : ∃ r, joinA a b = some r ∧ GA m (j + k) r := by
 obtain ⟨_, r, h1, h2⟩ := join_bnd2 ha hb.b h
 exact ⟨r, h1, h2, joinA_ok hoa hb.ok h1⟩
theorem join_add {m j k : Nat} {a b : Ag} (ha : BndA j a) (h0 : a.c ≠ 0) (hb : GA m k b) (h : j + k ≤ 5000) : joinA a b = some (addAg a b) := by
 obtain ⟨hf, _⟩ := join_bnd2 ha hb.b h
 unfold joinA
 rw [if_neg h0, if_neg hb.c, if_pos hf]
theorem join_comm {m j k : Nat} {a b : Ag} (ha : GA m j a) (hb : GA m k b) (h : j + k ≤ 5000) : joinA a b = joinA b a := by
 rw [join_add ha.b ha.c hb h, join_add hb.b hb.c ha (by omega)]
 congr 1
 unfold addAg
 simp only [Ag.mk.injEq]
 refine ⟨?_, ?_, ?_, ?_, ?_, ?_, ?_, ?_, ?_, ?_⟩ <;> omega
theorem join_assoc {m j k l : Nat} {o a b : Ag} (ho : BndA j o) (hoo : AgOk m o ∨ o = agZero) (ha : GA m k a) (hb : GA m l b) (h : j + k + l ≤ 5000) : ((joinA o a).bind fun r => joinA r b) = (joinA a b).bind fun r => joinA o r := by
 obtain ⟨r, hr, hr2⟩ := join_some ha.b (.inl ha.ok) hb (by omega : k + l ≤ 5000)
 have e2 := join_add ha.b ha.c hb (by omega : k + l ≤ 5000)
 rw [e2]
 rw [hr] at e2
 injection e2 with e2
 by_cases h0 : o.c = 0
 ·have h1 : joinA o a = some a := if_pos h0
  have h2 : joinA o (addAg a b) = some (addAg a b) := if_pos h0
  rw [h1]
  show joinA a b = joinA o (addAg a b)
  rw [h2, ← e2, hr]
 ·have h1 := join_add ho h0 ha (by omega : j + k ≤ 5000)
  obtain ⟨r1, hr1, hr1'⟩ := join_some ho hoo ha (by omega : j + k ≤ 5000)
  rw [h1] at hr1
  injection hr1 with hr1
  rw [h1]
  show joinA (addAg o a) b = joinA o (addAg a b)
  rw [← hr1] at hr1'
  rw [e2] at hr2
  rw [join_add hr1'.b hr1'.c hb (by omega), join_add ho h0 hr2 (by omega)]
  congr 1
  unfold addAg
  simp only [Ag.mk.injEq]
  refine ⟨?_, ?_, ?_, ?_, ?_, ?_, ?_, ?_, ?_, ?_⟩ <;> omega
theorem joinAll_append : ∀ (l1 l2 : List Ag) (o : Ag), joinAll o (l1 ++ l2) = (joinAll o l1).bind fun r => joinAll r l2
 | [], l2, o => rfl
 | a :: l1, l2, o => by
  show (joinA o a).bind (fun j => joinAll j (l1 ++ l2)) = ((joinA o a).bind fun j => joinAll j l1).bind _
  cases joinA o a with
  | none => rfl
  | some j => exact joinAll_append l1 l2 j
theorem joinAll_two {m j k : Nat} {o a b : Ag} (l : List Ag) (ho : BndA j o) (hoo : AgOk m o ∨ o = agZero) (ha : GA m k a) (hb : GA m k b) (h : j + k + k ≤ 5000) : joinAll o (a :: b :: l) = joinAll o (b :: a :: l) := by
 have e : ∀ x y : Ag, joinAll o (x :: y :: l) = ((joinA o x).bind fun r => joinA r y).bind fun r => joinAll r l := fun x y => by
  show (joinA o x).bind (fun j => (joinA j y).bind fun j => joinAll j l) = _
  cases joinA o x with
  | none => rfl
  | some r => rfl
 rw [e, e, join_assoc ho hoo ha hb h, join_assoc ho hoo hb ha h, join_comm ha hb (by omega)]
theorem joinAll_perm {m k : Nat} {l1 l2 : List Ag} (hp : l1.Perm l2) : ∀ (o : Ag) (j : Nat), BndA j o → (AgOk m o ∨ o = agZero) → (∀ a ∈ l1, GA m k a) → j + k * l1.length ≤ 5000 → joinAll o l1 = joinAll o l2 := by
 induction hp with
 | nil => intro o j _ _ _ _; rfl
 | @cons a l1 l2 hp ih =>
  intro o j ho hoo hl hn
  rw [List.length_cons, Nat.mul_succ] at hn
  obtain ⟨r, h1, h2⟩ := join_some ho hoo (hl a List.mem_cons_self) (by omega)
  show (joinA o a).bind _ = (joinA o a).bind _
  rw [h1]
  exact ih r (j + k) h2.b (.inl h2.ok) (fun x hx => hl x (List.mem_cons_of_mem _ hx)) (by omega)
 | swap a b l =>
  intro o j ho hoo hl hn
  rw [List.length_cons, List.length_cons, Nat.mul_succ, Nat.mul_succ] at hn
  exact joinAll_two l ho hoo (hl b List.mem_cons_self) (hl a (List.mem_cons_of_mem _ List.mem_cons_self)) (by omega)
 | @trans l1 l2 l3 h1 h2 ih1 ih2 =>
  intro o j ho hoo hl hn
  rw [ih1 o j ho hoo hl hn]
  exact ih2 o j ho hoo (fun a ha => hl a (h1.mem_iff.2 ha)) (by rw [← h1.length_eq]; exact hn)
def sumK (K : List Nat → Bool) (l : List (List Nat × Ag)) : Option Ag := joinAll agZero ((l.filter fun x => K x.1).map Prod.snd)
structure FdI (m k n : Nat) (out l : List (List Nat × Ag)) : Prop where
 tot : k + l.length ≤ n
 olen : out.length ≤ k
 oga : ∀ x ∈ out, GA m k x.2
 lga : ∀ x ∈ l, GA m 1 x.2
 up : out.Pairwise fun a b => cmpN a.1 b.1 < 0
 srt : l.Pairwise fun a b => cmpN a.1 b.1 ≤ 0
 ends : ∀ x ∈ out, ∀ y ∈ l, cmpN x.1 y.1 ≤ 0
theorem getLast_snoc {α : Type} {l : List α} {x : α} (h : l.getLast? = some x) : l = l.dropLast ++ [x] := by
 obtain ⟨ys, rfl⟩ := List.getLast?_eq_some_iff.1 h
 simp
theorem sumK_app (K : List Nat → Bool) (A B : List (List Nat × Ag)) : sumK K (A ++ B) = (sumK K A).bind fun r => joinAll r ((B.filter fun x => K x.1).map Prod.snd) := by
 unfold sumK
 rw [List.filter_append, List.map_append, joinAll_append]
theorem sumK_some {m k : Nat} (K : List Nat → Bool) (A : List (List Nat × Ag)) (h : ∀ x ∈ A, GA m k x.2) (hn : k * A.length ≤ 5000) : ∃ r, sumK K A = some r ∧ BndA (k * A.length) r ∧ (AgOk m r ∨ r = agZero) := by
 have hle : (A.filter fun x => K x.1).length ≤ A.length := List.length_filter_le _ _
 have hm : k * (A.filter fun x => K x.1).length ≤ k * A.length := Nat.mul_le_mul_left _ hle
 obtain ⟨r, h1, h2, h3⟩ := joinAll_ok (m := m) (k := k) ((A.filter fun x => K x.1).map Prod.snd) agZero 0 bnd_zero (.inr rfl) (fun a ha => by
  obtain ⟨x, hx, rfl⟩ := List.mem_map.1 ha
  have := h x (List.mem_filter.1 hx).1
  exact ⟨this.b, this.ok⟩) (by rw [List.length_map]; omega)
 refine ⟨r, h1, bnd_more h2 (by rw [List.length_map]; omega), h3.elim .inl (fun e => .inr e.1)⟩
theorem fold_step {m k n : Nat} {out l : List (List Nat × Ag)} {p : List Nat × Ag} (hn : n ≤ 64) (h : FdI m k n out (p :: l)) : ∃ o, foldStep out p = some o ∧ FdI m (k + 1) n o l ∧ (∀ K, sumK K (o ++ l) = sumK K (out ++ p :: l)) ∧ ∀ key, (∃ x ∈ o, x.1 = key) ↔ ((∃ x ∈ out, x.1 = key) ∨ p.1 = key) := by
 have htot := h.tot
 rw [List.length_cons] at htot
 have holen := h.olen
 have hp := h.lga p List.mem_cons_self
 have hl := fun x hx => h.lga x (List.mem_cons_of_mem _ hx)
 obtain ⟨hs1, hs2⟩ := List.pairwise_cons.1 h.srt
 unfold foldStep
 cases hlast : out.getLast? with
 | none =>
  have he : out = [] := List.getLast?_eq_none_iff.1 hlast
  subst he
  refine ⟨[p], rfl, ⟨by omega, by simp, fun x hx => by rw [List.mem_singleton.1 hx]; exact hp.more (by omega), hl, List.pairwise_singleton _ _, hs2, fun x hx y hy => by rw [List.mem_singleton.1 hx]; exact hs1 y hy⟩, fun K => rfl, fun key => by simp⟩
 | some q =>
  have hq := getLast_snoc hlast
  generalize out.dropLast = A at *
  subst hq
  have hqm : q ∈ A ++ [q] := List.mem_append_right _ List.mem_cons_self
  have hqg := h.oga q hqm
  have hcmp := h.ends q hqm p List.mem_cons_self
  rw [List.length_append] at holen
  simp only [List.length_cons, List.length_nil] at holen
  dsimp only
  by_cases he : cmpN q.1 p.1 = 0
  ·rw [if_pos he]
   have hk := cmpN_eq he
   obtain ⟨j, hj, hjg⟩ := join_some hqg.b (.inl hqg.ok) hp (by omega : k + 1 ≤ 5000)
   rw [hj]
   have hA : ∀ x ∈ A, GA m (k + 1) x.2 := fun x hx => (h.oga x (List.mem_append_left _ hx)).more (by omega)
   obtain ⟨u1, u2, u3⟩ := List.pairwise_append.1 h.up
   refine ⟨A ++ [(q.1, j)], rfl, ⟨by omega, by simp; omega, fun x hx => ?_, hl, ?_, hs2, fun x hx y hy => ?_⟩, fun K => ?_, fun key => ?_⟩
   ·rcases List.mem_append.1 hx with hx | hx
    ·exact hA x hx
    ·rw [List.mem_singleton.1 hx]; exact hjg
   ·refine List.pairwise_append.2 ⟨u1, List.pairwise_singleton _ _, fun x hx y hy => ?_⟩
    rw [List.mem_singleton.1 hy]
    exact u3 x hx q List.mem_cons_self
   ·rcases List.mem_append.1 hx with hx | hx
    ·exact h.ends x (List.mem_append_left _ hx) y (List.mem_cons_of_mem _ hy)
    ·rw [List.mem_singleton.1 hx]; exact h.ends q hqm y (List.mem_cons_of_mem _ hy)
   ·rw [List.append_assoc, List.append_assoc, sumK_app, sumK_app]
    have hAl : k * A.length ≤ 64 * 64 := Nat.mul_le_mul (by omega) (by omega)
    obtain ⟨r, hr, hrb, hro⟩ := sumK_some (m := m) (k := k) K A (fun x hx => h.oga x (List.mem_append_left _ hx)) (by omega)
    rw [hr]
    show joinAll r _ = joinAll r _
    simp only [List.cons_append, List.nil_append, List.filter_cons]
    rw [← hk]
    by_cases hK : K q.1 = true
    ·rw [if_pos hK, if_pos hK, if_pos hK]
     simp only [List.map_cons]
     have e := join_assoc hrb hro hqg hp (by omega)
     rw [hj] at e
     show (joinA r j).bind _ = (joinA r q.2).bind fun x => (joinA x p.2).bind _
     have e' : joinA r j = (joinA r q.2).bind fun x => joinA x p.2 := e.symm
     rw [e']
     cases joinA r q.2 with
     | none => rfl
     | some x => rfl
    ·rw [if_neg hK, if_neg hK, if_neg hK]
   ·constructor
    ·rintro ⟨x, hx, rfl⟩
     rcases List.mem_append.1 hx with hx | hx
     ·exact .inl ⟨x, List.mem_append_left _ hx, rfl⟩
     ·rw [List.mem_singleton.1 hx]; exact .inl ⟨q, hqm, rfl⟩
    ·rintro (⟨x, hx, rfl⟩ | rfl)
     ·rcases List.mem_append.1 hx with hx | hx
      ·exact ⟨x, List.mem_append_left _ hx, rfl⟩
      ·rw [List.mem_singleton.1 hx]; exact ⟨_, List.mem_append_right _ List.mem_cons_self, rfl⟩
     ·exact ⟨_, List.mem_append_right _ List.mem_cons_self, hk⟩
  ·rw [if_neg he]
   refine ⟨A ++ [q] ++ [p], rfl, ⟨by omega, by simp; omega, fun x hx => ?_, hl, ?_, hs2, fun x hx y hy => ?_⟩, fun K => ?_, fun key => ?_⟩
   ·rcases List.mem_append.1 hx with hx | hx
    ·exact (h.oga x hx).more (by omega)
    ·rw [List.mem_singleton.1 hx]; exact hp.more (by omega)
   ·refine List.pairwise_append.2 ⟨h.up, List.pairwise_singleton _ _, fun x hx y hy => ?_⟩
    rw [List.mem_singleton.1 hy]
    have h1 := h.ends x hx p List.mem_cons_self
    rcases List.mem_append.1 hx with hx' | hx'
    ·have h2 := (List.pairwise_append.1 h.up).2.2 x hx' q List.mem_cons_self
     rcases Int.lt_or_eq_of_le h1 with h3 | h3
     ·exact h3
     ·exfalso
      have h4 := cmpN_eq h3
      rw [h4, cmpN_swap] at h2
      omega
    ·rw [List.mem_singleton.1 hx']
     omega
   ·rcases List.mem_append.1 hx with hx | hx
    ·exact h.ends x hx y (List.mem_cons_of_mem _ hy)
    ·rw [List.mem_singleton.1 hx]; exact hs1 y hy
   ·rw [List.append_assoc (A ++ [q])]; rfl
   ·constructor
    ·rintro ⟨x, hx, rfl⟩
     rcases List.mem_append.1 hx with hx | hx
     ·exact .inl ⟨x, hx, rfl⟩
     ·rw [List.mem_singleton.1 hx]; exact .inr rfl
    ·rintro (⟨x, hx, rfl⟩ | rfl)
     ·exact ⟨x, List.mem_append_left _ hx, rfl⟩
     ·exact ⟨p, List.mem_append_right _ List.mem_cons_self, rfl⟩
theorem fold_all {m n : Nat} (hn : n ≤ 64) : ∀ (l : List (List Nat × Ag)) (k : Nat) (out : List (List Nat × Ag)), FdI m k n out l → ∃ r, foldP out l = some r ∧ FdI m n n r [] ∧ (∀ K, sumK K r = sumK K (out ++ l)) ∧ ∀ key, (∃ x ∈ r, x.1 = key) ↔ ((∃ x ∈ out, x.1 = key) ∨ ∃ x ∈ l, x.1 = key)
 | [], k, out, h => by
  have ht := h.tot
  simp only [List.length_nil, Nat.add_zero] at ht
  refine ⟨out, rfl, ⟨by simp, Nat.le_trans h.olen ht, fun x hx => (h.oga x hx).more ht, fun x hx => (by cases hx), h.up, List.Pairwise.nil, fun x _ y hy => (by cases hy)⟩, fun K => by rw [List.append_nil], fun key => by simp⟩
 | p :: l, k, out, h => by
  obtain ⟨o, h1, h2, h3, h4⟩ := fold_step hn h
  obtain ⟨r, k1, k2, k3, k4⟩ := fold_all hn l (k + 1) o h2
  refine ⟨r, ?_, k2, fun K => (k3 K).trans (h3 K), fun key => ?_⟩
  ·unfold foldP
   rw [h1]
   exact k1
  ·rw [k4 key, h4 key]
   constructor
   ·rintro ((h5 | h5) | ⟨x, hx, h5⟩)
    ·exact .inl h5
    ·exact .inr ⟨p, List.mem_cons_self, h5⟩
    ·exact .inr ⟨x, List.mem_cons_of_mem _ hx, h5⟩
   ·rintro (h5 | ⟨x, hx, h5⟩)
    ·exact .inl (.inl h5)
    ·rcases List.mem_cons.1 hx with rfl | hx
     ·exact .inl (.inr h5)
     ·exact .inr ⟨x, hx, h5⟩
theorem rows_unique {s : Sch} (hs : SchOk s) {rows : List Rw} {ps qs : List (List Nat × Ag)} (h1 : RowsTo s rows ps) (h2 : RowsTo s rows qs) : ps = qs := by
 obtain ⟨l, hl, rfl⟩ := h1
 obtain ⟨l', hl', rfl⟩ := h2
 unfold pls
 apply List.ext_getElem?
 intro i
 rw [List.getElem?_map, List.getElem?_map]
 by_cases hi : i < rows.length
 ·have e1 := List.getElem?_eq_getElem (l := l) (i := i) (by rw [hl.1]; exact hi)
  have e2 := List.getElem?_eq_getElem (l := l') (i := i) (by rw [hl'.1]; exact hi)
  obtain ⟨k1, a1⟩ := hl.2 i _ _ (List.getElem?_eq_getElem hi) e1
  obtain ⟨k2, a2⟩ := hl'.2 i _ _ (List.getElem?_eq_getElem hi) e2
  rw [e1, e2]
  show some (pl _) = some (pl _)
  unfold pl
  rw [a1, a2, RowKeys.eq hs k1 k2]
 ·rw [List.getElem?_eq_none (by rw [hl.1]; omega), List.getElem?_eq_none (by rw [hl'.1]; omega)]
theorem key_ok {s : Sch} (hs : SchOk s) {r : Rw} {keys : List Nat} (h : RowKeys s r keys) : KeyOk s keys := by
 refine ⟨h.n, fun d hd hk h0 => ?_⟩
 have ht : d < r.terms.length := by rw [h.nt]; exact hd
 have h1 := h.at_ d _ _ _ (List.getElem?_eq_getElem hd) (List.getElem?_eq_getElem ht) (List.getElem?_eq_getElem hk)
 have h2 := (List.getElem?_eq_some_iff.1 h1).1
 rw [fin_at h0] at h2
 exact h2
theorem ag_ok {s : Sch} (hs : SchOk s) {r : Rw} {keys : List Nat} (h : RowKeys s r keys) : AgOk s.meas.length (agOf r.vals) := by
 have hv := h.nv
 have e : ∀ i, pv (r.vals.take r.vals.length) i = pv r.vals i := fun i => by rw [List.take_of_length_le (Nat.le_refl _)]
 have ez : ∀ i, s.meas.length ≤ i → pv r.vals i = 0 := fun i hi => by
  unfold pv
  rw [List.getElem?_eq_none (by omega)]
  rfl
 unfold agOf agTo
 refine ⟨Int.le_refl _, fun k hk _ => ?_, fun k hk _ _ => ?_, fun k hk hm => ?_⟩
 ·match k, hk with
  | 0, _ => exact Int.le_refl _
  | 1, _ => exact Int.le_refl _
  | 2, _ => exact Int.le_refl _
 ·match k, hk with
  | 0, _ => exact ⟨rfl, rfl⟩
  | 1, _ => exact ⟨rfl, rfl⟩
  | 2, _ => exact ⟨rfl, rfl⟩
 ·match k, hk with
  | 0, _ => exact ⟨(e 0).trans (ez 0 hm), (e 0).trans (ez 0 hm), (e 0).trans (ez 0 hm)⟩
  | 1, _ => exact ⟨(e 1).trans (ez 1 hm), (e 1).trans (ez 1 hm), (e 1).trans (ez 1 hm)⟩
  | 2, _ => exact ⟨(e 2).trans (ez 2 hm), (e 2).trans (ez 2 hm), (e 2).trans (ez 2 hm)⟩
theorem wide_bnd {l : List Int} (hf : ∀ x ∈ l, fit x) (h : WideF (agOf l)) : BndA 1 (agOf l) := by
 refine ⟨show (0 : Int) ≤ 1 by decide, show (1 : Int) ≤ ((1 : Nat) : Int) * 1000000000 by decide, ?_, ?_, ?_, agOf_fit hf⟩
 ·have := h.2 0 (by decide); simpa [ps] using this
 ·have := h.2 1 (by decide); simpa [ps] using this
 ·have := h.2 2 (by decide); simpa [ps] using this
theorem rows_good {s : Sch} {rows : List Rw} (ho : BatchOk s rows) (hfit : ∀ r ∈ rows, ∀ x ∈ r.vals, fit x) {ps : List (List Nat × Ag)} (h : RowsTo s rows ps) (hw : ∀ x ∈ ps, WideF x.2) : ps.length = rows.length ∧ ∀ x ∈ ps, KeyOk s x.1 ∧ GA s.meas.length 1 x.2 := by
 obtain ⟨l, hl, rfl⟩ := h
 refine ⟨by unfold pls; rw [List.length_map]; exact hl.1, fun x hx => ?_⟩
 have hwx := hw x hx
 unfold pls at hx
 obtain ⟨f, hf, rfl⟩ := List.mem_map.1 hx
 obtain ⟨i, hi, rfl⟩ := List.getElem_of_mem hf
 have hir : i < rows.length := by rw [← hl.1]; exact hi
 obtain ⟨k1, a1⟩ := hl.2 i _ _ (List.getElem?_eq_getElem hir) (List.getElem?_eq_getElem hi)
 have hwx' : WideF l[i].ag := hwx
 refine ⟨key_ok ho.sch k1, ?_⟩
 show GA s.meas.length 1 l[i].ag
 rw [a1] at hwx' ⊢
 exact ⟨wide_bnd (hfit _ (List.getElem_mem hir)) hwx', ag_ok ho.sch k1⟩
theorem ing_ok {s : Sch} {rows : List Rw} (ho : BatchOk s rows) (hn : rows.length ≤ 64) (hfit : ∀ r ∈ rows, ∀ x ∈ r.vals, fit x) {ps qs r : List (List Nat × Ag)} {l : List Fa} (h : RowsTo s rows ps) (hp : qs.Perm ps) (hs : SortedP qs) (hf : foldP [] qs = some r) (hl : l.map pl = r) (hw : ∀ x ∈ ps, WideF x.2) :
 FactsOk s l ∧ (∀ K, sumK K (pls l) = sumK K ps) ∧ ∀ key, (∃ x ∈ pls l, x.1 = key) ↔ ∃ x ∈ ps, x.1 = key := by
 obtain ⟨hlen, hgood⟩ := rows_good ho hfit h hw
 have hq : ∀ x ∈ qs, KeyOk s x.1 ∧ GA s.meas.length 1 x.2 := fun x hx => hgood x (hp.mem_iff.1 hx)
 have hql : qs.length = rows.length := by rw [hp.length_eq, hlen]
 obtain ⟨r', h1, h2, h3, h4⟩ := fold_all (m := s.meas.length) (n := rows.length) hn qs 0 [] ⟨by omega, Nat.le_refl _, (fun x hx => by cases hx), (fun x hx => (hq x hx).2), List.Pairwise.nil, hs, (fun x hx => by cases hx)⟩
 rw [hf] at h1
 injection h1 with h1
 subst h1
 have hkeys : ∀ key, (∃ x ∈ r, x.1 = key) ↔ ∃ x ∈ ps, x.1 = key := fun key => by
  rw [h4 key]
  constructor
  ·rintro (⟨x, hx, _⟩ | ⟨x, hx, e⟩)
   ·cases hx
   ·exact ⟨x, hp.mem_iff.1 hx, e⟩
  ·rintro ⟨x, hx, e⟩
   exact .inr ⟨x, hp.mem_iff.2 hx, e⟩
 have hlr : pls l = r := hl
 refine ⟨⟨?_, fun f hf' => ?_, fun f hf' => ?_, fun i hi => ?_⟩, fun K => ?_, by rw [hlr]; exact hkeys⟩
 ·have := h2.olen
  rw [← hl, List.length_map] at this
  omega
 ·obtain ⟨x, hx, e⟩ := (hkeys f.keys).1 ⟨pl f, by rw [← hl]; exact List.mem_map_of_mem hf', rfl⟩
  rw [← e]
  exact (hgood x hx).1
 ·have := h2.oga (pl f) (by rw [← hl]; exact List.mem_map_of_mem hf')
  exact ⟨(this.more hn).b, this.ok⟩
 ·have hup := h2.up
  rw [← hl, List.pairwise_map] at hup
  exact List.pairwise_iff_getElem.1 hup i (i + 1) (by omega) hi (by omega)
 ·rw [hlr, h3 K, List.nil_append]
  unfold sumK
  refine joinAll_perm (m := s.meas.length) (k := 1) ((hp.filter _).map _) agZero 0 bnd_zero (.inr rfl) (fun a ha => ?_) ?_
  ·obtain ⟨x, hx, rfl⟩ := List.mem_map.1 ha
   exact (hq x (List.mem_filter.1 hx).1).2
  ·rw [List.length_map]
   have := List.length_filter_le (fun x : List Nat × Ag => K x.1) qs
   omega
end Go.Proofs.YthmbgbmcdbdecaaGreat.Tc
