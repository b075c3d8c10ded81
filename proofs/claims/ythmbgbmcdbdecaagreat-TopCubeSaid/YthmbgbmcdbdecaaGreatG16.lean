/- Parts of a proof: Layer 22: one or two sorted runs, made one. Layer 22: runs, so many at a time. -/
import Derived.Test.YthmbgbmcdbdecaaGreatG14
import Derived.Test.YthmbgbmcdbdecaaGreatG15
namespace Go.Proofs.YthmbgbmcdbdecaaGreat.Tc
open Go.RowKit Base
set_option linter.unusedVariables false
set_option linter.unusedSimpArgs false
def headsPl (hs : List Hd) : List (List Nat × Ag) := hs.flatMap fun h => pls h.fs
def runsPl (rs : List Rn) : List (List Nat × Ag) := rs.flatMap fun r => pls r.fs
def Ordered (hs : List Hd) : Prop := ∀ a b, hs = [a, b] → ¬ ltP b a
def lenOf : Value → Nat
 | .slice _ n _ => n
 | _ => 0
structure HpSt (w : World) (LB gh gr c : Nat) (hs : List Hd) : Prop where
 heap : HeapAt w LB gh gr c hs
 two : hs.length ≤ 2
 cap : hs.length ≤ c
 cm : c ≤ 9223372036854775807
 ord : Ordered hs
 each : ∀ h ∈ hs, HdOk w LB h ∧ SortedF h.fs
 lo : LB ≤ gh
theorem HpSt.lt {w : World} {LB gh gr c : Nat} {hs : List Hd} (h : HpSt w LB gh gr c hs) : gh < w.heap.size ∧ gr < w.heap.size ∧ LB ≤ gr := ⟨h.heap.box.lt, (h.heap.own.lt gr rfl).2, (h.heap.own.lt gr rfl).1⟩
theorem HpSt.far {w w' : World} {LB gh gr c : Nat} {hs : List Hd} (h : HpSt w LB gh gr c hs) (hb : Below LB w w') (e1 : w'.heap[gh]? = w.heap[gh]?) (e2 : w'.heap[gr]? = w.heap[gr]?) : HpSt w' LB gh gr c hs := by
 refine ⟨⟨e1.trans h.heap.box, ?_, h.heap.ne⟩, h.two, h.cap, h.cm, h.ord, fun x hx => ⟨(h.each x hx).1.below hb, (h.each x hx).2⟩, h.lo⟩
 obtain ⟨h1, h2⟩ := h.heap.own
 refine ⟨h1, ?_⟩
 rcases h2 with h2 | ⟨g, cap, cur, r1, r2, r3, r4⟩
 ·exact .inl h2
 ·refine .inr ⟨g, cap, cur, r1, r2, ?_, r4⟩
  injection r1 with hA _ _
  injection hA with hA
  injection hA with hg _ _
  subst hg
  exact e2.trans r3
theorem FasAt.tail {w : World} {B b off : Nat} {x : Fa} {xs : List Fa} (h : FasAt w B (some ⟨b, off, none⟩) (x :: xs)) : FasAt w B (some ⟨b, off + 11, none⟩) xs := by
 have := h.sub 1 xs.length
 simpa using this
theorem runsPl_len {rs : List Rn} (h2 : rs.length ≤ 2) (ho : ∀ r ∈ rs, r.fs.length ≤ 400000) : (runsPl rs).length ≤ 800000 := by
 rcases rs with _ | ⟨a, _ | ⟨b, _ | ⟨c, rs⟩⟩⟩
 ·simp [runsPl]
 ·have := ho a (by simp)
  simp [runsPl, pls]
  omega
 ·have := ho a (by simp)
  have := ho b (by simp)
  simp [runsPl, pls]
  omega
 ·simp at h2
theorem sortedF_pl {l l' : List Fa} (e : l'.map pl = l.map pl) (h : SortedF l) : SortedF l' := by
 have key : ∀ l : List Fa, SortedF l ↔ (l.map pl).Pairwise (fun a b => cmpN a.1 b.1 ≤ 0) := fun l => by
  unfold SortedF
  rw [List.pairwise_map]
  rfl
 rw [key, e, ← key]
 exact h
theorem runsPl_keys {rs : List Rn} (ho : ∀ r ∈ rs, ∀ f ∈ r.fs, f.keys.length ≤ 1000000) {p : List Nat × Ag} (hp : p ∈ runsPl rs) : p.1.length ≤ 1000000 := by
 unfold runsPl at hp
 obtain ⟨r, hr, hp⟩ := List.mem_flatMap.1 hp
 obtain ⟨f, hf, rfl⟩ := List.mem_map.1 hp
 exact ho r hr f hf
theorem lo_snoc {lo : List Fa} {x : Fa} (h : SortedF lo) (hx : ∀ f ∈ lo, cmpN f.keys x.keys ≤ 0) : SortedF (lo ++ [x]) := by
 unfold SortedF at *
 rw [List.pairwise_append]
 exact ⟨h, List.pairwise_singleton _ _, fun a ha b hb => by rw [List.mem_singleton.1 hb]; exact hx a ha⟩
theorem sorted_head {x : Fa} {xs : List Fa} (h : SortedF (x :: xs)) : ∀ g ∈ x :: xs, cmpN x.keys g.keys ≤ 0 := by
 intro g hg
 rcases List.mem_cons.1 hg with rfl | hg
 ·rw [cmpN_refl]; exact Int.le_refl _
 ·exact (List.pairwise_cons.1 h).1 g hg
theorem first_le {a : Hd} {tl : List Hd} {x : Fa} {xs : List Fa} (hx : a.fs = x :: xs) (ho : Ordered (a :: tl)) (h2 : tl.length ≤ 1) (hs : ∀ h ∈ a :: tl, SortedF h.fs ∧ h.fs ≠ []) : ∀ h ∈ a :: tl, ∀ g ∈ h.fs, cmpN x.keys g.keys ≤ 0 := by
 intro h hh g hg
 rcases List.mem_cons.1 hh with rfl | hh
 ·have := (hs h (by simp)).1
  rw [hx] at this hg
  exact sorted_head this g hg
 ·rcases tl with _ | ⟨b, _ | ⟨b', tl⟩⟩
  ·cases hh
  ·obtain rfl := List.mem_singleton.1 hh
   obtain ⟨h3, h4⟩ := hs h (by simp)
   rcases hb : h.fs with _ | ⟨y, ys⟩
   ·exact absurd hb h4
   ·have hn := ho a h rfl
    unfold ltP at hn
    have e1 : hk h = y.keys := by unfold hk; rw [hb]
    have e2 : hk a = x.keys := by unfold hk; rw [hx]
    rw [e1, e2, cmpN_swap x.keys y.keys] at hn
    rw [hb] at h3 hg
    exact cmpN_trans (by omega) (sorted_head h3 g hg)
  ·simp at h2
structure RunOk (r : Rn) : Prop where
 sorted : SortedF r.fs
 cap : r.fs.length ≤ r.c
 keys : ∀ f ∈ r.fs, f.keys.length ≤ 1000000
 len : r.fs.length ≤ 400000
set_option maxRecDepth 100000 in
set_option maxHeartbeats 4000000 in
theorem merge_any (A : Option Addr) (rs : List Rn) (c : Nat) (w : World) (h2 : rs.length ≤ 2) (hr : RnsAt w w.heap.size A rs) (ho : ∀ r ∈ rs, RunOk r) :
 Calls Tryz.prog 85 #[.slice A rs.length c] w (SortRet (runsPl rs) w) := by
 have HYes := kp (show ∀ v l' w', (l'.map pl).Perm (runsPl rs) → SortedF l' → FasOwn w' w.heap.size v l' → KeysFrom w.heap.size l' → Below w.heap.size w w' → SortRet (runsPl rs) w (.returned v) w' from fun v l' w' h1 h2 h3 h4 hb => ⟨v, l', rfl, h1, h2, h3, h4, hb⟩)
 have Hr := kp hr
 have Ho := kp ho
 have HP0 := kp push0_any
 have HP1 := kp push1_any
 clear hr ho
 generalize hQ : SortRet (runsPl rs) w = Q at *
 clear hQ
 obtain ⟨m, hm⟩ : ∃ m, rs.length = m := ⟨_, rfl⟩
 have Hm := kp hm
 rw [hm] at h2 ⊢
 clear hm
 go_enter Tryz.func85, Tryz.ntmps85
 go_wp2_with fail
 go_loopw [12] (fun v12 wr => ∃ (k gr c' : Nat) (hs : List Hd), k ≤ m ∧ v12 = .int .i64 k ∧ hs.length ≤ k ∧ HpSt wr w.heap.size (w.heap.size + 1) gr c' hs ∧ (headsPl hs).Perm (runsPl (rs.take k)) ∧ Below w.heap.size w wr) (fun v12 _ => m - (intOf v12).toNat)
 case atStart =>
  refine ⟨0, w.heap.size, 0, [], Nat.zero_le _, rfl, Nat.le_refl _, ⟨⟨Box.lay (w := w.alloc (.cells #[] 203)) (by simp), (World.ownsRow_made w #[] 0 (Nat.le_refl _) (Nat.zero_le _) rfl).alloc _, by omega⟩, by simp, by simp, by omega, (fun a b h => by simp at h), (fun h hh => by cases hh), by omega⟩, by simp [headsPl, runsPl], ((Below.refl _ w).alloc (Nat.le_refl _) _).alloc (by simp) _⟩
 case round =>
  obtain ⟨k, gr, c', hs, hk, rfl, hhk, hst, hpm, hbe⟩ := hrel
  have Hst := kp hst
  have Hpm := kp hpm
  have Hbe := kp hbe
  clear hst hpm hbe
  by_cases hlt : k < m
  ·have hkl : k < rs.length := by rw [Hm.out]; exact hlt
   have hrow := (Hr.out.row.below Hbe.out)
   obtain ⟨b, off, hA, hb, c0⟩ := Row.at_ hrow (k := k) (by rw [List.length_map]; exact hkl)
   rw [List.getElem_map] at c0
   have hrf := (Hr.out.each _ (List.getElem_mem hkl)).below Hbe.out
   have hok := Ho.out _ (List.getElem_mem hkl)
   have Htk := kp (show runsPl (rs.take (k + 1)) = runsPl (rs.take k) ++ pls (rs[k]'hkl).fs by unfold runsPl; rw [List.take_succ_eq_append_getElem hkl, List.flatMap_append]; simp)
   rw [hA]
   clear hA hrow
   generalize (rs[k]'hkl) = r at *
   have Hrf := kp hrf
   have Hok := kp hok
   unfold runV at c0
   clear hrf hok
   have hi0 : (0 : Int) ≤ (k : Int) := by omega
   have hi1 : (k : Int) < (m : Int) := by omega
   by_cases hz : 0 < r.fs.length
   ·have hz' : (0 : Int) < (r.fs.length : Int) := by omega
    have Hhd := kp (show HdOk wr w.heap.size ⟨r.A, r.fs, r.c, k⟩ from ⟨Hrf.out, (fun h => by rw [show r.fs = [] from h] at hz; simp at hz), Hok.out.keys, Nat.le_trans Hok.out.len (by omega), Hok.out.cap, by show k ≤ 1000000; omega⟩)
    rcases hs with _ | ⟨a, hs⟩
    ·have HPk := kp (HP0.out w.heap.size (w.heap.size + 1) gr c' w.heap.size ⟨r.A, r.fs, r.c, k⟩ wr (Nat.le_refl _) Hst.out.lo Hbe.out.size Hst.out.heap)
     unfold hpV headC at HPk
     go_wp2_with fail
     refine HPk.out.mono ?_
     rintro e w1 ⟨rfl, ⟨gr1, c1, hh, hc1, hc2⟩, hb1⟩
     have Hst1 := kp (show HpSt w1 w.heap.size (w.heap.size + 1) gr1 c1 [⟨r.A, r.fs, r.c, k⟩] from ⟨hh, by simp, hc1, hc2, (fun a b h => by simp at h), (fun h hm => by obtain rfl := List.mem_singleton.1 hm; exact ⟨Hhd.out.below hb1, Hok.out.sorted⟩), Hst.out.lo⟩)
     have Hb1 := kp (Hbe.out.trans hb1)
     clear hh hb1 hc1 hc2 c0 HPk
     go_wp2_with fail
     refine ⟨⟨k + 1, gr1, c1, _, by omega, by go_num, by simp, Hst1.out, ?_, Hb1.out⟩, by simp [intOf]; omega⟩
     rw [Htk.out, ← List.Perm.nil_eq (show ([] : List (List Nat × Ag)).Perm _ from Hpm.out)]
     simp [headsPl]
    ·have hs0 : hs = [] := by
      have := Hst.out.two
      rcases hs with _ | ⟨b, hs⟩
      ·rfl
      ·simp at hhk; omega
     subst hs0
     have HPk := kp (HP1.out w.heap.size (w.heap.size + 1) gr c' w.heap.size a ⟨r.A, r.fs, r.c, k⟩ wr (Nat.le_refl _) Hst.out.lo Hbe.out.size Hst.out.heap (Hst.out.each a (by simp)).1 Hhd.out)
     unfold hpV headC at HPk
     go_wp2_with fail
     refine HPk.out.mono ?_
     rintro e w1 ⟨rfl, ⟨gr1, c1, x, y, hxy, hh, hlt1, hc1, hc2⟩, hb1⟩
     have hmem : ∀ h ∈ [x, y], h = a ∨ h = ⟨r.A, r.fs, r.c, k⟩ := fun h hm => by
      rcases hxy with ⟨rfl, rfl⟩ | ⟨rfl, rfl⟩ <;> simp at hm <;> rcases hm with rfl | rfl <;> simp
     have Hst1 := kp (show HpSt w1 w.heap.size (w.heap.size + 1) gr1 c1 [x, y] from ⟨hh, by simp, hc1, hc2, (fun p q h => by injection h with h1 h2; injection h2 with h2; subst h1 h2; exact hlt1), (fun h hm => by
      rcases hmem h hm with rfl | rfl
      ·exact ⟨(Hst.out.each _ (by simp)).1.below hb1, (Hst.out.each _ (by simp)).2⟩
      ·exact ⟨Hhd.out.below hb1, Hok.out.sorted⟩), Hst.out.lo⟩)
     have Hb1 := kp (Hbe.out.trans hb1)
     have Hpp := kp (show (headsPl [x, y]).Perm (headsPl [a] ++ pls r.fs) by
      rcases hxy with ⟨rfl, rfl⟩ | ⟨rfl, rfl⟩
      ·simp [headsPl]
      ·simp [headsPl]; exact List.perm_append_comm)
     clear hh hb1 hc1 hc2 c0 HPk hmem
     go_wp2_with fail
     refine ⟨⟨k + 1, gr1, c1, _, by omega, by go_num, by simp at hhk ⊢; omega, Hst1.out, ?_, Hb1.out⟩, by simp [intOf]; omega⟩
     rw [Htk.out]
     exact Hpp.out.trans (List.Perm.append_right _ Hpm.out)
   ·have hz' : ¬ (0 : Int) < (r.fs.length : Int) := by omega
    have hz0 : r.fs = [] := List.length_eq_zero_iff.1 (by omega)
    have Hz := kp hz0
    clear hz0 hz
    go_wp2_with fail
    refine ⟨⟨k + 1, gr, c', hs, by omega, by go_num, by omega, Hst.out, ?_, Hbe.out⟩, by simp [intOf]; omega⟩
    rw [Htk.out, Hz.out]
    simpa [pls] using Hpm.out
  ·obtain rfl : k = m := by omega
   have Hpm2 := kp (show (headsPl hs).Perm (runsPl rs) by have := Hpm.out; rw [List.take_of_length_le (by rw [Hm.out]; exact Nat.le_refl _)] at this; exact this)
   clear Hpm HP0 HP1
   go_wp2_with fail
   obtain ⟨i0, ti0, tz0, tz1, tz2⟩ := info_parts info_fact
   have Htot := kp (runsPl_len (by rw [Hm.out]; exact h2) (fun r hr => (Ho.out r hr).len))
   go_loopw [6, 7] (fun v6 _ wr => ∃ (n gr c' : Nat) (hs : List Hd) (lo : List Fa) (Ao : Option Addr) (co : Nat), v6 = .slice Ao n co ∧ lo.length = n ∧ HpSt wr w.heap.size (w.heap.size + 1) gr c' hs ∧ (pls lo ++ headsPl hs).Perm (runsPl rs) ∧ SortedF lo ∧ (∀ f ∈ lo, ∀ h ∈ hs, ∀ g ∈ h.fs, cmpN f.keys g.keys ≤ 0) ∧ wr.ownsRow w.heap.size 78 11 (.slice Ao n co) n (lo.flatMap factV) ∧ (∀ f ∈ lo, Row wr w.heap.size f.A (natV f.keys)) ∧ (Value.slice Ao n co).ownBlock ≠ some (w.heap.size + 1) ∧ (Value.slice Ao n co).ownBlock ≠ some gr ∧ Below w.heap.size w wr) (fun v6 _ _ => (runsPl rs).length - (lenOf v6))
   case atStart => exact ⟨0, gr, c', hs, [], none, 0, rfl, rfl, Hst.out, by simpa [pls] using Hpm2.out, List.Pairwise.nil, by simp, own_nil _ _ _ _, by simp, by simp [Value.ownBlock], by simp [Value.ownBlock], Hbe.out⟩
   case round =>
    clear Hst Hpm2 Hbe
    obtain ⟨n, gr, c', hs, lo, Ao, co, rfl, hln, hst, hpm, hsl, hle, hown, hkr, hn1, hn2, hbe⟩ := hrel
    have Hln := kp hln
    have Hst := kp hst
    have Hpm := kp hpm
    have Hsl := kp hsl
    have Hle := kp hle
    have Hown := kp hown
    have Hkr := kp hkr
    have Hn1 := kp hn1
    have Hn2 := kp hn2
    have Hbe := kp hbe
    obtain ⟨c0, f0⟩ := hst.heap.box.one
    have HL := kp (hlen_any (some ⟨gr, 0, none⟩) hs.length c' wr)
    have hnb : n ≤ 800000 := by
     have h1 := hpm.length_eq
     have h3 := Htot.out
     rw [List.length_append] at h1
     unfold pls at h1
     rw [List.length_map] at h1
     omega
    clear hln hst hpm hsl hle hown hkr hn1 hn2 hbe
    rcases hs with _ | ⟨a, tl⟩
    ·have h00 : ([] : List Hd).length = 0 := rfl
     rw [h00] at HL c0
     go_wp2_with fail
     refine HL.out.mono ?_
     rintro e w1 ⟨rfl, rfl⟩
     have HCl := kp (factclone_any Ao lo co wr (by rw [Hln.out]; omega) (fun f hf => runsPl_keys (rs := rs) (fun r hr => (Ho.out r hr).keys) (Hpm.out.mem_iff.1 (List.mem_append_left _ (List.mem_map_of_mem (f := pl) hf)))) ⟨row_ownK (by have := Hown.out; exact this), fun f hf => (Hkr.out f hf).more Hbe.out.size⟩)
     rw [Hln.out] at HCl
     go_wp2_with fail
     refine HCl.out.mono ?_
     rintro e w2 ⟨v, l', rfl, hpl', hown', hkf', hb'⟩
     have hsl' : SortedF l' := sortedF_pl hpl' Hsl.out
     have hb2 := Hbe.out.trans (hb'.mono Hbe.out.size)
     have Hfin := kp (HYes.out v l' w2 (by rw [hpl']; have := Hpm.out; simp [headsPl] at this; exact this) hsl' ⟨own_base hown'.1 Hbe.out.size, hown'.2⟩ (fun f hf b off e hne => Nat.le_trans Hbe.out.size (hkf' f hf b off e hne)) hb2)
     clear hown' hkf' hb' hpl' hsl' hb2
     go_wp2_with fail
     exact Hfin.out
    ·have hal := Hst.out.each a (by simp)
     have htl : tl.length ≤ 1 := by have := Hst.out.two; simp at this; omega
     obtain ⟨x, xs, hx⟩ : ∃ x xs, a.fs = x :: xs := by
      rcases h : a.fs with _ | ⟨x, xs⟩
      ·exact absurd h hal.1.ne
      ·exact ⟨x, xs, rfl⟩
     have hfas := hal.1.fas
     rw [hx] at hfas
     obtain ⟨bx, ox, hAx, hbx, b0, b1, b2, b3, b4, b5, b6, b7, b8, b9, b10⟩ := hfas.cells 0 (by simp)
     simp only [List.getElem_cons_zero, Nat.zero_mul, Nat.add_zero] at b0 b1 b2 b3 b4 b5 b6 b7 b8 b9 b10
     obtain ⟨r0, rf0⟩ := own_cells Hst.out.heap.own (i := 0) (v := .slice (some ⟨bx, ox, none⟩) (xs.length + 1) a.c) (by show some (Value.slice a.A a.fs.length a.c) = _; rw [hAx, hx]; rfl)
     have Hal := kp hal
     have Hfas := kp hfas
     have Hx := kp hx
     have HAx := kp hAx
     have hltx : (0 : Int) < (xs.length : Int) + 1 := by omega
     have hxcap : xs.length + 1 ≤ a.c := by have := hal.1.cap; rw [hx] at this; exact this
     have hln1 : (a :: tl).length = tl.length + 1 := rfl
     rw [hln1] at HL c0
     have hml : (0 : Int) < (tl.length : Int) + 1 := by omega
     clear hal hfas hx hAx hln1
     go_wp2_with fail
     refine HL.out.mono ?_
     rintro e w1 ⟨rfl, rfl⟩
     have hk1 : n + 1 < 1048576 * 64 := by omega
     have Hs := kp Hbe.out.size
     go_upto_region 12 with (at_builtin; refine wpList_appK rfl (.tmp 37) (.tmp 44) 32 rfl w.heap.size 78 i0 _ 11 104 Tryz.underlying32 ti0 tz0 tz1 tz2 rfl (by decide) wr (factC x) rfl (fact_one _) (.slice Ao n co) n (lo.flatMap factV) rfl Hown.out rfl hk1 (by decide) Hs.out ?_; intro v5 w5 hown5 happ5; obtain ⟨A5, c5, h5⟩ := own_formK hown5; subst h5; have Hown5 := kp hown5; have Hapl := kp happ5; clear hown5 happ5)
     obtain ⟨hg1, hg2, hg3⟩ := Hst.out.lt
     have Hb5 := kp (Hapl.out.belowK (Below.refl w.heap.size wr) Hown.out (Nat.le_refl _) Hs.out)
     have Hst5 := kp (Hst.out.far Hb5.out (Hapl.out.farK hg1 Hn1.out) (Hapl.out.farK hg2 Hn2.out))
     obtain ⟨r1, rf1⟩ := own_cells Hst5.out.heap.own (i := 0) (v := .slice (some ⟨bx, ox, none⟩) (xs.length + 1) a.c) (by show some (Value.slice a.A a.fs.length a.c) = _; rw [HAx.out, Hx.out]; rfl)
     have Hbe5 := kp (Hbe.out.trans Hb5.out)
     have Hfl := kp (first_le Hx.out Hst.out.ord htl (fun h hh => ⟨(Hst.out.each h hh).2, (Hst.out.each h hh).1.ne⟩))
     have Hsl5 := kp (show SortedF (lo ++ [x]) from lo_snoc Hsl.out (fun f hf => Hle.out f hf a (by simp) x (by rw [Hx.out]; simp)))
     have Hle5 := kp (show ∀ f ∈ lo ++ [x], ∀ h ∈ a :: tl, ∀ g ∈ h.fs, cmpN f.keys g.keys ≤ 0 from fun f hf h hh g hg => by
      rcases List.mem_append.1 hf with hf | hf
      ·exact Hle.out f hf h hh g hg
      ·rw [List.mem_singleton.1 hf]; exact Hfl.out h hh g hg)
     have Hpm5 := kp (show ∀ a' : Hd, a'.fs = xs → (pls (lo ++ [x]) ++ headsPl (a' :: tl)).Perm (runsPl rs) from fun a' ha' => by
      refine List.Perm.trans ?_ Hpm.out
      unfold headsPl pls
      rw [List.flatMap_cons, List.flatMap_cons, ha', Hx.out]
      simp)
     have Hkr5 := kp (show ∀ f ∈ lo ++ [x], Row w5 w.heap.size f.A (natV f.keys) from fun f hf => by
      rcases List.mem_append.1 hf with hf | hf
      ·exact (Hkr.out f hf).below Hb5.out
      ·rw [List.mem_singleton.1 hf]; exact (Hfas.out.keys x (by simp)).below Hb5.out)
     have HownF := kp (show w5.ownsRow w.heap.size 78 11 (.slice A5 (n + 1) c5) (n + 1) ((lo ++ [x]).flatMap factV) by rw [List.flatMap_append]; exact Hown5.out)
     have Hlies := kp (show (Value.slice A5 (n + 1) c5).ownBlock ≠ some (w.heap.size + 1) ∧ (Value.slice A5 (n + 1) c5).ownBlock ≠ some gr by
      rcases Hapl.out.lies with hl | ⟨k, hl, hk⟩
      ·rw [hl]; exact ⟨Hn1.out, Hn2.out⟩
      ·rw [hl]
       exact ⟨fun e => by (have e2 : k = w.heap.size + 1 := by injection e); omega, fun e => by (have e2 : k = gr := by injection e); omega⟩)
     clear r0 rf0 c0 f0 b0 b1 b2 b3 b4 b5 b6 b7 b8 b9 b10
     rcases xs with _ | ⟨x', xs⟩
     ·simp only [List.length_nil, Nat.zero_add] at r1 hxcap hltx
      go_upto_region 13 with fail
      generalize hAz : (if a.c = 1 then (some ⟨bx, ox, none⟩ : Option Addr) else some ⟨bx, ox + 11, none⟩) = Az
      clear hAz
      have Hh6 := kp (show HeapAt (w5.setCell ⟨gr, 0, none⟩ (.slice Az 0 (a.c - 1))) w.heap.size (w.heap.size + 1) gr c' (⟨Az, [], a.c - 1, a.no⟩ :: tl) from ⟨Hst5.out.heap.box.far (p := ⟨gr, 0, none⟩) Hst5.out.heap.ne _, own_set1 Hst5.out.heap.own (i := 0) (by simp) _, Hst5.out.heap.ne⟩)
      have Hb6 := kp (show Below w.heap.size w5 (w5.setCell ⟨gr, 0, none⟩ (.slice Az 0 (a.c - 1))) from (Below.refl _ _).setCell (p := ⟨gr, 0, none⟩) hg3 _)
      have Hown6 := kp (HownF.out.kept (grownBy_setCell' w5 gr (.slice Az 0 (a.c - 1))) (.inr Hlies.out.2))
      obtain ⟨q0, qf0⟩ := own_cells Hh6.out.own (i := 0) (v := .slice Az 0 (a.c - 1)) rfl
      generalize hw6 : w5.setCell ⟨gr, 0, none⟩ (.slice Az 0 (a.c - 1)) = w6 at *
      clear hw6
      -- what is common to both ways out
      have Hend := kp (show ∀ w7 (hs' : List Hd), HeapAt w7 w.heap.size (w.heap.size + 1) gr c' hs' → hs' = tl → Turn (fun k => k = w.heap.size + 1 ∨ k = gr) w6 w7 → HpSt w7 w.heap.size (w.heap.size + 1) gr c' tl ∧ w7.ownsRow w.heap.size 78 11 (.slice A5 (n + 1) c5) (n + 1) ((lo ++ [x]).flatMap factV) ∧ (∀ f ∈ lo ++ [x], Row w7 w.heap.size f.A (natV f.keys)) ∧ Below w.heap.size w w7 from fun w7 hs' hh e ht => by
       subst e
       have hb7 : Below w.heap.size w5 w7 := Hb6.out.trans (ht.toBelow (fun k e => by rcases e with rfl | rfl <;> omega) (Nat.le_trans Hbe5.out.size Hb6.out.size))
       refine ⟨⟨hh, by omega, by have := Hst5.out.cap; simp at this; omega, Hst5.out.cm, fun p q e => by rw [e] at htl; simp at htl, fun h hm => ⟨(Hst5.out.each h (List.mem_cons_of_mem _ hm)).1.below hb7, (Hst5.out.each h (List.mem_cons_of_mem _ hm)).2⟩, by omega⟩, ?_, fun f hf => (Hkr5.out f hf).below hb7, Hbe5.out.trans hb7⟩
       obtain ⟨h1, h3⟩ := Hown6.out
       refine ⟨h1, ?_⟩
       rcases h3 with h3 | ⟨g, cap, cur, q1, q2, q3, q4⟩
       ·exact .inl h3
       ·refine .inr ⟨g, cap, cur, q1, q2, (ht.block g (Array.getElem?_eq_some_iff.1 q3).1 (fun e => ?_)).trans q3, q4⟩
        rcases e with rfl | rfl
        ·exact Hlies.out.1 (by rw [q1]; rfl)
        ·exact Hlies.out.2 (by rw [q1]; rfl))
      have Hpm6 := kp (show (pls (lo ++ [x]) ++ headsPl tl).Perm (runsPl rs) by
       have := Hpm5.out ⟨none, [], 0, 0⟩ rfl
       simpa [headsPl, pls] using this)
      have Hle6 := kp (show ∀ f ∈ lo ++ [x], ∀ h ∈ tl, ∀ g ∈ h.fs, cmpN f.keys g.keys ≤ 0 from fun f hf h hh => Hle5.out f hf h (List.mem_cons_of_mem _ hh))
      have hll : (lo ++ [x]).length = n + 1 := by rw [List.length_append, Hln.out]; rfl
      have Hll := kp hll
      have hmes : n + 1 ≤ (runsPl rs).length := by
       have h1 := Hpm6.out.length_eq
       rw [List.length_append] at h1
       unfold pls at h1
       rw [List.length_map, hll] at h1
       omega
      clear r1 rf1 hll
      rcases tl with _ | ⟨b, tl⟩
      ·have HPop := kp (pop1_any w.heap.size (w.heap.size + 1) gr c' _ w6 (by have := Hst5.out.cap; simpa using this) Hst5.out.cm Hh6.out)
       unfold hpV at HPop
       go_wp2_with fail
       refine HPop.out.mono ?_
       rintro e w7 ⟨v, rfl, hh7, ht7⟩
       have He := kp (Hend.out w7 _ hh7 rfl ht7)
       clear hh7 ht7 HPop q0 qf0
       go_wp2_with fail
       refine ⟨⟨n + 1, gr, c', [], lo ++ [x], A5, c5, rfl, Hll.out, He.out.1, Hpm6.out, Hsl5.out, Hle6.out, He.out.2.1, He.out.2.2.1, Hlies.out.1, Hlies.out.2, He.out.2.2.2⟩, by simp [lenOf]; omega⟩
      ·have htl0 : tl = [] := List.length_eq_zero_iff.1 (by simp at htl; exact htl ▸ rfl)
       subst htl0
       have HPop := kp (pop2_any w.heap.size (w.heap.size + 1) gr c' _ b w6 (by have := Hst5.out.cap; simpa using this) Hst5.out.cm Hh6.out)
       unfold hpV at HPop
       go_wp2_with fail
       refine HPop.out.mono ?_
       rintro e w7 ⟨v, rfl, hh7, ht7⟩
       have He := kp (Hend.out w7 _ hh7 rfl ht7)
       clear hh7 ht7 HPop q0 qf0
       go_wp2_with fail
       refine ⟨⟨n + 1, gr, c', [b], lo ++ [x], A5, c5, rfl, Hll.out, He.out.1, Hpm6.out, Hsl5.out, Hle6.out, He.out.2.1, He.out.2.2.1, Hlies.out.1, Hlies.out.2, He.out.2.2.2⟩, by simp [lenOf]; omega⟩
     ·have hlc : (x' :: xs).length = xs.length + 1 := rfl
      rw [hlc] at r1 hxcap hltx
      have hc1 : ¬ a.c = 1 := by omega
      clear hlc
      go_upto_region 13 with fail
      have Hh6 := kp (show HeapAt (w5.setCell ⟨gr, 0, none⟩ (.slice (some ⟨bx, ox + 11, none⟩) (xs.length + 1) (a.c - 1))) w.heap.size (w.heap.size + 1) gr c' (⟨some ⟨bx, ox + 11, none⟩, x' :: xs, a.c - 1, a.no⟩ :: tl) from ⟨Hst5.out.heap.box.far (p := ⟨gr, 0, none⟩) Hst5.out.heap.ne _, own_set1 Hst5.out.heap.own (i := 0) (by simp) _, Hst5.out.heap.ne⟩)
      have Hb6 := kp (show Below w.heap.size w5 (w5.setCell ⟨gr, 0, none⟩ (.slice (some ⟨bx, ox + 11, none⟩) (xs.length + 1) (a.c - 1))) from (Below.refl _ _).setCell (p := ⟨gr, 0, none⟩) hg3 _)
      have Hown6 := kp (HownF.out.kept (grownBy_setCell' w5 gr (.slice (some ⟨bx, ox + 11, none⟩) (xs.length + 1) (a.c - 1))) (.inr Hlies.out.2))
      obtain ⟨q0, qf0⟩ := own_cells Hh6.out.own (i := 0) (v := .slice (some ⟨bx, ox + 11, none⟩) (xs.length + 1) (a.c - 1)) rfl
      generalize hw6 : w5.setCell ⟨gr, 0, none⟩ (.slice (some ⟨bx, ox + 11, none⟩) (xs.length + 1) (a.c - 1)) = w6 at *
      clear hw6
      have Hhd := kp (show HdOk w6 w.heap.size ⟨some ⟨bx, ox + 11, none⟩, x' :: xs, a.c - 1, a.no⟩ ∧ SortedF (x' :: xs) from ⟨⟨(FasAt.tail (x := x) (by have := Hfas.out; rw [HAx.out] at this; exact this)).below (Hb5.out.trans Hb6.out), by simp, fun f hf => Hal.out.1.keys f (by rw [Hx.out]; exact List.mem_cons_of_mem _ hf), by have := Hal.out.1.len; rw [Hx.out] at this; simp at this ⊢; omega, by simp; omega, Hal.out.1.no⟩, by have := Hal.out.2; rw [Hx.out] at this; exact (List.pairwise_cons.1 this).2⟩)
      have Hend := kp (show ∀ w7 (hs' : List Hd), HeapAt w7 w.heap.size (w.heap.size + 1) gr c' hs' → Ordered hs' → hs'.Perm (⟨some ⟨bx, ox + 11, none⟩, x' :: xs, a.c - 1, a.no⟩ :: tl) → Turn (fun k => k = gr) w6 w7 → HpSt w7 w.heap.size (w.heap.size + 1) gr c' hs' ∧ (pls (lo ++ [x]) ++ headsPl hs').Perm (runsPl rs) ∧ (∀ f ∈ lo ++ [x], ∀ h ∈ hs', ∀ g ∈ h.fs, cmpN f.keys g.keys ≤ 0) ∧ w7.ownsRow w.heap.size 78 11 (.slice A5 (n + 1) c5) (n + 1) ((lo ++ [x]).flatMap factV) ∧ (∀ f ∈ lo ++ [x], Row w7 w.heap.size f.A (natV f.keys)) ∧ Below w.heap.size w w7 from fun w7 hs' hh hor hp ht => by
       have hb7a : Below w.heap.size w6 w7 := ht.toBelow (fun k e => by subst e; omega) (Nat.le_trans Hbe5.out.size Hb6.out.size)
       have hb7 : Below w.heap.size w5 w7 := Hb6.out.trans hb7a
       refine ⟨⟨hh, by rw [hp.length_eq]; simp; omega, by rw [hp.length_eq]; have := Hst5.out.cap; simp at this ⊢; omega, Hst5.out.cm, hor, fun h hm => ?_, by omega⟩, ?_, fun f hf h hm g hg => ?_, ?_, fun f hf => (Hkr5.out f hf).below hb7, Hbe5.out.trans hb7⟩
       ·rcases List.mem_cons.1 (hp.mem_iff.1 hm) with rfl | hm
        ·exact ⟨Hhd.out.1.below hb7a, Hhd.out.2⟩
        ·exact ⟨(Hst5.out.each h (List.mem_cons_of_mem _ hm)).1.below hb7, (Hst5.out.each h (List.mem_cons_of_mem _ hm)).2⟩
       ·refine List.Perm.trans (List.Perm.append_left _ ?_) (Hpm5.out ⟨some ⟨bx, ox + 11, none⟩, x' :: xs, a.c - 1, a.no⟩ rfl)
        unfold headsPl
        exact hp.flatMap_right _
       ·rcases List.mem_cons.1 (hp.mem_iff.1 hm) with rfl | hm
        ·exact Hle5.out f hf a (by simp) g (by rw [Hx.out]; exact List.mem_cons_of_mem _ hg)
        ·exact Hle5.out f hf h (List.mem_cons_of_mem _ hm) g hg
       ·obtain ⟨h1, h3⟩ := Hown6.out
        refine ⟨h1, ?_⟩
        rcases h3 with h3 | ⟨g, cap, cur, q1, q2, q3, q4⟩
        ·exact .inl h3
        ·refine .inr ⟨g, cap, cur, q1, q2, (ht.block g (Array.getElem?_eq_some_iff.1 q3).1 (fun e => ?_)).trans q3, q4⟩
         subst e
         exact Hlies.out.2 (by rw [q1]; rfl))
      have hll : (lo ++ [x]).length = n + 1 := by rw [List.length_append, Hln.out]; rfl
      have Hll := kp hll
      have hmes : n + 1 ≤ (runsPl rs).length := by
       have h1 := (Hpm5.out ⟨none, x' :: xs, 0, 0⟩ rfl).length_eq
       rw [List.length_append] at h1
       unfold pls at h1
       rw [List.length_map, hll] at h1
       omega
      clear r1 rf1 hll
      have hne0 : ((xs.length : Int) + 1 == 0) = false := by rw [beq_eq_false_iff_ne]; omega
      rcases tl with _ | ⟨b, tl⟩
      ·have HFix := kp (fix1_any w.heap.size (w.heap.size + 1) gr c' _ w6 Hh6.out)
       unfold hpV at HFix
       go_wp2_with fail
       refine HFix.out.mono ?_
       rintro e w7 ⟨rfl, rfl⟩
       have He := kp (Hend.out w6 _ Hh6.out (fun p q e => by simp at e) (List.Perm.refl _) (Turn.refl _ _))
       clear HFix q0 qf0
       go_wp2_with fail
       refine ⟨⟨n + 1, gr, c', _, lo ++ [x], A5, c5, rfl, Hll.out, He.out.1, He.out.2.1, Hsl5.out, He.out.2.2.1, He.out.2.2.2.1, He.out.2.2.2.2.1, Hlies.out.1, Hlies.out.2, He.out.2.2.2.2.2⟩, by simp [lenOf]; omega⟩
      ·have htl0 : tl = [] := List.length_eq_zero_iff.1 (by simp at htl; exact htl ▸ rfl)
       subst htl0
       have HFix := kp (fix2_any w.heap.size (w.heap.size + 1) gr c' w.heap.size _ b w6 Hh6.out Hhd.out.1 ((Hst5.out.each b (by simp)).1.below Hb6.out) (Nat.le_trans Hbe5.out.size Hb6.out.size))
       unfold hpV at HFix
       go_wp2_with fail
       refine HFix.out.mono ?_
       rintro e w7 ⟨rfl, p, q, hpq, hh7, hor7, ht7⟩
       have He := kp (Hend.out w7 [p, q] hh7 (fun p' q' e => by injection e with e1 e2; injection e2 with e2; subst e1 e2; exact hor7) (by rcases hpq with ⟨rfl, rfl⟩ | ⟨rfl, rfl⟩; exact List.Perm.refl _; exact List.Perm.swap _ _ _) ht7)
       clear hh7 ht7 HFix q0 qf0
       go_wp2_with fail
       refine ⟨⟨n + 1, gr, c', [p, q], lo ++ [x], A5, c5, rfl, Hll.out, He.out.1, He.out.2.1, Hsl5.out, He.out.2.2.1, He.out.2.2.2.1, He.out.2.2.2.2.1, Hlies.out.1, Hlies.out.2, He.out.2.2.2.2.2⟩, by simp [lenOf]; omega⟩
section
attribute [local go_sem] Oper.semAt_some
set_option maxRecDepth 100000 in
set_option maxHeartbeats 2000000 in
theorem chunkR_stops (nn : Nat) (hn : 1 ≤ nn) (bs bn b off n cap size : Nat) (hsz : 1 ≤ size) (hs2 : size ≤ 1000000) (hn2 : n ≤ 1000000) (hnc : n ≤ cap) (hcm : cap ≤ 9223372036854775807) (w : World) (hbs : bs < w.heap.size) (hbn : bn < w.heap.size)
 (A : Option Addr) (hA : n = 0 ∨ A = some ⟨b, off, none⟩) (hcs : w.cell? ⟨bs, 0, none⟩ = some (.slice A n cap)) (hcn : w.cell? ⟨bn, 0, none⟩ = some (.int .i64 size)) :
 SeqStopsK Fence.wide nn Tryz.prog 111 #[.pointer (some ⟨bs, 0, none⟩), .pointer (some ⟨bn, 0, none⟩)] (fun x : Part n size => #[partV b off 1 n size x.1]) (Keep2 bs bn) (fun xs => xs.map (·.1) = List.range xs.length ∧ n ≤ xs.length * size) (fun _ => True) (n + 1) w := by
 intro l J Jx W hW hAJ _ hY h0
 have HAJ := kp hAJ
 have HY := kp hY
 clear hAJ hY
 have hcs' := (hW.cell (p := ⟨bs, 0, none⟩) hbs).trans hcs
 have hcn' := (hW.cell (p := ⟨bn, 0, none⟩) hbn).trans hcn
 refine callsIn_of_wp Tryz.func111 rfl trivial ?_ rfl
 simp only [Tryz.ntmps111, List.size_toArray, List.length_cons, List.length_nil, Nat.reduceAdd, Nat.reduceSub, Array.replicate_succ, Array.replicate_zero, List.push_toArray, List.append_toArray, List.nil_append, List.cons_append]
 gi_wp2
 gi_loopw [4] (fun i wr => ∃ (k q : Nat) (pre : List (Part n size)), q = k * size ∧ pre.length = k ∧ pre.map (·.1) = List.range k ∧ k ≤ n ∧ i = .int .i64 (q : Int) ∧ q ≤ n + size ∧ J pre wr ∧ Keep2 bs bn W wr)
  (fun i _ => n + size - (intOf i).toNat)
 case atStart => exact ⟨0, 0, [], by simp, rfl, rfl, Nat.zero_le _, rfl, Nat.zero_le _, h0, rfl, rfl⟩
 case round =>
  obtain ⟨k, q, pre, hq, hpl, hpm, hk, rfl, hqn, hJs, hkp⟩ := hrel
  have c1 : wr.cell? ⟨bs, 0, none⟩ = some (.slice A n cap) := (World.cell?_of_block (a := ⟨bs, 0, none⟩) hkp.1).trans hcs'
  have c2 : wr.cell? ⟨bn, 0, none⟩ = some (.int .i64 size) := (World.cell?_of_block (a := ⟨bn, 0, none⟩) hkp.2).trans hcn'
  have Hq := kp hq
  have Hpl := kp hpl
  have Hpm := kp hpm
  have Hkp := kp hkp
  have HJ := kp hJs
  clear hq hpl hpm hkp hJs
  by_cases hlt : q < n
  ·obtain rfl : A = some ⟨b, off, none⟩ := hA.resolve_left (by omega)
   obtain ⟨r, hr⟩ : ∃ r, n - q = r := ⟨_, rfl⟩
   have hcq : ¬ cap = q := by omega
   have hr1 : 1 ≤ r := by omega
   have hqr : q + r = n := by omega
   have hkx : k * size < n := by rw [← Hq.out]; exact hlt
   have HJd := kp (HAJ.out pre wr wr.drew none HJ.out ⟨rfl, rfl, rfl, Nat.le_refl _, fun _ _ _ => rfl⟩ (fun r e => by cases e))
   have hkn : k ≤ n := hk
   have HYk := kp (HY.out pre ⟨k, hkx⟩ wr.drew HJd.out (by rw [Hpl.out]; omega))
   have hkn1 : k + 1 ≤ n := by
    have h1 : k * 1 ≤ k * size := Nat.mul_le_mul_left k hsz
    omega
   by_cases hm : r < size
   ·have hx : partV b off 1 n size k = .slice (some ⟨b, off + q, none⟩) r r := by
     unfold partV
     rw [← Hq.out, Nat.mul_one, hr, Nat.min_eq_right (by omega)]
    have HY2 := HYk.out
    dsimp only at HY2
    rw [hx] at HY2
    obtain ⟨fn, tmps, assign, body, hy, hR⟩ := HY2
    have HR := kp hR
    clear hx HYk hR
    have hw1 : IntKind.i64.wrap ((q : Int) + (r : Int)) = (q : Int) + (r : Int) := IntWalk.i64_in _ (by omega)
    have hle : (r : Int) ≤ (r : Int) := by omega
    gi_wp2
    gi_region
    gi_wp2
    refine HR.out.mono ?_
    rintro e W3 (⟨rfl, hJ3, hk3⟩ | ⟨rfl, hJx3⟩)
    ·have HJ3 := kp hJ3
     have Hk3 := kp (Hkp.out.trans (show Keep2 bs bn wr W3 from hk3))
     have d2 : W3.cell? ⟨bn, 0, none⟩ = some (.int .i64 size) := (World.cell?_of_block (a := ⟨bn, 0, none⟩) Hk3.out.2).trans hcn'
     clear hJ3 hk3 c1 c2
     gi_wp2
     go_roundw
     case rel => exact ⟨k + 1, q + size, pre ++ [⟨k, hkx⟩], by rw [Nat.add_mul, Nat.one_mul, ← Hq.out], by rw [List.length_append, Hpl.out]; rfl, by rw [List.map_append, Hpm.out, List.range_succ]; rfl, by omega, by simp, by omega, HJ3.out, Hk3.out⟩
     case measure => simp [intOf]; omega
    ·have HJx := kp hJx3
     clear hJx3
     gi_wp2
     refine bodyPost_ret (results_none rfl _ _ _) rfl ?_
     exact ⟨⟨_, rfl⟩, .inr ⟨_, trivial, HJx.out⟩⟩
   ·have hx : partV b off 1 n size k = .slice (some ⟨b, off + q, none⟩) size size := by
     unfold partV
     rw [← Hq.out, Nat.mul_one, hr, Nat.min_eq_left (by omega)]
    have HY2 := HYk.out
    dsimp only at HY2
    rw [hx] at HY2
    obtain ⟨fn, tmps, assign, body, hy, hR⟩ := HY2
    have HR := kp hR
    clear hx HYk hR
    have hw1 : IntKind.i64.wrap ((q : Int) + (size : Int)) = (q : Int) + (size : Int) := IntWalk.i64_in _ (by omega)
    have hle : (size : Int) ≤ (r : Int) := by omega
    gi_wp2
    gi_region
    gi_wp2
    refine HR.out.mono ?_
    rintro e W3 (⟨rfl, hJ3, hk3⟩ | ⟨rfl, hJx3⟩)
    ·have HJ3 := kp hJ3
     have Hk3 := kp (Hkp.out.trans (show Keep2 bs bn wr W3 from hk3))
     have d2 : W3.cell? ⟨bn, 0, none⟩ = some (.int .i64 size) := (World.cell?_of_block (a := ⟨bn, 0, none⟩) Hk3.out.2).trans hcn'
     clear hJ3 hk3 c1 c2
     gi_wp2
     go_roundw
     case rel => exact ⟨k + 1, q + size, pre ++ [⟨k, hkx⟩], by rw [Nat.add_mul, Nat.one_mul, ← Hq.out], by rw [List.length_append, Hpl.out]; rfl, by rw [List.map_append, Hpm.out, List.range_succ]; rfl, by omega, by simp, by omega, HJ3.out, Hk3.out⟩
     case measure => simp [intOf]; omega
    ·have HJx := kp hJx3
     clear hJx3
     gi_wp2
     refine bodyPost_ret (results_none rfl _ _ _) rfl ?_
     exact ⟨⟨_, rfl⟩, .inr ⟨_, trivial, HJx.out⟩⟩
  ·have Hl := kp (show n ≤ pre.length * size by rw [Hpl.out, ← Hq.out]; omega)
   gi_wp2
   go_end0
   exact ⟨⟨_, rfl⟩, .inl ⟨pre, ⟨by rw [Hpm.out, Hpl.out], Hl.out⟩, HJ.out⟩⟩
set_option maxHeartbeats 1000000 in
theorem chunkR_any (A : Option Addr) (n c size : Nat) (hsz : 1 ≤ size) (w : World) : Calls Tryz.prog 84 #[.slice A n c, .int .i64 size] w fun e w' => e = .returned (.func (.func 111) #[] #[.pointer (some ⟨w.heap.size, 0, none⟩), .pointer (some ⟨w.heap.size + 1, 0, none⟩)]) ∧ w' = (w.alloc (.cells #[.slice A n c] 121)).alloc (.cells #[.int .i64 size] 3) := by
 have h1 : ¬ ((size : Nat) : Int) < 1 := by omega
 go_enter Tryz.func84, Tryz.ntmps84
 go_wp2_with fail
 go_ret
 exact ⟨rfl, rfl⟩
end
end Go.Proofs.YthmbgbmcdbdecaaGreat.Tc
