/- Parts of a proof: Layer 25: whether an arena is whole. Layer 29: who goes through a cube's tuples, and how he takes a fact. -/
import Derived.Test.YthmbgbmcdbdecaaGreatG05
import Derived.Test.YthmbgbmcdbdecaaGreatG32
import Derived.Test.YthmbgbmcdbdecaaGreatG36
import Derived.Test.YthmbgbmcdbdecaaGreatG37
import Derived.Test.YthmbgbmcdbdecaaGreatG38
namespace Go.Proofs.YthmbgbmcdbdecaaGreat.Tc
open Go.RowKit Base
set_option linter.unusedVariables false
set_option linter.unusedSimpArgs false
set_option maxRecDepth 100000 in
set_option maxHeartbeats 1000000 in
theorem index0_any (A : Option Addr) (c : Nat) (l : List Nat) (w : World) (hn : l.length ≤ 1000000) (hr : Row w w.heap.size A (natV l)) (hne : ∀ x ∈ l, x ≠ 0) :
 Calls Tryz.prog 76 #[.slice A l.length c, .int .i64 0] w fun e w' => e = .returned (.int .i64 (-1)) ∧ w' = w := by
 have HA := kp hr
 have Hne := kp hne
 clear hr hne
 obtain ⟨n, hN⟩ : ∃ n, l.length = n := ⟨_, rfl⟩
 rw [hN] at hn ⊢
 have Hn := kp hN
 clear hN
 go_enter Tryz.func76, Tryz.ntmps76
 go_wp2_with fail
 go_loop [8] (fun i => ∃ k : Nat, k ≤ n ∧ i = .int .i64 k) (fun i => n - (intOf i).toNat)
 case atStart => exact ⟨0, Nat.zero_le _, rfl⟩
 case round =>
  obtain ⟨k, hk, rfl⟩ := hrel
  by_cases hla : k < n
  ·have hkl : k < l.length := by rw [Hn.out]; exact hla
   obtain ⟨bA, oA, hA, hbA, c0⟩ := Row.at_ HA.out (k := k) (by rw [natV_len]; exact hkl)
   unfold natV at c0
   rw [List.getElem_map] at c0
   have hx := Hne.out _ (List.getElem_mem hkl)
   generalize (l[k]'hkl) = x at *
   have q : ((0 : Int) == (x : Int)) = false := by simp; omega
   have hi0 : (0 : Int) ≤ (k : Int) := by omega
   have hi1 : (k : Int) < (n : Int) := by omega
   rw [hA]
   clear hx
   go_wp2_with fail
   go_round
   case rel => exact ⟨k + 1, by omega, by go_num⟩
   case measure => simp [intOf]; omega
  ·obtain rfl : k = n := by omega
   go_wp2_with fail
   go_ret
   exact ⟨rfl, rfl⟩
structure Whl (nx : Nat) (P : List PNode) : Prop where
 back : ∀ (i : Nat) (n : PNode), P[i]? = some n → n.dim + 1 < nx → ∀ c ∈ cellsP n, c.child < i
 top : ∀ n : PNode, P[P.length - 1]? = some n → n.dim = 0
 led : ∀ j : Nat, j + 1 < P.length → ∃ (i : Nat) (n : PNode) (c : Cl), P[i]? = some n ∧ n.dim + 1 < nx ∧ c ∈ cellsP n ∧ c.child = j
 dim : ∀ n ∈ P, n.dim < nx
structure Cnt (nx k j : Nat) (P : List PNode) (M : List Nat) : Prop where
 len : M.length = P.length
 le : ∀ x ∈ M, x ≤ k * 4001 + j
 led : ∀ (i : Nat) (n : PNode), i < k → P[i]? = some n → n.dim + 1 < nx → ∀ c ∈ cellsP n, ∃ x, M[c.child]? = some x ∧ x ≠ 0
 cur : ∀ n : PNode, P[k]? = some n → ∀ (i : Nat) (c : Cl), i < j → (cellsP n)[i]? = some c → ∃ x, M[c.child]? = some x ∧ x ≠ 0
section
variable {nx k j : Nat} {P : List PNode} {M : List Nat}
theorem Cnt.zero (nx : Nat) (P : List PNode) : Cnt nx 0 0 P (List.replicate P.length 0) := ⟨by simp, fun x hx => by rw [List.eq_of_mem_replicate hx]; exact Nat.zero_le _, fun i n h => by omega, fun n _ i c h => by omega⟩
theorem Cnt.step (h : Cnt nx k j P M) {n : PNode} (hn : P[k]? = some n) {c : Cl} (hc : (cellsP n)[j]? = some c) {x : Nat} (hx : M[c.child]? = some x) : Cnt nx k (j + 1) P (M.set c.child (x + 1)) := by
 have hlt := (List.getElem?_eq_some_iff.1 hx).1
 have hkeep : ∀ i y, M[i]? = some y → y ≠ 0 → ∃ z, (M.set c.child (x + 1))[i]? = some z ∧ z ≠ 0 := fun i y hy h0 => by
  by_cases e : c.child = i
  ·subst e; exact ⟨x + 1, by rw [List.getElem?_set_self hlt], by omega⟩
  ·exact ⟨y, by rw [List.getElem?_set_ne e]; exact hy, h0⟩
 refine ⟨by rw [List.length_set]; exact h.len, fun y hy => ?_, fun i m hi hm hd d hd' => ?_, fun m hm i d hi hd => ?_⟩
 ·rcases List.mem_or_eq_of_mem_set hy with hy | rfl
  ·have := h.le y hy; omega
  ·have := h.le x (List.mem_of_getElem? hx); omega
 ·obtain ⟨y, hy, h0⟩ := h.led i m hi hm hd d hd'
  exact hkeep _ _ hy h0
 ·by_cases hij : i < j
  ·obtain ⟨y, hy, h0⟩ := h.cur m hm i d hij hd
   exact hkeep _ _ hy h0
  ·obtain rfl : i = j := by omega
   rw [hn] at hm
   injection hm with hm
   subst hm
   rw [hc] at hd
   injection hd with hd
   subst hd
   exact ⟨x + 1, by rw [List.getElem?_set_self hlt], by omega⟩
theorem Cnt.next (h : Cnt nx k j P M) {n : PNode} (hn : P[k]? = some n) (hj : (cellsP n).length = j) (hj2 : j ≤ 4001) : Cnt nx (k + 1) 0 P M := by
 refine ⟨h.len, fun x hx => (by rw [Nat.succ_mul]; exact Nat.le_trans (h.le x hx) (Nat.add_le_add_left hj2 _)), fun i m hi hm hd c hc => ?_, fun m _ i c hi => absurd hi (Nat.not_lt_zero _)⟩
 by_cases hik : i < k
 ·exact h.led i m hik hm hd c hc
 ·obtain rfl : i = k := by omega
  rw [hn] at hm
  injection hm with hm
  subst hm
  obtain ⟨q, hq, rfl⟩ := List.getElem_of_mem hc
  exact h.cur n hn q _ (by omega) (List.getElem?_eq_getElem hq)
theorem Cnt.skip (h : Cnt nx k 0 P M) {n : PNode} (hn : P[k]? = some n) (hd : ¬ n.dim + 1 < nx) : Cnt nx (k + 1) 0 P M := by
 refine ⟨h.len, fun x hx => (by have h1 := h.le x hx; rw [Nat.succ_mul, Nat.add_zero]; rw [Nat.add_zero] at h1; exact Nat.le_trans h1 (Nat.le_add_right _ _)), fun i m hi hm hd' c hc => ?_, fun m _ i c hi => absurd hi (Nat.not_lt_zero _)⟩
 by_cases hik : i < k
 ·exact h.led i m hik hm hd' c hc
 ·obtain rfl : i = k := by omega
  rw [hn] at hm
  injection hm with hm
  subst hm
  exact absurd hd' hd
theorem Cnt.done (hw : Whl nx P) (h : Cnt nx P.length 0 P M) : ∀ x ∈ M.take (P.length - 1), x ≠ 0 := by
 intro x hx
 obtain ⟨i, hi, rfl⟩ := List.getElem_of_mem hx
 rw [List.length_take] at hi
 obtain ⟨q, n, c, h1, h2, h3, h4⟩ := hw.led i (by omega)
 obtain ⟨y, hy, h0⟩ := h.led q n (List.getElem?_eq_some_iff.1 h1).1 h1 h2 c h3
 rw [h4] at hy
 rw [List.getElem_take]
 obtain ⟨h5, h6⟩ := List.getElem?_eq_some_iff.1 hy
 rw [h6]
 exact h0
end
theorem own1_at {w : World} {B : Nat} {e : TypeId} {g n c : Nat} {xs : List Value} (h : w.ownsRow B e 1 (.slice (some ⟨g, 0, none⟩) n c) n xs) {i : Nat} {v : Value} (hv : xs[i]? = some v) : w.cell? ⟨g, i, none⟩ = some v ∧ w.frozen? ⟨g, i, none⟩ = false := by
 rcases h.2 with ⟨h2, _⟩ | ⟨g', cap, cur, hv', hB, hh, hnc, hcm, hcs, ht⟩
 ·cases h2
 ·injection hv' with hA _ hc
  injection hA with hA
  injection hA with hg _ _
  subst hg
  have hb : Box w g e cur := hh
  refine ⟨?_, hb.free i⟩
  rw [hb.cell i]
  rw [← ht, List.getElem?_take] at hv
  split at hv
  ·simpa using hv
  ·cases hv
theorem natV_set (l : List Nat) (i x : Nat) : (natV l).set i (.int .i64 (x : Nat)) = natV (l.set i x) := by unfold natV; rw [List.map_set]
set_option maxRecDepth 100000 in
set_option maxHeartbeats 8000000 in
theorem whole_any (ga : Nat) (As An : Option Addr) (nx cs m cn most : Nat) (nds : List Nd) (w : World) (hbx : Box w ga 138 (arC As nx cs m An nds.length cn most)) (h : NdsAt w w.heap.size An nds)
 (hn1 : 1 ≤ nx) (hn16 : nx ≤ 16) (hnn : nds.length ≤ 1000000) (hsm : ∀ n ∈ nds, NdSm n) (hl : ∀ n ∈ nds, ∀ l ∈ n.ls, l.cs.length ≤ 1000) (hw : Whl nx (nds.map plN)) :
 Calls Tryz.prog 42 #[.pointer (some ⟨ga, 0, none⟩)] w fun e w' => e = .returned (.bool true) ∧ Below w.heap.size w w' := by
 obtain ⟨i0, ti0, tz0, tz1, tz2⟩ := info_parts info_int
 have HT := kp (there_any ga As An nx cs m nds.length cn most w hbx hn1)
 have HTop := kp (fun W (hW : Below w.heap.size w W) => top_any ga As An nx cs m nds.length cn most W (hbx.under hW) hn1 hnn)
 have HL := kp (fun W dim (hd : dim < nx) => last_any As nx cs m dim W hn1 (by omega) (by omega))
 have HE := kp (fun n (hn : n ∈ nds) W (hW : Below w.heap.size w W) => each_any n W (((h.each n hn).below hW).more hW.size) (hsm n hn).n4 (hl n hn))
 have HI := kp index0_any
 have Hc4 := kp (show ∀ n ∈ nds, (cellsP (plN n)).length ≤ 4001 from fun n hn => by
  have h1 := count_le (fun l hl' => hl n hn l hl') n.ls.length
  rw [List.take_of_length_le (Nat.le_refl _)] at h1
  have h2 : n.ls.length * 1000 ≤ 4 * 1000 := Nat.mul_le_mul_right _ (hsm n hn).n4
  have h3 : (cellsP (plN n)).length = (n.ls.map fun l => l.cs.length).sum + 1 := by
   unfold cellsP plN
   rw [List.length_append, List.length_flatten, List.map_map]
   rfl
  omega)
 have Hw := kp hw
 have Hh := kp h
 have Hbx := kp hbx
 obtain ⟨⟨a0, a1, a2, a3⟩, _⟩ := Box.four hbx
 have hga : ga < w.heap.size := hbx.lt
 obtain ⟨n, hn⟩ : ∃ n, nds.length = n := ⟨_, rfl⟩
 have Hn := kp hn
 rw [hn] at HTop Hbx hnn a2
 have HPn := kp (show (nds.map plN).length = n by rw [List.length_map]; exact hn)
 clear hn hbx h hsm hl hw
 go_enter Tryz.func42, Tryz.ntmps42
 go_wp2_with fail
 refine HT.out.mono ?_
 rintro e w1 ⟨rfl, rfl⟩
 by_cases h0 : n = 0
 ·have q0 : ((n : Int) == 0) = true := by rw [h0]; rfl
  go_wp2_with fail
  go_ret
  exact ⟨rfl, Below.refl _ _⟩
 ·have q0 : ((n : Int) == 0) = false := by simp; omega
  go_wp2_with (at_make; refine wpList_make_full _ rfl _ _ 41 rfl w.heap.size 3 i0 (.int .i64 0) 1 Tryz.underlying41 ti0 tz0 tz1 .i64 .i64 (n : Int) (n : Int) n rfl rfl rfl rfl (by rw [tz2]; omega) (by unfold maxLen; omega) (Nat.le_refl _) ?_; intro w2 hown2 hgr2; have Hown2 := kp hown2; have Hb2 := kp (show Below w.heap.size w w2 from (Below.refl _ _).grown hgr2 (Nat.le_refl _) (fun k hk => by cases hk)); clear hown2 hgr2 a0 a1 a2 a3; obtain ⟨⟨a0, a1, a2, a3⟩, _⟩ := Box.four (Hbx.out.under Hb2.out))
  have hM0 := kp (show w2.ownsRow w.heap.size 3 1 (.slice (some ⟨w.heap.size, 0, none⟩) n n) n (natV (List.replicate n 0)) by
   have h1 := Hown2.out
   rw [Nat.mul_one, show (Value.int .i64 0).cells = #[.int .i64 0] from rfl, toList_madeCells_one] at h1
   have e : natV (List.replicate n 0) = List.replicate n (.int .i64 0) := by unfold natV; rw [List.map_replicate]; rfl
   rw [e]
   exact h1)
  have hg2 := (hM0.out.lt w.heap.size rfl).2
  have Hg2 := kp hg2
  clear hg2 Hown2 a0 a1 a2 a3 HT
  go_loopw [28] (fun v28 wr => ∃ (k : Nat) (M : List Nat), k ≤ n ∧ v28 = .int .i64 (k : Nat) ∧ wr.ownsRow w.heap.size 3 1 (.slice (some ⟨w.heap.size, 0, none⟩) n n) n (natV M) ∧ Cnt nx k 0 (nds.map plN) M ∧ Below w.heap.size w wr) (fun v28 _ => n - (intOf v28).toNat)
  case atStart => exact ⟨0, List.replicate n 0, Nat.zero_le _, rfl, hM0.out, by have := Cnt.zero nx (nds.map plN); rw [HPn.out] at this; exact this, Hb2.out⟩
  case round =>
   obtain ⟨k, M, hk, rfl, hown, hcnt, hbe⟩ := hrel
   have Hown := kp hown
   have Hcnt := kp hcnt
   have Hbe := kp hbe
   clear hown hcnt hbe
   obtain ⟨⟨a0, a1, a2, a3⟩, _⟩ := Box.four (Hbx.out.under Hbe.out)
   by_cases hlt : k < n
   ·have hkd : k < nds.length := by rw [Hn.out]; exact hlt
    have hat := (Hh.out.below Hbe.out).more Hbe.out.size
    obtain ⟨bn, on, hA, hbn, d0, d1, d2, d3, d4, d5, d6, d7, d8, d9, d10, d11, d12, d13⟩ := nodes_at hat.row k hkd
    have hmem := List.getElem_mem hkd
    have HEk := kp (HE.out _ hmem)
    have hdk := Hw.out.dim (plN (nds[k]'hkd)) (List.mem_map_of_mem hmem)
    have hPk : (nds.map plN)[k]? = some (plN (nds[k]'hkd)) := by rw [List.getElem?_map, List.getElem?_eq_getElem hkd]; rfl
    have HPk := kp hPk
    have Hc := kp (Hc4.out _ hmem)
    have HBk := kp (Hw.out.back k _ hPk)
    have Hcl := kp (show (nds[k]'hkd).ls.flatMap Ll.cs ++ [(nds[k]'hkd).all] = cellsP (plN (nds[k]'hkd)) by unfold cellsP plN; simp [List.flatMap_def])
    have Hdm := kp (show (plN (nds[k]'hkd)).dim = (nds[k]'hkd).dim from rfl)
    have hdk2 : (nds[k]'hkd).dim < nx := hdk
    clear hdk hPk hat hmem
    generalize (nds[k]'hkd) = nd at *
    have hb3 := (Below.refl wr.heap.size wr).alloc (Nat.le_refl _) (.cells #[.int .i64 0, .slice none 0 0, .int .i64 0, .int .i64 0, .int .i64 0, .int .i64 0, .int .i64 0, .int .i64 0, .int .i64 0, .int .i64 0, .int .i64 0, .int .i64 0, .int .i64 0, .int .i64 0] 108)
    have HZ := kp (Box.new wr 108 #[.int .i64 0, .slice none 0 0, .int .i64 0, .int .i64 0, .int .i64 0, .int .i64 0, .int .i64 0, .int .i64 0, .int .i64 0, .int .i64 0, .int .i64 0, .int .i64 0, .int .i64 0, .int .i64 0])
    have Hb4 := kp (below_setAll (Nat.le_refl _) (ndV nd) _ 0 hb3)
    have HB4 := kp (show Box (setAll (wr.alloc (.cells #[.int .i64 0, .slice none 0 0, .int .i64 0, .int .i64 0, .int .i64 0, .int .i64 0, .int .i64 0, .int .i64 0, .int .i64 0, .int .i64 0, .int .i64 0, .int .i64 0, .int .i64 0, .int .i64 0] 108)) wr.heap.size 0 (ndV nd)) wr.heap.size 108 (ndC nd) from box_setAll0 HZ.out (ndV nd) rfl)
    obtain ⟨⟨r0, r1, r2, r3, r4, r5, r6, r7, r8, r9, r10, r11, r12, r13⟩, ⟨f0, f1, f2, f3, f4, f5, f6, f7, f8, f9, f10, f11, f12, f13⟩⟩ := Box.fourteen HZ.out
    have hi0 : (0 : Int) ≤ (k : Int) := by omega
    have hi1 : (k : Int) < (n : Int) := by omega
    generalize plN nd = pn at *
    clear hb3 HZ
    obtain ⟨dim, nA, ls, nc, ⟨key, child, ⟨ac, s0, n0, x0, s1, n1, x1, s2, n2, x2⟩⟩⟩ := nd
    dsimp only [ndC, ndV] at HEk HB4 Hb4 Hcl Hdm hdk2 d0 d1 d2 d3 d4 d5 d6 d7 d8 d9 d10 d11 d12 d13
    generalize hW3 : wr.alloc (.cells #[.int .i64 0, .slice none 0 0, .int .i64 0, .int .i64 0, .int .i64 0, .int .i64 0, .int .i64 0, .int .i64 0, .int .i64 0, .int .i64 0, .int .i64 0, .int .i64 0, .int .i64 0, .int .i64 0] 108) = W3 at *
    generalize hW4 : setAll W3 wr.heap.size 0 _ = W4 at *
    simp only [setAll, Nat.zero_add, Nat.reduceAdd] at hW4
    rw [hA]
    go_upto_region 9 with fail
    clear hW3 hW4 d0 d1 d2 d3 d4 d5 d6 d7 d8 d9 d10 d11 d12 d13 r0 r1 r2 r3 r4 r5 r6 r7 r8 r9 r10 r11 r12 r13 f0 f1 f2 f3 f4 f5 f6 f7 f8 f9 f10 f11 f12 f13 a0 a1 a2 a3
    have hwr := Hbe.out.size
    have HbW := kp (Hbe.out.trans (Hb4.out.mono Hbe.out.size))
    have HBg := kp (Hbx.out.under HbW.out)
    obtain ⟨⟨a0, a1, a2, a3⟩, _⟩ := Box.four HBg.out
    obtain ⟨z0, z1, z2, z3, z4, z5, z6, z7, z8, z9, z10, z11, z12, z13⟩ := (Box.fourteen HB4.out).1
    have HLk := kp (HL.out W4.drew dim hdk2)
    by_cases hd : dim + 1 = nx
    ·have qd : decide (dim + 1 = nx) = true := decide_eq_true hd
     rw [qd] at HLk
     refine wp_region_noPanic ?_
     refine wp_region_T (t := 99) (S := (fun w' => w'.cell? ⟨ga, 0, none⟩ = some (.slice As nx cs) ∧ w'.cell? ⟨ga, 1, none⟩ = some (.int .i64 (m : Nat)) ∧ w'.cell? ⟨wr.heap.size, 0, none⟩ = some (.int .i64 (dim : Nat)))) (by kernel_rfl) ⟨a0, a1, z0⟩ (fun hHeld => ?_)
     refine tk 0 hHeld ?_
     refine tk 1 hHeld ?_
     refine tk 2 hHeld ?_
     refine tk 3 hHeld ?_
     refine tk 4 hHeld ?_
     refine tk 5 hHeld ?_
     refine wpAnyT_one (i := 6) (o := ?op6) (by kernel_rfl) ?ap6 (by decide) (fun K hK => ?bp6)
     case ap6 => (simp only [List.getElem?_toArray, List.getElem?_cons_succ, List.getElem?_cons_zero]; exact rfl)
     go_simp
     refine HLk.out.mono ?_
     rintro e wc ⟨rfl, hbc⟩
     have Hbc := kp (show Below W4.heap.size W4 wc from (Below.refl _ _).drew.trans hbc)
     clear hbc
     refine hK.out _ _ ?_ (fun hHeld2 => ?_)
     ·exact ⟨cell_keep Hbc.out a0, cell_keep Hbc.out a1, cell_keep Hbc.out z0⟩
     clear hK K hHeld
     have hHeld := hHeld2
     clear hHeld2
     try simp only [Act.put, List.setIfInBounds_toArray, List.set_cons_zero, List.set_cons_succ]
     refine wpAnyT_done (by kernel_rfl) ?_ _
     try clear hHeld
     refine NoPanic.normal ?_
     have Hb5 := kp (HbW.out.trans (Hbc.out.mono HbW.out.size))
     have Hown5 := kp (own_below (own_below Hown.out Hb4.out) Hbc.out)
     have Hcn5 := kp (Cnt.skip Hcnt.out HPk.out (by rw [Hdm.out]; omega))
     clear a0 a1 a2 a3 z0 z1 z2 z3 z4 z5 z6 z7 z8 z9 z10 z11 z12 z13
     go_wp2_with fail
     exact ⟨⟨k + 1, M, by omega, by go_num, Hown5.out, Hcn5.out, Hb5.out⟩, by simp [intOf]; omega⟩
    ·have qd : decide (dim + 1 = nx) = false := decide_eq_false hd
     rw [qd] at HLk
     refine wp_region_noPanic ?_
     refine wp_region_T (t := 99) (S := (fun w' => w'.cell? ⟨ga, 0, none⟩ = some (.slice As nx cs) ∧ w'.cell? ⟨ga, 1, none⟩ = some (.int .i64 (m : Nat)) ∧ w'.cell? ⟨wr.heap.size, 0, none⟩ = some (.int .i64 (dim : Nat)))) (by kernel_rfl) ⟨a0, a1, z0⟩ (fun hHeld => ?_)
     refine tk 0 hHeld ?_
     refine tk 1 hHeld ?_
     refine tk 2 hHeld ?_
     refine tk 3 hHeld ?_
     refine tk 4 hHeld ?_
     refine tk 5 hHeld ?_
     refine wpAnyT_one (i := 6) (o := ?oq6) (by kernel_rfl) ?aq6 (by decide) (fun K hK => ?bq6)
     case aq6 => (simp only [List.getElem?_toArray, List.getElem?_cons_succ, List.getElem?_cons_zero]; exact rfl)
     go_simp
     refine HLk.out.mono ?_
     rintro e wc ⟨rfl, hbc⟩
     have Hbc := kp (show Below W4.heap.size W4 wc from (Below.refl _ _).drew.trans hbc)
     clear hbc
     refine hK.out _ _ ?_ (fun hHeld2 => ?_)
     ·exact ⟨cell_keep Hbc.out a0, cell_keep Hbc.out a1, cell_keep Hbc.out z0⟩
     clear hK K hHeld
     have hHeld := hHeld2
     clear hHeld2
     try simp only [Act.put, List.setIfInBounds_toArray, List.set_cons_zero, List.set_cons_succ]
     refine wpAnyT_done (by kernel_rfl) ?_ _
     try clear hHeld
     refine NoPanic.normal ?_
     have Hb5 := kp (HbW.out.trans (Hbc.out.mono HbW.out.size))
     have Hown5 := kp (own_below (own_below Hown.out Hb4.out) Hbc.out)
     have HB5 := kp (HB4.out.under Hbc.out)
     clear a0 a1 a2 a3 z0 z1 z2 z3 z4 z5 z6 z7 z8 z9 z10 z11 z12 z13
     obtain ⟨z0, z1, z2, z3, z4, z5, z6, z7, z8, z9, z10, z11, z12, z13⟩ := (Box.fourteen HB5.out).1
     have HE5 := kp (HEk.out wc Hb5.out)
     have hgwc : w.heap.size + 1 ≤ wc.heap.size := by have := (Hown5.out.lt w.heap.size rfl).2; omega
     go_wp2_with fail
     refine HE5.out.mono ?_
     rintro e w6 ⟨v6, rfl, hcs, hb6⟩
     obtain ⟨A6, c6, rfl⟩ := own_formK hcs
     rw [Hcl.out] at hcs
     have Hcs6 := kp (own_base hcs hgwc)
     have hcl : (ls.flatMap Ll.cs ++ [(⟨key, child, ⟨ac, s0, n0, x0, s1, n1, x1, s2, n2, x2⟩⟩ : Cl)]).length = (cellsP pn).length := congrArg List.length Hcl.out
     rw [hcl]
     have Hown6 := kp (own_below Hown5.out hb6)
     have Hb6 := kp (Hb5.out.trans (hb6.mono Hb5.out.size))
     have HBk2 := kp (HBk.out (by rw [Hdm.out]; omega))
     clear hcs hb6 hcl z0 z1 z2 z3 z4 z5 z6 z7 z8 z9 z10 z11 z12 z13 HB5 HEk HE5 hgwc
     obtain ⟨q, hq⟩ : ∃ q, (cellsP pn).length = q := ⟨_, rfl⟩
     have Hq := kp hq
     rw [hq] at Hcs6 ⊢
     have hq6 : q ≤ 4001 := by rw [← hq]; exact Hc.out
     clear hq
     go_wp2_with fail
     go_loopw [42] (fun v42 wj => ∃ (j : Nat) (M' : List Nat), j ≤ q ∧ v42 = .int .i64 (j : Nat) ∧ wj.ownsRow w.heap.size 3 1 (.slice (some ⟨w.heap.size, 0, none⟩) n n) n (natV M') ∧ Cnt nx k j (nds.map plN) M' ∧ Over (w.heap.size + 1) w6 wj ∧ Below w.heap.size w wj) (fun v42 _ => q - (intOf v42).toNat)
     case atStart => exact ⟨0, M, Nat.zero_le _, rfl, Hown6.out, Hcnt.out, ⟨Nat.le_refl _, fun _ _ _ => rfl⟩, Hb6.out⟩
     case round =>
      obtain ⟨j, M', hj, rfl, hownj, hcntj, hovj, hbj⟩ := hrel
      have Hownj := kp hownj
      have Hcntj := kp hcntj
      have Hovj := kp hovj
      have Hbj := kp hbj
      clear hownj hcntj hovj hbj
      by_cases hjl : j < q
      ·have hjc : j < (cellsP pn).length := by rw [Hq.out]; exact hjl
       obtain ⟨bc, oc, hAc, hbc, e0, e1, e2, e3, e4, e5, e6, e7, e8, e9, e10, e11⟩ := cells_at (row_ownK (own_over Hcs6.out Hovj.out)) j hjc
       have hch := HBk2.out _ (List.getElem_mem hjc)
       have Hcj := kp (show (cellsP pn)[j]? = some ((cellsP pn)[j]'hjc) from List.getElem?_eq_getElem hjc)
       generalize ((cellsP pn)[j]'hjc) = cc at *
       obtain ⟨ck, cch, ⟨ca, s0c, n0c, x0c, s1c, n1c, x1c, s2c, n2c, x2c⟩⟩ := cc
       dsimp only at e0 e1 e2 e3 e4 e5 e6 e7 e8 e9 e10 e11 hch
       have hlM : M'.length = n := Hcntj.out.len.trans HPn.out
       obtain ⟨x, hx⟩ : ∃ x, M'[cch]? = some x := ⟨_, List.getElem?_eq_getElem (by rw [hlM]; omega)⟩
       have hxb : x ≤ 1000000 * 4001 + 4001 := by
        have h1 := Hcntj.out.le x (List.mem_of_getElem? hx)
        have h2 : k * 4001 ≤ 1000000 * 4001 := Nat.mul_le_mul_right _ (by omega)
        omega
       have Hst := kp (Cnt.step Hcntj.out HPk.out Hcj.out hx)
       have hxv : (natV M')[cch]? = some (.int .i64 (x : Nat)) := by unfold natV; rw [List.getElem?_map, hx]; rfl
       have hxl : cch < (natV M').length := (List.getElem?_eq_some_iff.1 hxv).1
       have hb8 := (Below.refl wr.heap.size wr).alloc (Nat.le_refl _) (.cells #[.int .i64 0, .int .i64 0, .int .i64 0, .int .i64 0, .int .i64 0, .int .i64 0, .int .i64 0, .int .i64 0, .int .i64 0, .int .i64 0, .int .i64 0, .int .i64 0] 106)
       have HZ8 := kp (Box.new wr 106 #[.int .i64 0, .int .i64 0, .int .i64 0, .int .i64 0, .int .i64 0, .int .i64 0, .int .i64 0, .int .i64 0, .int .i64 0, .int .i64 0, .int .i64 0, .int .i64 0])
       have Hb9 := kp (below_setAll (Nat.le_refl _) [.int .i64 (ck : Nat), .int .i64 (cch : Nat), .int .i64 ca, .int .i64 s0c, .int .i64 n0c, .int .i64 x0c, .int .i64 s1c, .int .i64 n1c, .int .i64 x1c, .int .i64 s2c, .int .i64 n2c, .int .i64 x2c] _ 0 hb8)
       have HB9 := kp (show Box (setAll (wr.alloc (.cells #[.int .i64 0, .int .i64 0, .int .i64 0, .int .i64 0, .int .i64 0, .int .i64 0, .int .i64 0, .int .i64 0, .int .i64 0, .int .i64 0, .int .i64 0, .int .i64 0] 106)) wr.heap.size 0 [.int .i64 (ck : Nat), .int .i64 (cch : Nat), .int .i64 ca, .int .i64 s0c, .int .i64 n0c, .int .i64 x0c, .int .i64 s1c, .int .i64 n1c, .int .i64 x1c, .int .i64 s2c, .int .i64 n2c, .int .i64 x2c]) wr.heap.size 106 #[.int .i64 (ck : Nat), .int .i64 (cch : Nat), .int .i64 ca, .int .i64 s0c, .int .i64 n0c, .int .i64 x0c, .int .i64 s1c, .int .i64 n1c, .int .i64 x1c, .int .i64 s2c, .int .i64 n2c, .int .i64 x2c] from box_setAll0 HZ8.out [.int .i64 (ck : Nat), .int .i64 (cch : Nat), .int .i64 ca, .int .i64 s0c, .int .i64 n0c, .int .i64 x0c, .int .i64 s1c, .int .i64 n1c, .int .i64 x1c, .int .i64 s2c, .int .i64 n2c, .int .i64 x2c] rfl)
       obtain ⟨⟨r0, r1, r2, r3, r4, r5, r6, r7, r8, r9, r10, r11⟩, ⟨f0, f1, f2, f3, f4, f5, f6, f7, f8, f9, f10, f11⟩⟩ := Box.twelve HZ8.out
       generalize hW8 : wr.alloc (.cells #[.int .i64 0, .int .i64 0, .int .i64 0, .int .i64 0, .int .i64 0, .int .i64 0, .int .i64 0, .int .i64 0, .int .i64 0, .int .i64 0, .int .i64 0, .int .i64 0] 106) = W8 at *
       generalize hW9 : setAll W8 wr.heap.size 0 _ = W9 at *
       simp only [setAll, Nat.zero_add, Nat.reduceAdd] at hW9
       have hz1 : W9.cell? ⟨wr.heap.size, 1, none⟩ = some (.int .i64 (cch : Nat)) := HB9.out.cell 1
       have Hown9 := kp (own_below Hownj.out Hb9.out)
       obtain ⟨m0, m1⟩ := own1_at Hown9.out hxv
       have j0 : (0 : Int) ≤ (j : Int) := by omega
       have j1 : (j : Int) < (q : Int) := by omega
       have j2 : (0 : Int) ≤ (cch : Int) := by omega
       have j3 : (cch : Int) < (n : Int) := by omega
       have hwx : IntKind.i64.wrap ((x : Int) + 1) = (x : Int) + 1 := IntWalk.i64_in _ (by omega)
       have Hov9 := kp (show Over (w.heap.size + 1) w6 (W9.setCell ⟨w.heap.size, cch, none⟩ (.int .i64 ((x : Int) + 1))) from (Hovj.out.trans (Over.under Hb9.out)).trans ⟨by simp, fun i hi _ => Below.heap_setCell W9 ⟨w.heap.size, cch, none⟩ _ i (by dsimp only; omega)⟩)
       have Hbw9 := kp (show Below w.heap.size w (W9.setCell ⟨w.heap.size, cch, none⟩ (.int .i64 ((x : Int) + 1))) from (Hbj.out.trans (Hb9.out.mono Hbj.out.size)).setCell (p := ⟨w.heap.size, cch, none⟩) (Nat.le_refl _) _)
       have HownN := kp (show (W9.setCell ⟨w.heap.size, cch, none⟩ (.int .i64 ((x : Int) + 1))).ownsRow w.heap.size 3 1 (.slice (some ⟨w.heap.size, 0, none⟩) n n) n (natV (M'.set cch (x + 1))) by
        have := own_set1 Hown9.out hxl (.int .i64 ((x + 1 : Nat) : Int))
        rw [natV_set] at this
        exact this)
       clear hx hxv hxl hlM hxb hb8 HZ8 HB9
       rw [hAc]
       go_wp2_with fail
       exact ⟨⟨j + 1, M'.set cch (x + 1), by omega, by go_num, HownN.out, Hst.out, Hov9.out, Hbw9.out⟩, by simp [intOf]; omega⟩
      ·obtain rfl : j = q := by omega
       have HcN := kp (Cnt.next Hcntj.out HPk.out Hq.out hq6)
       go_wp2_with fail
       exact ⟨⟨k + 1, M', by omega, by go_num, Hownj.out, HcN.out, Hbj.out⟩, by simp [intOf]; omega⟩
   ·obtain rfl : k = n := by omega
    obtain ⟨mm, hmm⟩ : ∃ mm, k = mm + 1 := ⟨k - 1, by omega⟩
    have hkd : mm < nds.length := by rw [Hn.out]; omega
    have hat := (Hh.out.below Hbe.out).more Hbe.out.size
    obtain ⟨bn, on, hA, hbn, d0, drest⟩ := nodes_at hat.row mm hkd
    have hdim : (nds[mm]'hkd).dim = 0 := Hw.out.top (plN (nds[mm]'hkd)) (by rw [HPn.out, hmm, Nat.add_sub_cancel, List.getElem?_map, List.getElem?_eq_getElem hkd]; rfl)
    rw [hdim] at d0
    have d0' : wr.cell? ⟨bn, on + mm * 14, none⟩ = some (.int .i64 0) := d0
    have hcn : Cnt nx (nds.map plN).length 0 (nds.map plN) M := by rw [HPn.out]; exact Hcnt.out
    have hMd := Cnt.done Hw.out hcn
    rw [HPn.out, hmm, Nat.add_sub_cancel] at hMd
    have hMt : (M.take mm).length = mm := by rw [List.length_take, Hcnt.out.len, HPn.out]; omega
    have HIk := kp (show ∀ W, Below wr.heap.size wr W → Calls Tryz.prog 76 #[.slice (some ⟨w.heap.size, 0, none⟩) mm k, .int .i64 0] W fun e w' => e = .returned (.int .i64 (-1)) ∧ w' = W from fun W hW => by
     have h1 := index0_any (some ⟨w.heap.size, 0, none⟩) k (M.take mm) W (by omega) (by
      have h2 := (row_ownK (own_below Hown.out hW)).take mm
      unfold natV at *
      rw [List.map_take]
      exact h2) hMd
     rw [hMt] at h1
     exact h1)
    have HTk := kp (show ∀ W, Below wr.heap.size wr W → Calls Tryz.prog 36 #[.pointer (some ⟨ga, 0, none⟩)] W fun e w' => e = .returned (.int .i64 (mm : Nat)) ∧ w' = W from fun W hW => by
     have h1 := HTop.out W (Hbe.out.trans (hW.mono Hbe.out.size))
     rw [show (k : Int) - 1 = ((mm : Nat) : Int) by omega] at h1
     exact h1)
    have i0' : (0 : Int) ≤ (mm : Int) := by omega
    have i1' : (mm : Int) < (k : Int) := by omega
    have i2' : (mm : Int) ≤ (k : Int) := by omega
    clear drest hMd hMt hcn hdim hat d0 hmm hkd
    rw [hA] at a2
    rw [hA]
    go_upto_region 16 with fail
    refine wp_region_noPanic ?_
    refine wp_region_T (t := 99) (S := (fun w' => w'.cell? ⟨ga, 2, none⟩ = some (.slice (some ⟨bn, on, none⟩) k cn) ∧ w'.cell? ⟨bn, on + mm * 14, none⟩ = some (.int .i64 0))) (by kernel_rfl) ⟨a2, d0'⟩ (fun hHeld => ?_)
    refine tk 0 hHeld ?_
    refine tk 1 hHeld ?_
    refine tk 2 hHeld ?_
    refine tk 3 hHeld ?_
    refine tk 4 hHeld ?_
    refine wpAnyT_one (i := 5) (o := ?or5) (by kernel_rfl) ?ar5 (by decide) (fun K hK => ?br5)
    case ar5 => (simp only [List.getElem?_toArray, List.getElem?_cons_succ, List.getElem?_cons_zero]; exact rfl)
    go_simp
    refine (HTk.out wr.drew (Below.refl _ _).drew).mono ?_
    rintro e wc ⟨rfl, rfl⟩
    refine hK.out _ _ ?_ (fun hHeld2 => ?_)
    ·exact ⟨a2, d0'⟩
    clear hK K hHeld
    have hHeld := hHeld2
    clear hHeld2
    try simp only [Act.put, List.setIfInBounds_toArray, List.set_cons_zero, List.set_cons_succ]
    refine tk 6 hHeld ?_
    refine tk 7 hHeld ?_
    refine tk 8 hHeld ?_
    refine tk 9 hHeld ?_
    refine tk 10 hHeld ?_
    refine tk 11 hHeld ?_
    refine tk 12 hHeld ?_
    refine wpAnyT_one (i := 13) (o := ?or13) (by kernel_rfl) ?ar13 (by decide) (fun K hK => ?br13)
    case ar13 => (simp only [List.getElem?_toArray, List.getElem?_cons_succ, List.getElem?_cons_zero]; exact rfl)
    go_simp
    refine (HTk.out wr.drew (Below.refl _ _).drew).mono ?_
    rintro e wc ⟨rfl, rfl⟩
    refine hK.out _ _ ?_ (fun hHeld2 => ?_)
    ·exact ⟨a2, d0'⟩
    clear hK K hHeld
    have hHeld := hHeld2
    clear hHeld2
    try simp only [Act.put, List.setIfInBounds_toArray, List.set_cons_zero, List.set_cons_succ]
    refine tk 14 hHeld ?_
    refine wpAnyT_one (i := 15) (o := ?or15) (by kernel_rfl) ?ar15 (by decide) (fun K hK => ?br15)
    case ar15 => (simp only [List.getElem?_toArray, List.getElem?_cons_succ, List.getElem?_cons_zero]; exact rfl)
    go_simp
    refine (HIk.out wr.drew (Below.refl _ _).drew).mono ?_
    rintro e wc ⟨rfl, rfl⟩
    refine hK.out _ _ ?_ (fun hHeld2 => ?_)
    ·exact ⟨a2, d0'⟩
    clear hK K hHeld
    have hHeld := hHeld2
    clear hHeld2
    try simp only [Act.put, List.setIfInBounds_toArray, List.set_cons_zero, List.set_cons_succ]
    refine tk 16 hHeld ?_
    refine tk 17 hHeld ?_
    refine tk 18 hHeld ?_
    refine wpAnyT_done (by kernel_rfl) ?_ _
    try clear hHeld
    refine NoPanic.normal ?_
    go_wp2_with fail
    go_ret
    exact ⟨rfl, Hbe.out.drew⟩
structure Wc where
 B : Nat
 gb : Nat
 ga : Nat
 nx : Nat
 wm : Nat
abbrev wkC (c : Wc) (K O : Value) : Array Value := #[.pointer (some ⟨c.ga, 0, none⟩), .int .i64 ((c.nx : Int) - 1), K, .int .i64 (c.wm : Nat), O, .int .i64 0]
structure Wk (c : Wc) (w : World) (F : Nat → Prop) (Ak : Option Addr) (ck : Nat) (keys : List Nat) (Ao : Option Addr) (co : Nat) (fs : List Fa) : Prop where
 line : c.B ≤ c.gb
 box : Box w c.gb 113 (wkC c (.slice Ak keys.length ck) (.slice Ao fs.length co))
 kown : w.ownsRow c.B 3 1 (.slice Ak keys.length ck) keys.length (natV keys)
 out : FasOwn w c.B (.slice Ao fs.length co) fs
 frm : KeysFrom c.B fs
 Fg : F c.gb
 Fk : ∀ k, (Value.slice Ak keys.length ck).ownBlock = some k → F k ∧ k ≠ c.gb
 Fo : ∀ k, (Value.slice Ao fs.length co).ownBlock = some k → F k ∧ k ≠ c.gb ∧ (Value.slice Ak keys.length ck).ownBlock ≠ some k
 Ff : ∀ f ∈ fs, ∀ k, Foot f.A (natV f.keys) k → F k ∧ k ≠ c.gb ∧ (Value.slice Ak keys.length ck).ownBlock ≠ some k
 flt : ∀ k, F k → c.B ≤ k ∧ k < w.heap.size
section
variable {c : Wc} {w w' wc w5 : World} {F : Nat → Prop} {Ak : Option Addr} {ck : Nat} {keys : List Nat} {Ao A5 : Option Addr} {co c5 : Nat} {fs : List Fa} {f : Fa}
theorem Wk.keep (h : Wk c w F Ak ck keys Ao co fs) (hk : Kept F w w') : Wk c w' F Ak ck keys Ao co fs where
 line := h.line
 box := (hk.block c.gb h.Fg h.box.lt).trans h.box
 kown := own_same h.kown (fun k hv => hk.block k (h.Fk k hv).1 (h.kown.lt k hv).2)
 out := ⟨own_same h.out.1 (fun k hv => hk.block k (h.Fo k hv).1 (h.out.1.lt k hv).2), fun f hf => ap_same (h.out.2 f hf) hk.size (fun k hv => hk.block k (h.Ff f hf k hv).1 (h.flt k (h.Ff f hf k hv).1).2)⟩
 frm := h.frm
 Fg := h.Fg
 Fk := h.Fk
 Fo := h.Fo
 Ff := h.Ff
 flt := fun k hf => ⟨(h.flt k hf).1, Nat.lt_of_lt_of_le (h.flt k hf).2 hk.size⟩
theorem Wk.below (h : Wk c w F Ak ck keys Ao co fs) (hb : Below w.heap.size w w') : Wk c w' F Ak ck keys Ao co fs := h.keep (Kept.below hb)
theorem Wk.ge (h : Wk c w F Ak ck keys Ao co fs) : c.B ≤ w.heap.size := by have := h.line; have := h.box.lt; omega
theorem more_lt {F : Nat → Prop} (h : ∀ k, F k → k < w.heap.size) (hz : w.heap.size ≤ w'.heap.size) : ∀ k, more F w w' k → k < w'.heap.size := fun k hk => by
 rcases hk with hk | ⟨_, hk⟩
 ·have := h k hk; omega
 ·exact hk
theorem Wk.take (h : Wk c w F Ak ck keys Ao co fs) (hb : Below w.heap.size w wc) (hf : FaAp wc (.slice Ao fs.length co) f) (hfr : KeysFrom w.heap.size [f])
 (hown : w5.ownsRow c.B 78 11 (.slice A5 (fs.length + 1) c5) (fs.length + 1) (fs.flatMap factV ++ factV f)) (ha : App wc w5 (.slice Ao fs.length co) (.slice A5 (fs.length + 1) c5)) :
 Wk c (w5.setCell ⟨c.gb, 4, none⟩ (.slice A5 (fs.length + 1) c5)) (more F w (w5.setCell ⟨c.gb, 4, none⟩ (.slice A5 (fs.length + 1) c5))) Ak ck keys A5 c5 (fs ++ [f]) ∧ Turn F w (w5.setCell ⟨c.gb, 4, none⟩ (.slice A5 (fs.length + 1) c5)) := by
 have hz1 : w.heap.size ≤ wc.heap.size := hb.size
 have hz2 : wc.heap.size ≤ w5.heap.size := ha.grown.size
 have hz3 : (w5.setCell ⟨c.gb, 4, none⟩ (.slice A5 (fs.length + 1) c5)).heap.size = w5.heap.size := by simp
 have hgb := h.box.lt
 have hlt : ∀ k, (Value.slice A5 (fs.length + 1) c5).ownBlock = some k → k < w5.heap.size := fun k hk => (hown.lt k hk).2
 have hkc : ∀ k, k < w.heap.size → (Value.slice Ao fs.length co).ownBlock ≠ some k → w5.heap[k]? = w.heap[k]? := fun k hk hn => (ha.farK (by omega) hn).trans (hb.block k hk)
 have hset : ∀ k, k ≠ c.gb → (w5.setCell ⟨c.gb, 4, none⟩ (.slice A5 (fs.length + 1) c5)).heap[k]? = w5.heap[k]? := fun k hk => Below.heap_setCell w5 ⟨c.gb, 4, none⟩ _ k hk
 have hno : (Value.slice Ao fs.length co).ownBlock ≠ some c.gb := fun e => (h.Fo _ e).2.1 rfl
 have hv' : ∀ k, (Value.slice A5 (fs.length + 1) c5).ownBlock = some k → ((Value.slice Ao fs.length co).ownBlock = some k ∨ (wc.heap.size ≤ k ∧ k < w5.heap.size)) := fun k hk => by
  rcases ha.lies with e | ⟨j, e, hj⟩
  ·rw [e] at hk; exact .inl hk
  ·rw [e] at hk
   injection hk with hk
   subst hk
   exact .inr ⟨hj, hlt _ e⟩
 have hbox5 : Box w5 c.gb 113 (wkC c (.slice Ak keys.length ck) (.slice Ao fs.length co)) := (hkc _ hgb hno).trans h.box
 have hlen : (fs ++ [f]).length = fs.length + 1 := by rw [List.length_append]; rfl
 refine ⟨⟨h.line, ?_, ?_, ?_, ?_, .inl h.Fg, fun k hk => ⟨.inl (h.Fk k hk).1, (h.Fk k hk).2⟩, fun k hk => ?_, fun g hg k hk => ?_, fun k hk => ?_⟩, ⟨?_, ?_, ?_, ?_, fun k hk hp => ?_⟩⟩
 ·rw [hlen]; exact hbox5.set 4 _
 ·refine own_same h.kown (fun k hk => ?_)
  obtain ⟨h1, h2⟩ := h.Fk k hk
  rw [hset k h2]
  exact hkc k (h.kown.lt k hk).2 (fun e => (h.Fo k e).2.2 hk)
 ·rw [hlen]
  refine ⟨?_, fun g hg => ?_⟩
  ·rw [hlen, List.flatMap_append]
   refine own_same (by simpa using hown) (fun k hk => hset k (fun e => ?_))
   rcases hv' k hk with h1 | ⟨h1, _⟩
   ·exact (h.Fo k h1).2.1 e
   ·omega
  ·have hG : FaAp w5 (.slice A5 (fs.length + 1) c5) g ∧ ∀ k, Foot g.A (natV g.keys) k → k ≠ c.gb := by
    rcases List.mem_append.1 hg with hg | hg
    ·exact ⟨((h.out.2 g hg).below hb).app ha, fun k hk => (h.Ff g hg k hk).2.1⟩
    ·have h1 := List.mem_singleton.1 hg
     subst h1
     exact ⟨hf.app ha, fun k hk => by obtain ⟨hne, off, e⟩ := hk; have := hfr g List.mem_cons_self k off e hne; omega⟩
   exact ap_same hG.1 (Nat.le_of_eq hz3.symm) (fun k hk => hset k (hG.2 k hk))
 ·intro g hg b off e hne
  rcases List.mem_append.1 hg with hg | hg
  ·exact h.frm g hg b off e hne
  ·exact Nat.le_trans h.ge (hfr g hg b off e hne)
 ·rw [hlen] at hk
  rcases hv' k hk with e | ⟨h1, h2⟩
  ·exact ⟨.inl (h.Fo k e).1, (h.Fo k e).2⟩
  ·refine ⟨.inr ⟨by omega, by omega⟩, by omega, fun e => ?_⟩
   have := (h.kown.lt k e).2
   omega
 ·rcases List.mem_append.1 hg with hg | hg
  ·exact ⟨.inl (h.Ff g hg k hk).1, (h.Ff g hg k hk).2⟩
  ·have h1 := (List.mem_singleton.1 hg)
   subst h1
   obtain ⟨hne, off, e⟩ := hk
   have h2 := hfr g List.mem_cons_self k off e hne
   have h3 := Row.foot_lt hf.1 ⟨hne, off, e⟩
   refine ⟨.inr ⟨h2, by omega⟩, by omega, fun e => ?_⟩
   have := (h.kown.lt k e).2
   omega
 ·rcases hk with hk | ⟨h1, h2⟩
  ·have := h.flt k hk; omega
  ·have := h.ge; omega
 ·exact ha.grown.os.trans hb.os
 ·exact ha.grown.tape.trans hb.tape
 ·exact ha.grown.output.trans hb.output
 ·omega
 ·have h1 : k ≠ c.gb := fun e => hp (e ▸ h.Fg)
  rw [hset k h1]
  exact hkc k hk (fun e => hp (h.Fo k e).1)
end
end Go.Proofs.YthmbgbmcdbdecaaGreat.Tc
