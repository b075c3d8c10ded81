/- Parts of a proof: The shelf's contracts of slices.Grow (at cells) and slices.SortFunc (at groups) at this seat's dump, laid by the kit's own programs, in plain words. Layer 24: all cells of a node, in one row. Layer 24: a member's cell. -/
import Derived.Test.YthmbgbmcdbdecaaGreatG23
import Derived.Shelf.Spec.SlicesGrow
import Derived.Shelf.SlSortCmp.WholeK
import Derived.Ground.Names8Prog
import Derived.Ground.SlsfProg
import Derived.Test.YthmbgbmcdbdecaaGreatProg
import Derived.Maps.Own
import Derived.Maps.OwnOps
import Derived.Maps.OwnSet
import Derived.Maps.Views
namespace Go.Proofs
open Go.Shelf
def Tryz.growC_ren : Go.Shelf.Ren := ⟨fun | 4 => 127 | n => n, fun | 22 => 142 | 25 => 106 | 3 => 3 | 4 => 4 | 9 => 9 | 20 => 20 | 0 => 0 | n => n, fun | n => n⟩
theorem Tryz.growC : Go.Proofs.Lays8.n4 Tryz.prog Tryz.growC_ren := {
 mixed := by kernel_rfl
 f4 := ⟨Tryz.f127.name, by decide, Tryz.func127.trans (congrArg some (by kernel_rfl))⟩
 t0 := Tryz.underlying0
 a0 := Tryz.isAgg0
 z0 := Tryz.sizeOf0
 v0 := Tryz.zeroValue0
 t3 := Tryz.underlying3
 a3 := Tryz.isAgg3
 z3 := Tryz.sizeOf3
 v3 := Tryz.zeroValue3
 t4 := Tryz.underlying4
 a4 := Tryz.isAgg4
 z4 := Tryz.sizeOf4
 v4 := Tryz.zeroValue4
 t9 := Tryz.underlying9
 a9 := Tryz.isAgg9
 z9 := Tryz.sizeOf9
 v9 := Tryz.zeroValue9
 t20 := Tryz.underlying20
 a20 := Tryz.isAgg20
 z20 := Tryz.sizeOf20
 v20 := Tryz.zeroValue20
 t22 := Tryz.underlying142
 a22 := Tryz.isAgg142
 z22 := Tryz.sizeOf142
 v22 := Tryz.zeroValue142 }
def Tryz.sortG_ren : Go.Shelf.Ren := ⟨fun | 6 => 95 | 15 => 120 | 14 => 119 | 28 => 144 | 29 => 145 | 20 => 136 | 21 => 137 | 22 => 138 | 23 => 139 | 24 => 140 | 25 => 141 | 26 => 142 | 27 => 143 | 46 => 149 | 47 => 150 | 48 => 151 | 49 => 152 | 50 => 153 | 57 => 154 | n => n, fun | 22 => 143 | 24 => 146 | 25 => 181 | 3 => 3 | 39 => 178 | 0 => 0 | 53 => 234 | 55 => 236 | 4 => 4 | 46 => 228 | 45 => 227 | 50 => 141 | 5 => 5 | 9 => 9 | 66 => 239 | 70 => 243 | 76 => 245 | 77 => 246 | n => n, fun | n => n⟩
theorem Tryz.sortG : Go.Proofs.SlLaysF0.n6 Tryz.prog Tryz.sortG_ren := {
 mixed := by kernel_rfl
 f6 := ⟨Tryz.f95.name, by decide, Tryz.func95.trans (congrArg some (by kernel_rfl))⟩
 f14 := ⟨Tryz.f119.name, by decide, Tryz.func119.trans (congrArg some (by kernel_rfl))⟩
 f15 := Tryz.func120.trans (congrArg some (by kernel_rfl))
 f20 := ⟨Tryz.f136.name, by decide, Tryz.func136.trans (congrArg some (by kernel_rfl))⟩
 f21 := ⟨Tryz.f137.name, by decide, Tryz.func137.trans (congrArg some (by kernel_rfl))⟩
 f22 := ⟨Tryz.f138.name, by decide, Tryz.func138.trans (congrArg some (by kernel_rfl))⟩
 f23 := ⟨Tryz.f139.name, by decide, Tryz.func139.trans (congrArg some (by kernel_rfl))⟩
 f24 := ⟨Tryz.f140.name, by decide, Tryz.func140.trans (congrArg some (by kernel_rfl))⟩
 f25 := ⟨Tryz.f141.name, by decide, Tryz.func141.trans (congrArg some (by kernel_rfl))⟩
 f26 := ⟨Tryz.f142.name, by decide, Tryz.func142.trans (congrArg some (by kernel_rfl))⟩
 f27 := ⟨Tryz.f143.name, by decide, Tryz.func143.trans (congrArg some (by kernel_rfl))⟩
 f28 := Tryz.func144.trans (congrArg some (by kernel_rfl))
 f29 := Tryz.func145.trans (congrArg some (by kernel_rfl))
 f46 := ⟨Tryz.f149.name, by decide, Tryz.func149.trans (congrArg some (by kernel_rfl))⟩
 f47 := Tryz.func150.trans (congrArg some (by kernel_rfl))
 f48 := Tryz.func151.trans (congrArg some (by kernel_rfl))
 f49 := ⟨Tryz.f152.name, by decide, Tryz.func152.trans (congrArg some (by kernel_rfl))⟩
 f50 := ⟨Tryz.f153.name, by decide, Tryz.func153.trans (congrArg some (by kernel_rfl))⟩
 f57 := ⟨Tryz.f154.name, by decide, Tryz.func154.trans (congrArg some (by kernel_rfl))⟩
 t0 := Tryz.underlying0
 a0 := Tryz.isAgg0
 z0 := Tryz.sizeOf0
 v0 := Tryz.zeroValue0
 t3 := Tryz.underlying3
 a3 := Tryz.isAgg3
 z3 := Tryz.sizeOf3
 v3 := Tryz.zeroValue3
 t4 := Tryz.underlying4
 a4 := Tryz.isAgg4
 z4 := Tryz.sizeOf4
 v4 := Tryz.zeroValue4
 t5 := Tryz.underlying5
 a5 := Tryz.isAgg5
 z5 := Tryz.sizeOf5
 v5 := Tryz.zeroValue5
 t9 := Tryz.underlying9
 a9 := Tryz.isAgg9
 z9 := Tryz.sizeOf9
 v9 := Tryz.zeroValue9
 t22 := Tryz.underlying143
 a22 := Tryz.isAgg143
 z22 := Tryz.sizeOf143
 v22 := Tryz.zeroValue143
 t25 := Tryz.underlying181
 a25 := Tryz.isAgg181
 z25 := Tryz.sizeOf181
 v25 := Tryz.zeroValue181
 t39 := Tryz.underlying178
 a39 := Tryz.isAgg178
 z39 := Tryz.sizeOf178
 v39 := Tryz.zeroValue178
 t45 := Tryz.underlying227
 a45 := Tryz.isAgg227
 z45 := Tryz.sizeOf227
 v45 := Tryz.zeroValue227
 t46 := Tryz.underlying228
 a46 := Tryz.isAgg228
 z46 := Tryz.sizeOf228
 v46 := Tryz.zeroValue228
 t50 := Tryz.underlying141
 a50 := Tryz.isAgg141
 z50 := Tryz.sizeOf141
 v50 := Tryz.zeroValue141
 t53 := Tryz.underlying234
 a53 := Tryz.isAgg234
 z53 := Tryz.sizeOf234
 v53 := Tryz.zeroValue234
 t55 := Tryz.underlying236
 a55 := Tryz.isAgg236
 z55 := Tryz.sizeOf236
 v55 := Tryz.zeroValue236
 t66 := Tryz.underlying239
 a66 := Tryz.isAgg239
 z66 := Tryz.sizeOf239
 v66 := Tryz.zeroValue239
 t70 := Tryz.underlying243
 a70 := Tryz.isAgg243
 z70 := Tryz.sizeOf243
 v70 := Tryz.zeroValue243
 t76 := Tryz.underlying245
 a76 := Tryz.isAgg245
 z76 := Tryz.sizeOf245
 v76 := Tryz.zeroValue245
 t77 := Tryz.underlying246
 a77 := Tryz.isAgg246
 z77 := Tryz.sizeOf246
 v77 := Tryz.zeroValue246 }
end Go.Proofs
namespace Go.Proofs.YthmbgbmcdbdecaaGreat.Tc
open Go.RowKit Base Go.Shelf
set_option linter.unusedVariables false
set_option linter.unusedSimpArgs false
def ClsNew (cs : List Cl) (w : World) (e : Ending) (w' : World) : Prop := ∃ v, e = .returned v ∧ w'.ownsRow w.heap.size 106 12 v cs.length (cs.flatMap clV) ∧ Below w.heap.size w w'
theorem cap_own {w : World} {g cap : Nat} {e : TypeId} (hc : cap ≤ maxLen) (cs : Array Value) (hs : cs.size = cap * 12) (hg : w.heap[g]? = some (.cells cs e (0, 0))) (B : Nat) (hB : B ≤ g) : w.ownsRow B e 12 (.slice (some ⟨g, 0, none⟩) 0 cap) 0 [] :=
 ⟨by simp, .inr ⟨g, cap, cs, rfl, hB, hg, Nat.zero_le _, hc, hs, by simp⟩⟩
theorem cat_take {ls : List Ll} {k : Nat} (hk : k < ls.length) : (ls.take (k + 1)).flatMap Ll.cs = (ls.take k).flatMap Ll.cs ++ ls[k].cs := by
 rw [List.take_succ_eq_append_getElem hk, List.flatMap_append]; simp
theorem cat_len (ls : List Ll) : (ls.flatMap Ll.cs).length = (ls.map fun l => l.cs.length).sum := by
 induction ls with
 | nil => rfl
 | cons l ls ih => rw [List.flatMap_cons, List.length_append, ih, List.map_cons, List.sum_cons]
theorem zeroCells_size (z : Array Value) (n : Nat) : (Builtin.zeroCells z n).size = n * z.size := by
 unfold Builtin.zeroCells
 simp
theorem growC_any (s : Nat) (w : World) (hs : s ≤ 1000000) : Calls Tryz.prog 127 #[.slice none 0 0, .int .i64 (s : Nat)] w fun e w' => ∃ v, e = .returned v ∧ w'.ownsRow w.heap.size 106 12 v 0 [] ∧ Below w.heap.size w w' := by
 obtain ⟨i0, ti0, tz0, tz1, tz2⟩ := info_parts info_cell
 by_cases h0 : s = 0
 ·subst h0
  have h := Any8.slices_Grow_room Tryz.growC none 0 0 0 w (Nat.le_refl _) (by omega) (by omega) (by omega)
  exact h.mono fun e w' ⟨h1, h2⟩ => ⟨_, h1, own_nil _ _ _ _, h2 ▸ Below.refl _ _⟩
 ·have h := Any8.slices_Grow_grow Tryz.growC i0 _ ti0 tz0 (by rw [tz1]; omega) none 0 0 s [] w (Nat.le_refl _) (by omega) (by rw [tz2]; omega) (by omega) (by simp) (fun _ => rfl) (fun a h => by cases h)
  refine h.mono fun e w' ⟨h1, h2⟩ => ⟨_, h1, ?_, ?_⟩
  ·rw [h2]
   have hge := grownCap_ge w (0 + s) 0 (Tryz.growC_ren.t 25)
   have hmx := grownCap_le_maxLen w (0 + s) 0 (Tryz.growC_ren.t 25) (by unfold maxLen; omega)
   generalize grownCap w (0 + s) 0 (Tryz.growC_ren.t 25) = G at *
   refine cap_own hmx _ ?_ (heap_alloc_new w.drew _) _ (Nat.le_refl _)
   rw [Array.size_append, Array.size_append, zeroCells_size, zeroCells_size]
   have hz : (Value.agg #[.int .i64 0, .int .i64 0, .int .i64 0, .int .i64 0, .int .i64 0, .int .i64 0, .int .i64 0, .int .i64 0, .int .i64 0, .int .i64 0, .int .i64 0, .int .i64 0]).cells.size = 12 := rfl
   rw [hz]
   simp
   omega
  ·rw [h2]
   exact (Below.refl _ _).drew.alloc (Nat.le_refl _) _
set_option maxRecDepth 100000 in
set_option maxHeartbeats 8000000 in
theorem concat_any (A : Option Addr) (c : Nat) (ls : List Ll) (w : World) (hr : Row w w.heap.size A (ls.map llV)) (he : ∀ l ∈ ls, Row w w.heap.size l.A (l.cs.flatMap clV)) (hn : ls.length ≤ 4) (hl : ∀ l ∈ ls, l.cs.length ≤ 1000) :
 Calls Tryz.prog 105 #[.slice A ls.length c] w (ClsNew (ls.flatMap Ll.cs) w) := by
 obtain ⟨i0, ti0, tz0, tz1, tz2⟩ := info_parts info_cell
 have Hr := kp hr
 have He := kp he
 have Hl := kp hl
 have Hle := kp (count_le hl)
 have HQ := kp (show ∀ v w', w'.ownsRow w.heap.size 106 12 v (ls.flatMap Ll.cs).length ((ls.flatMap Ll.cs).flatMap clV) → Below w.heap.size w w' → ClsNew (ls.flatMap Ll.cs) w (.returned v) w' from fun v w' h1 h2 => ⟨v, rfl, h1, h2⟩)
 clear hr he hl
 generalize hQ : ClsNew (ls.flatMap Ll.cs) w = Q at *
 clear hQ
 obtain ⟨lx, hlx⟩ : ∃ lx, ls.length = lx := ⟨_, rfl⟩
 have Hlx := kp hlx
 rw [hlx] at hn ⊢
 clear hlx
 go_enter Tryz.func105, Tryz.ntmps105
 go_wp2_with fail
 go_loop [3, 11] (fun v3 v11 => ∃ (k s : Nat), k ≤ lx ∧ v11 = .int .i64 k ∧ v3 = .int .i64 s ∧ s = ((ls.take k).map fun l => l.cs.length).sum) (fun _ v11 => lx - (intOf v11).toNat)
 case atStart => exact ⟨0, 0, Nat.zero_le _, rfl, rfl, by simp⟩
 case round =>
  obtain ⟨k, s, hk, rfl, rfl, hs⟩ := hrel
  have Hs := kp hs
  clear hs
  by_cases hlt : k < lx
  ·have hkl : k < ls.length := by rw [Hlx.out]; exact hlt
   obtain ⟨b, off, hA, hb, c0⟩ := Row.at_ Hr.out (k := k) (by rw [List.length_map]; exact hkl)
   rw [List.getElem_map] at c0
   have Hnx := kp (count_take hkl)
   have hsl : s ≤ 5000 := by have h1 := Hle.out k; have h2 := Hs.out; omega
   have hql : (ls[k]'hkl).cs.length ≤ 5000 := by have h1 := Hle.out (k + 1); have h2 := Hnx.out; omega
   unfold llV at c0
   generalize (ls[k]'hkl).cs.length = q at *
   generalize (ls[k]'hkl).A = lA at *
   generalize (ls[k]'hkl).c = lc at *
   have hi0 : (0 : Int) ≤ (k : Int) := by omega
   have hi1 : (k : Int) < (lx : Int) := by omega
   have hs0 : ¬ ((s : Int) + (q : Int)) < 0 := by omega
   have hs0d : decide (((s : Int) + (q : Int)) < 0) = false := decide_eq_false hs0
   subst hA
   go_wp2_with fail
   exact ⟨⟨k + 1, s + q, by omega, by go_num, by go_num, by rw [Hnx.out, Hs.out]⟩, by simp [intOf]; omega⟩
  ·obtain rfl : k = lx := by omega
   have hs5 : s ≤ 5000 := by have h1 := Hle.out k; have h2 := Hs.out; omega
   have HG := kp (growC_any s w (by omega))
   go_wp2_with fail
   refine HG.out.mono ?_
   rintro e w1 ⟨v1, rfl, hown1, hb1⟩
   obtain ⟨A1, c1, rfl⟩ := own_formK hown1
   have Hown1 := kp hown1
   have Hb1 := kp hb1
   clear hown1 hb1
   go_wp2_with fail
   go_loopw [6, 27] (fun v6 v27 wr => ∃ (j : Nat) (A2 : Option Addr) (c2 : Nat), j ≤ k ∧ v27 = .int .i64 j ∧ v6 = .slice A2 ((ls.take j).flatMap Ll.cs).length c2 ∧ wr.ownsRow w.heap.size 106 12 (.slice A2 ((ls.take j).flatMap Ll.cs).length c2) ((ls.take j).flatMap Ll.cs).length (((ls.take j).flatMap Ll.cs).flatMap clV) ∧ Below w.heap.size w wr) (fun _ v27 _ => k - (intOf v27).toNat)
   case atStart => exact ⟨0, A1, c1, Nat.zero_le _, rfl, rfl, Hown1.out, Hb1.out⟩
   case round =>
    obtain ⟨j, A2, c2, hj, rfl, rfl, hown2, hbe2⟩ := hrel
    have Hown2 := kp hown2
    have Hbe2 := kp hbe2
    clear hown2 hbe2
    by_cases hjl : j < k
    ·have hjx : j < ls.length := by rw [Hlx.out]; exact hjl
     obtain ⟨b, off, hA, hb, c0⟩ := Row.at_ ((Hr.out.below Hbe2.out).more Hbe2.out.size) (k := j) (by rw [List.length_map]; exact hjx)
     rw [List.getElem_map] at c0
     have Hnx := kp (cat_take hjx)
     have Hrow := kp (((He.out _ (List.getElem_mem hjx)).below Hbe2.out))
     have hq0 : ((ls.take j).flatMap Ll.cs).length ≤ 5000 := by have h1 := Hle.out j; rw [cat_len]; omega
     have hq1 : (ls[j]'hjx).cs.length ≤ 1000 := Hl.out _ (List.getElem_mem hjx)
     have Hfl := kp (flat_len clV_len (ls[j]'hjx).cs)
     have Hone := kp (cl_flat_one (ls[j]'hjx).cs)
     unfold llV at c0
     generalize hcs : (ls[j]'hjx).cs = cs at *
     clear hcs
     generalize (ls[j]'hjx).A = lA at *
     generalize (ls[j]'hjx).c = lc at *
     generalize hpre : (ls.take j).flatMap Ll.cs = pre at *
     clear hpre
     obtain ⟨q, hq⟩ : ∃ q, cs.length = q := ⟨_, rfl⟩
     have Hq := kp hq
     rw [hq] at c0 hq1 Hfl
     clear hq
     obtain ⟨r, hr⟩ : ∃ r, pre.length = r := ⟨_, rfl⟩
     have Hrr := kp hr
     rw [hr] at hq0 Hown2 ⊢
     clear hr
     have hi0 : (0 : Int) ≤ (j : Int) := by omega
     have hi1 : (j : Int) < (k : Int) := by omega
     have hrq : r + q < 1048576 * 64 := by omega
     have Hs2 := kp Hbe2.out.size
     subst hA
     go_wp2_with (at_builtin; refine wpList_append_rows rfl (.tmp 31) (.tmp 32) 142 rfl w.heap.size 106 i0 _ 12 96 Tryz.underlying142 ti0 tz0 tz1 tz2 rfl (by decide) wr (.slice A2 r c2) r (pre.flatMap clV) rfl Hown2.out lA q lc w.heap.size (cs.flatMap clV) rfl Hfl.out Hrow.out Hone.out hrq (by decide) Hs2.out ?_; intro v5 w5 hown5 happ5; obtain ⟨A5, c5, h5⟩ := own_formK hown5; subst h5; have Hown5 := kp hown5; have Hb5 := kp (happ5.belowK Hbe2.out Hown2.out (Nat.le_refl _) Hs2.out); clear hown5 happ5)
     refine ⟨⟨j + 1, A5, c5, by omega, by go_num, ?_, ?_, Hb5.out⟩, by simp [intOf]; omega⟩
     ·rw [Hnx.out, List.length_append, Hrr.out, Hq.out]
     ·rw [Hnx.out, List.length_append, Hrr.out, Hq.out, List.flatMap_append]
      exact Hown5.out
    ·obtain rfl : j = k := by omega
     have Hf := kp (HQ.out _ _ (by have := Hown2.out; rw [List.take_of_length_le (by rw [Hlx.out]; exact Nat.le_refl _)] at this; exact this) Hbe2.out)
     rw [List.take_of_length_le (show ls.length ≤ j by rw [Hlx.out]; exact Nat.le_refl _)]
     go_wp2_with fail
     exact Hf.out
set_option maxRecDepth 100000 in
set_option maxHeartbeats 8000000 in
theorem each_any (n : Nd) (w : World) (hr : NdAt w w.heap.size n) (hn : n.ls.length ≤ 4) (hl : ∀ l ∈ n.ls, l.cs.length ≤ 1000) :
 Calls Tryz.prog 73 #[.agg (ndC n)] w (ClsNew (n.ls.flatMap Ll.cs ++ [n.all]) w) := by
 obtain ⟨dim, nA, ls, nc, x⟩ := n
 obtain ⟨i0, ti0, tz0, tz1, tz2⟩ := info_parts info_cell
 dsimp only [ndC]
 dsimp only at hn hl
 have hb0 := (Below.refl w.heap.size w).alloc (Nat.le_refl _) (.cells (ndC ⟨dim, nA, ls, nc, x⟩) 108)
 have HB0 := kp (Box.new w 108 (ndC ⟨dim, nA, ls, nc, x⟩))
 have hr0 := (hr.below hb0).more hb0.size
 have Hlen := kp (show (ls.flatMap Ll.cs).length ≤ 5000 by have h1 := count_le hl ls.length; rw [List.take_of_length_le (Nat.le_refl _)] at h1; rw [cat_len]; omega)
 have HC := kp (concat_any nA nc ls (w.alloc (.cells (ndC ⟨dim, nA, ls, nc, x⟩) 108)) hr0.row hr0.each hn hl)
 have Hb0 := kp hb0
 have HQ := kp (show ∀ v w', w'.ownsRow w.heap.size 106 12 v ((ls.flatMap Ll.cs).length + 1) ((ls.flatMap Ll.cs).flatMap clV ++ (clC x).toList) → Below w.heap.size w w' → ClsNew (ls.flatMap Ll.cs ++ [x]) w (.returned v) w' from fun v w' h1 h2 => ⟨v, rfl, by rw [List.length_append, List.flatMap_append]; exact h1, h2⟩)
 clear hr hl hr0 hb0
 generalize hQ : ClsNew (ls.flatMap Ll.cs ++ [x]) w = Q at *
 clear hQ
 generalize hpre : ls.flatMap Ll.cs = pre at *
 clear hpre
 obtain ⟨lx, hlx⟩ : ∃ lx, ls.length = lx := ⟨_, rfl⟩
 dsimp only [ndC] at HB0 HC Hb0
 rw [hlx] at hn HB0 HC Hb0 ⊢
 clear hlx
 obtain ⟨d0, d1, d2, d3, d4, d5, d6, d7, d8, d9, d10, d11, d12, d13⟩ := (Box.fourteen HB0.out).1
 go_enter Tryz.func73, Tryz.ntmps73
 go_wp2_with fail
 refine HC.out.mono ?_
 rintro e w1 ⟨v1, rfl, hown1, hb1⟩
 obtain ⟨A1, c1, rfl⟩ := own_formK hown1
 have Hb1 := kp (Hb0.out.trans (hb1.mono Hb0.out.size))
 have Hown1 := kp (own_base hown1 Hb0.out.size)
 have HB1 := kp (HB0.out.under hb1)
 clear hown1 hb1 d0 d1 d2 d3 d4 d5 d6 d7 d8 d9 d10 d11 d12 d13 HC HB0 Hb0
 obtain ⟨d0, d1, d2, d3, d4, d5, d6, d7, d8, d9, d10, d11, d12, d13⟩ := (Box.fourteen HB1.out).1
 have hl5 := Hlen.out
 obtain ⟨r, hr⟩ : ∃ r, pre.length = r := ⟨_, rfl⟩
 rw [hr] at hl5 Hown1 HQ ⊢
 clear hr
 have hk1 : r + 1 < 1048576 * 64 := by omega
 have Hs1 := kp Hb1.out.size
 go_wp2_with (at_builtin; refine wpList_appK rfl (.tmp 7) (.tmp 10) 142 rfl w.heap.size 106 i0 _ 12 96 Tryz.underlying142 ti0 tz0 tz1 tz2 rfl (by decide) w1 (clC x) rfl (cl_one x) (.slice A1 r c1) r (pre.flatMap clV) rfl Hown1.out rfl hk1 (by decide) Hs1.out ?_; intro v5 w5 hown5 happ5; obtain ⟨A5, c5, h5⟩ := own_formK hown5; subst h5; have Hown5 := kp hown5; have Hb5 := kp (happ5.belowK Hb1.out Hown1.out (Nat.le_refl _) Hs1.out); clear hown5 happ5)
 exact HQ.out _ _ Hown5.out Hb5.out
end Go.Proofs.YthmbgbmcdbdecaaGreat.Tc
namespace Go.Proofs.YthmbgbmcdbdecaaGreat.Tc
open Go.RowKit Base
set_option linter.unusedVariables false
set_option linter.unusedSimpArgs false
set_option maxHeartbeats 1000000 in
theorem fcmp_any (x : Cl) (k : Nat) (w : World) : Calls Tryz.prog 126 #[.agg (clC x), .int .i64 (k : Nat)] w fun e w' => e = .returned (.int .i64 (cmp1 x.key k)) ∧ Below w.heap.size w w' := by
 have hb0 := (Below.refl w.heap.size w).alloc (Nat.le_refl _) (.cells (clC x) 106)
 have HB := kp (Box.new w 106 (clC x))
 have Hb0 := kp hb0
 have HC := kp (fun w => cmpI_any x.key k w)
 clear hb0
 generalize cmp1 x.key k = V at *
 obtain ⟨d0, _⟩ := (Box.twelve HB.out).1
 go_enter Tryz.func126, Tryz.ntmps126
 go_wp2_with fail
 refine (HC.out _).mono ?_
 rintro e w1 ⟨rfl, rfl⟩
 go_wp2_with fail
 go_ret
 exact ⟨rfl, Hb0.out⟩
theorem cmp1_lt {a b : Nat} : (cmp1 a b < 0) ↔ a < b := by
 unfold cmp1
 by_cases h1 : a < b
 ·simp [h1]
 ·by_cases h2 : b < a <;> simp [h1, h2]
theorem cmp1_eq {a b : Nat} : (cmp1 a b = 0) ↔ a = b := by
 unfold cmp1
 by_cases h1 : a < b
 ·simp [h1]; omega
 ·by_cases h2 : b < a
  ·simp [h1, h2]; omega
  ·simp [h1, h2]; omega
def BsRet (l : List Cl) (k : Nat) (w : World) (e : Ending) (w' : World) : Prop := ∃ (i : Nat) (f : Bool), e = .returned (.tuple #[.int .i64 (i : Nat), .bool f]) ∧ i ≤ l.length ∧ (∀ j (h : j < l.length), j < i → l[j].key < k) ∧ (∀ j (h : j < l.length), i ≤ j → k ≤ l[j].key) ∧ (f = true ↔ ∃ h : i < l.length, l[i].key = k) ∧ Below w.heap.size w w'
theorem rise_lt {l : List Cl} (h : ∀ i (h : i + 1 < l.length), l[i].key < l[i + 1].key) {i j : Nat} (hij : i < j) (hj : j < l.length) : (l[i]'(by omega)).key < l[j].key := by
 induction j with
 | zero => omega
 | succ j ih =>
  by_cases e : i = j
  ·subst e; exact h i hj
  ·have h1 := ih (by omega) (by omega)
   have h2 := h j hj
   omega
set_option maxRecDepth 100000 in
set_option maxHeartbeats 8000000 in
theorem bsearch_any (A : Option Addr) (l : List Cl) (c k : Nat) (w : World) (hr : Row w w.heap.size A (l.flatMap clV)) (hn : l.length ≤ 1000000) (hi : ∀ i (h : i + 1 < l.length), l[i].key < l[i + 1].key) :
 Calls Tryz.prog 125 #[.slice A l.length c, .int .i64 (k : Nat), .func (.func 126) #[] #[]] w (BsRet l k w) := by
 have HC := kp fcmp_any
 have Hr := kp hr
 have Hi := kp (fun i j (hij : i < j) (hj : j < l.length) => rise_lt hi hij hj)
 have HQ := kp (show ∀ (i : Nat) (f : Bool) w', i ≤ l.length → (∀ j (h : j < l.length), j < i → l[j].key < k) → (∀ j (h : j < l.length), i ≤ j → k ≤ l[j].key) → (f = true ↔ ∃ h : i < l.length, l[i].key = k) → Below w.heap.size w w' → BsRet l k w (.returned (.tuple #[.int .i64 (i : Nat), .bool f])) w' from fun i f w' h1 h2 h3 h4 h5 => ⟨i, f, rfl, h1, h2, h3, h4, h5⟩)
 clear hr hi
 generalize hQ : BsRet l k w = Q at *
 clear hQ
 obtain ⟨n, hN⟩ : ∃ n, l.length = n := ⟨_, rfl⟩
 have Hn := kp hN
 rw [hN] at hn ⊢
 clear hN
 go_enter Tryz.func125, Tryz.ntmps125
 go_wp2_with fail
 go_loopw [9, 10] (fun s9 s10 wr => ∃ lo hi : Nat, s9 = .int .i64 lo ∧ s10 = .int .i64 hi ∧ lo ≤ hi ∧ hi ≤ n ∧ (∀ j (h : j < l.length), j < lo → l[j].key < k) ∧ (∀ j (h : j < l.length), hi ≤ j → k ≤ l[j].key) ∧ Below w.heap.size w wr) (fun s9 s10 _ => (intOf s10).toNat - (intOf s9).toNat)
 case atStart => exact ⟨0, n, rfl, rfl, Nat.zero_le _, Nat.le_refl _, fun j h h' => by omega, fun j h h' => by have := Hn.out; omega, Below.refl _ _⟩
 case round =>
  obtain ⟨lo, hi, rfl, rfl, h1, h2, h3, h4, hbe⟩ := hrel
  have Hbe := kp hbe
  have H3 := kp h3
  have H4 := kp h4
  clear hbe h3 h4
  by_cases hlt : lo < hi
  ·have hml : (lo + hi) / 2 < l.length := by rw [Hn.out]; omega
   obtain ⟨b, off, hA, hb, c0, c1, c2, c3, c4, c5, c6, c7, c8, c9, c10, c11⟩ := cells_at ((Hr.out.below Hbe.out).more Hbe.out.size) ((lo + hi) / 2) hml
   subst hA
   have HCm := kp (fun w => HC.out (l[(lo + hi) / 2]'hml) k w)
   have HV := kp (show (cmp1 (l[(lo + hi) / 2]'hml).key k < 0) ↔ (l[(lo + hi) / 2]'hml).key < k from cmp1_lt)
   have Hx := kp (show ∀ j (h : j < l.length), j ≤ (lo + hi) / 2 → l[j].key ≤ (l[(lo + hi) / 2]'hml).key from fun j h hj => by
    by_cases e : j = (lo + hi) / 2
    ·subst e; exact Nat.le_refl _
    ·exact Nat.le_of_lt (Hi.out j _ (by omega) hml))
   have Hy := kp (show ∀ j (h : j < l.length), (lo + hi) / 2 ≤ j → (l[(lo + hi) / 2]'hml).key ≤ l[j].key from fun j h hj => by
    by_cases e : (lo + hi) / 2 = j
    ·subst e; exact Nat.le_refl _
    ·exact Nat.le_of_lt (Hi.out _ j (by omega) h))
   generalize (l[(lo + hi) / 2]'hml) = y at *
   generalize cmp1 y.key k = V at *
   have hm0 : (0 : Int) ≤ ((lo : Int) + (hi : Int)) / 2 := by omega
   have hm1 : ((lo : Int) + (hi : Int)) / 2 < (n : Int) := by omega
   go_upto_region 5 with fail
   go_wp2_with fail
   refine (HCm.out _).mono ?_
   rintro e w1 ⟨rfl, hb1⟩
   have Hb1 := kp (Hbe.out.trans (hb1.mono Hbe.out.size))
   clear hb1 c0 c1 c2 c3 c4 c5 c6 c7 c8 c9 c10 c11
   by_cases hv : V < 0
   ·have hvd : decide (V < 0) = true := decide_eq_true hv
    have hyk := HV.out.1 hv
    go_wp2_with fail
    refine ⟨⟨(lo + hi) / 2 + 1, hi, by go_num, rfl, by omega, by omega, fun j h hj => ?_, H4.out, Hb1.out⟩, by simp [intOf]; omega⟩
    have := Hx.out j h (by omega)
    omega
   ·have hvd : decide (V < 0) = false := decide_eq_false hv
    have hyk : ¬ y.key < k := fun h => hv (HV.out.2 h)
    go_wp2_with fail
    refine ⟨⟨lo, (lo + hi) / 2, rfl, by go_num, by omega, by omega, H3.out, fun j h hj => ?_, Hb1.out⟩, by simp [intOf]; omega⟩
    have := Hy.out j h hj
    omega
  ·obtain rfl : lo = hi := by omega
   by_cases hln : lo < n
   ·have hml : lo < l.length := by rw [Hn.out]; exact hln
    obtain ⟨b, off, hA, hb, c0, c1, c2, c3, c4, c5, c6, c7, c8, c9, c10, c11⟩ := cells_at ((Hr.out.below Hbe.out).more Hbe.out.size) lo hml
    subst hA
    have HCm := kp (fun w => HC.out (l[lo]'hml) k w)
    have HQk := kp (fun f w' (hf : f = decide (cmp1 (l[lo]'hml).key k = 0)) hb => HQ.out lo f w' (by rw [Hn.out]; exact h2) H3.out H4.out (by rw [hf, decide_eq_true_eq, cmp1_eq]; exact ⟨fun h => ⟨hml, h⟩, fun ⟨_, h⟩ => h⟩) hb)
    generalize (l[lo]'hml) = y at *
    generalize cmp1 y.key k = V at *
    have hm0 : (0 : Int) ≤ (lo : Int) := by omega
    have hm1 : (lo : Int) < (n : Int) := by omega
    have hm2 : decide ((lo : Int) < (n : Int)) = true := decide_eq_true hm1
    have HVb := kp (show (V == 0) = decide (V = 0) from by rw [Bool.eq_iff_iff]; simp)
    go_wp2_with fail
    refine (HCm.out _).mono ?_
    rintro e w1 ⟨rfl, hb1⟩
    have Hf := kp (HQk.out (V == 0) _ HVb.out (Hbe.out.trans (hb1.mono Hbe.out.size)))
    clear hb1 c0 c1 c2 c3 c4 c5 c6 c7 c8 c9 c10 c11
    go_wp2_with fail
    exact Hf.out
   ·obtain rfl : lo = n := by omega
    have hm1 : ¬ (lo : Int) < (lo : Int) := by omega
    have Hf := kp (HQ.out lo false _ (by rw [Hn.out]; exact Nat.le_refl _) H3.out H4.out ⟨(fun h => by cases h), (fun ⟨h, _⟩ => by rw [Hn.out] at h; omega)⟩ Hbe.out)
    go_wp2_with fail
    exact Hf.out
def FindRet (o : Option Cl) (w : World) (e : Ending) (w' : World) : Prop := e = .returned (.tuple #[.agg (clC (o.getD clZero)), .bool o.isSome]) ∧ Below w.heap.size w w'
def cellAt (l : List Cl) (k : Nat) : Option Cl := l.find? fun c => c.key == k
theorem cellAt_some {l : List Cl} (hi : ∀ i (h : i + 1 < l.length), l[i].key < l[i + 1].key) {i : Nat} (h : i < l.length) : cellAt l l[i].key = some l[i] := by
 unfold cellAt
 rw [List.find?_eq_some_iff_append]
 refine ⟨by simp, l.take i, l.drop (i + 1), ?_, ?_⟩
 ·rw [← List.drop_eq_getElem_cons h, List.take_append_drop]
 ·intro a ha
  obtain ⟨j, hj, rfl⟩ := List.getElem_of_mem ha
  rw [List.length_take] at hj
  rw [List.getElem_take]
  have := rise_lt hi (show j < i by omega) h
  simp
  omega
theorem cellAt_none {l : List Cl} {k : Nat} (h : ∀ i (h : i < l.length), l[i].key ≠ k) : cellAt l k = none := by
 unfold cellAt
 rw [List.find?_eq_none]
 intro c hc
 obtain ⟨i, hi, rfl⟩ := List.getElem_of_mem hc
 simpa using h i hi
set_option maxRecDepth 100000 in
set_option maxHeartbeats 8000000 in
theorem find_all (n : Nd) (t k : Int) (w : World) (hn1 : 1 ≤ n.ls.length) (hn : n.ls.length ≤ 4) (ht : t < 0) :
 Calls Tryz.prog 103 #[.agg (ndC n), .agg #[.int .i64 t, .int .i64 k]] w (FindRet (some n.all) w) := by
 obtain ⟨dim, nA, ls, nc, key, child, ac, s0, n0, x0, s1, n1, x1, s2, n2, x2⟩ := n
 have HQ := kp (show ∀ w', Below w.heap.size w w' → FindRet (some ⟨key, child, ac, s0, n0, x0, s1, n1, x1, s2, n2, x2⟩) w (.returned (.tuple #[.agg #[.int .i64 (key : Nat), .int .i64 (child : Nat), .int .i64 ac, .int .i64 s0, .int .i64 n0, .int .i64 x0, .int .i64 s1, .int .i64 n1, .int .i64 x1, .int .i64 s2, .int .i64 n2, .int .i64 x2], .bool true])) w' from fun w' h => ⟨rfl, h⟩)
 dsimp only at hn1 hn
 dsimp only [ndC]
 generalize hQ : FindRet (some ⟨key, child, ac, s0, n0, x0, s1, n1, x1, s2, n2, x2⟩) w = Q at *
 clear hQ
 obtain ⟨lx, hlx⟩ : ∃ lx, ls.length = lx := ⟨_, rfl⟩
 rw [hlx] at hn1 hn ⊢
 clear hlx
 have q1 : ((lx : Int) == 0) = false := by simp; omega
 have q2 : ¬ (lx : Int) ≤ t := by omega
 have q2d : decide ((lx : Int) ≤ t) = false := decide_eq_false q2
 have q3d : decide (t < 0) = true := decide_eq_true ht
 go_enter Tryz.func103, Tryz.ntmps103
 go_wp2_with fail
 refine bodyPost_ret (v := .tuple #[.agg #[.int .i64 (key : Nat), .int .i64 (child : Nat), .int .i64 ac, .int .i64 s0, .int .i64 n0, .int .i64 x0, .int .i64 s1, .int .i64 n1, .int .i64 x1, .int .i64 s2, .int .i64 n2, .int .i64 x2], .bool true]) (by simp [results, Tryz.results103, go_sem]) rfl (HQ.out _ ((((Below.refl _ w).alloc (Nat.le_refl _) _).alloc (by simp) _).alloc (by simp; omega) _))
set_option maxRecDepth 100000 in
set_option maxHeartbeats 8000000 in
theorem find_at (n : Nd) (t k : Nat) (L : Ll) (w : World) (hr : NdAt w w.heap.size n) (hn : n.ls.length ≤ 4) (hL : n.ls[t]? = some L) (hl : L.cs.length ≤ 1000000) (hi : ∀ i (h : i + 1 < L.cs.length), L.cs[i].key < L.cs[i + 1].key) :
 Calls Tryz.prog 103 #[.agg (ndC n), .agg #[.int .i64 (t : Nat), .int .i64 (k : Nat)]] w (FindRet (cellAt L.cs k) w) := by
 obtain ⟨dim, nA, ls, nc, key, child, ac, s0, n0, x0, s1, n1, x1, s2, n2, x2⟩ := n
 dsimp only at hn hL
 obtain ⟨ht, hLe⟩ := List.getElem?_eq_some_iff.1 hL
 dsimp only [ndC]
 obtain ⟨bl, ol, hA, hbl, l0⟩ := Row.at_ hr.row (k := t) (by rw [List.length_map]; exact ht)
 rw [List.getElem_map] at l0
 dsimp only at hA
 subst hA
 have hrow := hr.each _ (List.getElem_mem ht)
 unfold llV at l0
 dsimp only at l0 hrow
 rw [hLe] at l0 hrow
 clear hLe hL
 obtain ⟨lA, cs, lc⟩ := L
 dsimp only at hl hi l0 hrow ⊢
 have HB := kp (fun w h => bsearch_any lA cs lc k w h hl hi)
 have HN := kp (fun h => cellAt_none (l := cs) (k := k) h)
 have HS := kp (fun i (h : i < cs.length) => cellAt_some hi h)
 have Hi := kp hi
 clear hi
 have HQ := kp (show ∀ (o : Option Cl) w', cellAt cs k = o → Below w.heap.size w w' → FindRet (cellAt cs k) w (.returned (.tuple #[.agg (clC (o.getD clZero)), .bool o.isSome])) w' from fun o w' h1 h => by subst h1; exact ⟨rfl, h⟩)
 generalize hQ : FindRet (cellAt cs k) w = Q at *
 clear hQ
 obtain ⟨lx, hlx⟩ : ∃ lx, ls.length = lx := ⟨_, rfl⟩
 rw [hlx] at hn ht ⊢
 clear hlx
 obtain ⟨m, hm⟩ : ∃ m, cs.length = m := ⟨_, rfl⟩
 have Hm := kp hm
 rw [hm] at hl l0 HB
 clear hm
 have hb0 := (((Below.refl _ w).alloc (Nat.le_refl w.heap.size) (.cells #[.int .i64 (dim : Nat), .slice (some ⟨bl, ol, none⟩) lx nc, .int .i64 (key : Nat), .int .i64 (child : Nat), .int .i64 ac, .int .i64 s0, .int .i64 n0, .int .i64 x0, .int .i64 s1, .int .i64 n1, .int .i64 x1, .int .i64 s2, .int .i64 n2, .int .i64 x2] 108)).alloc (by simp) (.cells #[.int .i64 (t : Nat), .int .i64 (k : Nat)] 58))
 have HBn := kp ((Box.new w 108 #[.int .i64 (dim : Nat), .slice (some ⟨bl, ol, none⟩) lx nc, .int .i64 (key : Nat), .int .i64 (child : Nat), .int .i64 ac, .int .i64 s0, .int .i64 n0, .int .i64 x0, .int .i64 s1, .int .i64 n1, .int .i64 x1, .int .i64 s2, .int .i64 n2, .int .i64 x2]).alloc (.cells #[.int .i64 (t : Nat), .int .i64 (k : Nat)] 58))
 have HBp := kp (Box.lay (w := w.alloc (.cells #[.int .i64 (dim : Nat), .slice (some ⟨bl, ol, none⟩) lx nc, .int .i64 (key : Nat), .int .i64 (child : Nat), .int .i64 ac, .int .i64 s0, .int .i64 n0, .int .i64 x0, .int .i64 s1, .int .i64 n1, .int .i64 x1, .int .i64 s2, .int .i64 n2, .int .i64 x2] 108)) (g := w.heap.size + 1) (t := 58) (cs := #[.int .i64 (t : Nat), .int .i64 (k : Nat)]) (by simp))
 generalize hW0 : (w.alloc (.cells #[.int .i64 (dim : Nat), .slice (some ⟨bl, ol, none⟩) lx nc, .int .i64 (key : Nat), .int .i64 (child : Nat), .int .i64 ac, .int .i64 s0, .int .i64 n0, .int .i64 x0, .int .i64 s1, .int .i64 n1, .int .i64 x1, .int .i64 s2, .int .i64 n2, .int .i64 x2] 108)).alloc (.cells #[.int .i64 (t : Nat), .int .i64 (k : Nat)] 58) = W0 at *
 have hs0 : W0.heap.size = w.heap.size + 1 + 1 := by rw [← hW0]; simp
 have hb1 := hb0.alloc (show w.heap.size ≤ W0.heap.size by omega) (.cells #[.int .i64 0, .int .i64 0, .int .i64 0, .int .i64 0, .int .i64 0, .int .i64 0, .int .i64 0, .int .i64 0, .int .i64 0, .int .i64 0, .int .i64 0, .int .i64 0] 106)
 have HBn1 := kp (HBn.out.alloc (.cells #[.int .i64 0, .int .i64 0, .int .i64 0, .int .i64 0, .int .i64 0, .int .i64 0, .int .i64 0, .int .i64 0, .int .i64 0, .int .i64 0, .int .i64 0, .int .i64 0] 106))
 have HBp1 := kp (HBp.out.alloc (.cells #[.int .i64 0, .int .i64 0, .int .i64 0, .int .i64 0, .int .i64 0, .int .i64 0, .int .i64 0, .int .i64 0, .int .i64 0, .int .i64 0, .int .i64 0, .int .i64 0] 106))
 have HBr1 := kp (Box.lay (w := W0) (t := 106) (cs := #[.int .i64 0, .int .i64 0, .int .i64 0, .int .i64 0, .int .i64 0, .int .i64 0, .int .i64 0, .int .i64 0, .int .i64 0, .int .i64 0, .int .i64 0, .int .i64 0]) hs0)
 generalize hW1 : W0.alloc (.cells #[.int .i64 0, .int .i64 0, .int .i64 0, .int .i64 0, .int .i64 0, .int .i64 0, .int .i64 0, .int .i64 0, .int .i64 0, .int .i64 0, .int .i64 0, .int .i64 0] 106) = W1 at *
 have Hrow1 := kp (((hrow.below hb1).more hb1.size))
 have l1 := cell_keep (hb1.mono (Nat.le_refl _)) l0
 have Hb1 := kp hb1
 clear hb1 hb0 hr hrow l0 HBn HBp
 obtain ⟨d0, d1, d2, d3, d4, d5, d6, d7, d8, d9, d10, d11, d12, d13⟩ := (Box.fourteen HBn1.out).1
 obtain ⟨p0, p1, _, _⟩ := HBp1.out.two
 have q1 : ((lx : Int) == 0) = false := by simp; omega
 have q2 : ¬ (lx : Int) ≤ (t : Int) := by omega
 have q2d : decide ((lx : Int) ≤ (t : Int)) = false := decide_eq_false q2
 have q2n : decide (lx ≤ t) = false := decide_eq_false (by omega)
 have q3 : ¬ (t : Int) < 0 := by omega
 have q3d : decide ((t : Int) < 0) = false := decide_eq_false q3
 have q4 : (0 : Int) ≤ (t : Int) := by omega
 have q5 : (t : Int) < (lx : Int) := by omega
 have HBk := kp (HB.out W1 Hrow1.out)
 go_enter Tryz.func103, Tryz.ntmps103
 go_wp2_with fail
 refine HBk.out.mono ?_
 rintro e w2 ⟨i, f, rfl, hi1, hi2, hi3, hi4, hb2⟩
 have Hb2 := kp (Hb1.out.trans (hb2.mono Hb1.out.size))
 have HBr2 := kp (HBr1.out.under hb2)
 have Hrow2 := kp ((Hrow1.out.below hb2).more hb2.size)
 have H4 := kp hi4
 have H2 := kp hi2
 have H3 := kp hi3
 clear hb2 hi1 hi2 hi3 hi4 d0 d1 d2 d3 d4 d5 d6 d7 d8 d9 d10 d11 d12 d13 p0 p1 l1 q1 q2 q2d q2n q3 q3d q4 q5 hW0 hW1 hs0
 obtain ⟨⟨r0, r1, r2, r3, r4, r5, r6, r7, r8, r9, r10, r11⟩, ⟨f0, f1, f2, f3, f4, f5, f6, f7, f8, f9, f10, f11⟩⟩ := Box.twelve HBr2.out
 rcases f with _ | _
 ·have Hno := kp (HN.out (fun j hj hk => by
   rcases Nat.lt_or_ge j i with h | h
   ·have := H2.out j hj h; omega
   ·by_cases e : i = j
    ·subst e
     have := H4.out.2 ⟨hj, hk⟩
     cases this
    ·have h1 := H3.out i (by omega) (Nat.le_refl _)
     have h2 := rise_lt Hi.out (show i < j by omega) hj
     omega))
  obtain ⟨Wf, hWf⟩ : ∃ Wf, setAll w2 (w.heap.size + 1 + 1) 0 [.int .i64 0, .int .i64 0, .int .i64 0, .int .i64 0, .int .i64 0, .int .i64 0, .int .i64 0, .int .i64 0, .int .i64 0, .int .i64 0, .int .i64 0, .int .i64 0] = Wf := ⟨_, rfl⟩
  have Hfb := kp (show Below w.heap.size w Wf by rw [← hWf]; exact below_setAll (by omega) _ _ _ Hb2.out)
  have Hbf := kp (show Box Wf (w.heap.size + 1 + 1) 106 #[.int .i64 0, .int .i64 0, .int .i64 0, .int .i64 0, .int .i64 0, .int .i64 0, .int .i64 0, .int .i64 0, .int .i64 0, .int .i64 0, .int .i64 0, .int .i64 0] by rw [← hWf]; exact box_setAll0 HBr2.out _ rfl)
  simp only [setAll, Nat.zero_add, Nat.reduceAdd] at hWf
  have HF := kp (HQ.out none Wf Hno.out Hfb.out)
  go_wp2_with fail
  clear r0 r1 r2 r3 r4 r5 r6 r7 r8 r9 r10 r11
  obtain ⟨r0, r1, r2, r3, r4, r5, r6, r7, r8, r9, r10, r11⟩ := (Box.twelve Hbf.out).1
  refine bodyPost_ret (v := .tuple #[.agg (clC ((none : Option Cl).getD clZero)), .bool (none : Option Cl).isSome]) (by simp [results, Tryz.results103, go_sem, clZero, agZero, r0, r1, r2, r3, r4, r5, r6, r7, r8, r9, r10, r11]) rfl HF.out
 ·obtain ⟨him, hik⟩ := H4.out.1 rfl
  have Hso := kp (show cellAt cs k = some (cs[i]'him) by rw [← hik]; exact HS.out i him)
  have hil : i < m := by rw [← Hm.out]; exact him
  obtain ⟨b, off, hA, hb, c0, c1, c2, c3, c4, c5, c6, c7, c8, c9, c10, c11⟩ := cells_at Hrow2.out i him
  subst hA
  clear hik
  generalize (cs[i]'him) = x at *
  obtain ⟨Wf, hWf⟩ : ∃ Wf, setAll w2 (w.heap.size + 1 + 1) 0 (clV x) = Wf := ⟨_, rfl⟩
  have Hfb := kp (show Below w.heap.size w Wf by rw [← hWf]; exact below_setAll (by omega) _ _ _ Hb2.out)
  have Hbf := kp (show Box Wf (w.heap.size + 1 + 1) 106 (clC x) by rw [← hWf]; exact box_setAll0 HBr2.out _ rfl)
  simp only [setAll, Nat.zero_add, Nat.reduceAdd] at hWf
  have HF := kp (HQ.out (some x) Wf Hso.out Hfb.out)
  have q4 : (0 : Int) ≤ (i : Int) := by omega
  have q5 : (i : Int) < (m : Int) := by omega
  go_wp2_with fail
  clear r0 r1 r2 r3 r4 r5 r6 r7 r8 r9 r10 r11
  obtain ⟨r0, r1, r2, r3, r4, r5, r6, r7, r8, r9, r10, r11⟩ := (Box.twelve Hbf.out).1
  refine bodyPost_ret (v := .tuple #[.agg (clC ((some x : Option Cl).getD clZero)), .bool (some x : Option Cl).isSome]) (by simp [results, Tryz.results103, go_sem, r0, r1, r2, r3, r4, r5, r6, r7, r8, r9, r10, r11]) rfl HF.out
end Go.Proofs.YthmbgbmcdbdecaaGreat.Tc
