/- Parts of a proof: Layer 24: a copy of a node. -/
import Derived.Test.YthmbgbmcdbdecaaGreatG05
import Derived.Test.YthmbgbmcdbdecaaGreatG23
import Derived.Maps.Own
import Derived.Maps.OwnOps
import Derived.Maps.OwnSet
import Derived.Maps.Views
namespace Go.Proofs.YthmbgbmcdbdecaaGreat.Tc
open Go.RowKit Base
set_option linter.unusedVariables false
set_option linter.unusedSimpArgs false
def NdNew (p : PNode) (w : World) (e : Ending) (w' : World) : Prop := ∃ n : Nd, e = .returned (.agg (ndC n)) ∧ plN n = p ∧ NdAt w' w'.heap.size n ∧ NdFrom w.heap.size n ∧ Below w.heap.size w w'
set_option maxRecDepth 100000 in
set_option maxHeartbeats 8000000 in
theorem nclone_any (n : Nd) (w : World) (hr : NdAt w w.heap.size n) (hn4 : n.ls.length ≤ 4) (hl : ∀ l ∈ n.ls, l.cs.length ≤ 1000000) :
 Calls Tryz.prog 72 #[.agg (ndC n)] w (NdNew (plN n) w) := by
 obtain ⟨dim, nA, ls, nc, key, child, ac, s0, n0, x0, s1, n1, x1, s2, n2, x2⟩ := n
 obtain ⟨i0, ti0, tz0, tz1, tz2⟩ := info_parts info_cells
 have HC := kp cloneCells_any
 have HQ := kp (show ∀ A c (l' : List Ll) w', l'.map Ll.cs = ls.map Ll.cs → LlsOwn w' w.heap.size (.slice A l'.length c) l' → Below w.heap.size w w' → NdNew (plN ⟨dim, nA, ls, nc, key, child, ac, s0, n0, x0, s1, n1, x1, s2, n2, x2⟩) w (.returned (.agg #[.int .i64 (dim : Nat), .slice A l'.length c, .int .i64 (key : Nat), .int .i64 (child : Nat), .int .i64 ac, .int .i64 s0, .int .i64 n0, .int .i64 x0, .int .i64 s1, .int .i64 n1, .int .i64 x1, .int .i64 s2, .int .i64 n2, .int .i64 x2])) w' from fun A c l' w' h1 h2 h3 =>
  ⟨⟨dim, A, l', c, key, child, ac, s0, n0, x0, s1, n1, x1, s2, n2, x2⟩, rfl, by unfold plN; dsimp only; rw [h1], ⟨h2.at_.1, h2.at_.2⟩, h2.from_, h3⟩)
 dsimp only at hn4 hl
 have Hl := kp hl
 dsimp only [ndC]
 generalize hQ : NdNew (plN ⟨dim, nA, ls, nc, key, child, ac, s0, n0, x0, s1, n1, x1, s2, n2, x2⟩) w = Q at *
 clear hQ hl
 obtain ⟨lx, hlx⟩ : ∃ lx, ls.length = lx := ⟨_, rfl⟩
 have Hlx := kp hlx
 rw [hlx] at hn4 ⊢
 clear hlx
 have hb0 := (Below.refl w.heap.size w).alloc (Nat.le_refl _) (.cells #[.int .i64 (dim : Nat), .slice nA lx nc, .int .i64 (key : Nat), .int .i64 (child : Nat), .int .i64 ac, .int .i64 s0, .int .i64 n0, .int .i64 x0, .int .i64 s1, .int .i64 n1, .int .i64 x1, .int .i64 s2, .int .i64 n2, .int .i64 x2] 108)
 have hB0 := Box.new w 108 #[.int .i64 (dim : Nat), .slice nA lx nc, .int .i64 (key : Nat), .int .i64 (child : Nat), .int .i64 ac, .int .i64 s0, .int .i64 n0, .int .i64 x0, .int .i64 s1, .int .i64 n1, .int .i64 x1, .int .i64 s2, .int .i64 n2, .int .i64 x2]
 have Hr := kp hr
 generalize hW0 : w.alloc (.cells #[.int .i64 (dim : Nat), .slice nA lx nc, .int .i64 (key : Nat), .int .i64 (child : Nat), .int .i64 ac, .int .i64 s0, .int .i64 n0, .int .i64 x0, .int .i64 s1, .int .i64 n1, .int .i64 x1, .int .i64 s2, .int .i64 n2, .int .i64 x2] 108) = W0 at *
 have hs0 : W0.heap.size = w.heap.size + 1 := by rw [← hW0]; simp
 have hb1 := hb0.alloc (show w.heap.size ≤ W0.heap.size by omega) (.cells #[.int .i64 0, .slice none 0 0, .int .i64 0, .int .i64 0, .int .i64 0, .int .i64 0, .int .i64 0, .int .i64 0, .int .i64 0, .int .i64 0, .int .i64 0, .int .i64 0, .int .i64 0, .int .i64 0] 108)
 have hB1 := Box.lay (w := W0) (t := 108) (cs := #[.int .i64 0, .slice none 0 0, .int .i64 0, .int .i64 0, .int .i64 0, .int .i64 0, .int .i64 0, .int .i64 0, .int .i64 0, .int .i64 0, .int .i64 0, .int .i64 0, .int .i64 0, .int .i64 0]) hs0
 have hB0' := hB0.alloc (.cells #[.int .i64 0, .slice none 0 0, .int .i64 0, .int .i64 0, .int .i64 0, .int .i64 0, .int .i64 0, .int .i64 0, .int .i64 0, .int .i64 0, .int .i64 0, .int .i64 0, .int .i64 0, .int .i64 0] 108)
 generalize hW1 : W0.alloc (.cells #[.int .i64 0, .slice none 0 0, .int .i64 0, .int .i64 0, .int .i64 0, .int .i64 0, .int .i64 0, .int .i64 0, .int .i64 0, .int .i64 0, .int .i64 0, .int .i64 0, .int .i64 0, .int .i64 0] 108) = W1 at *
 have hs1 : W1.heap.size = w.heap.size + 1 + 1 := by rw [← hW1]; simp [hs0]
 have HBn1 := kp hB0'
 have HBr1 := kp hB1
 have Hb1 := kp hb1
 obtain ⟨d0, d1, d2, d3, d4, d5, d6, d7, d8, d9, d10, d11, d12, d13⟩ := (Box.fourteen hB0').1
 have hb2 := hb1.alloc (show w.heap.size ≤ W1.heap.size by omega) (.cells #[.int .i64 (dim : Nat), .slice none 0 0, .int .i64 (key : Nat), .int .i64 (child : Nat), .int .i64 ac, .int .i64 s0, .int .i64 n0, .int .i64 x0, .int .i64 s1, .int .i64 n1, .int .i64 x1, .int .i64 s2, .int .i64 n2, .int .i64 x2] 108)
 have hB2 := Box.lay (w := W1) (t := 108) (cs := #[.int .i64 (dim : Nat), .slice none 0 0, .int .i64 (key : Nat), .int .i64 (child : Nat), .int .i64 ac, .int .i64 s0, .int .i64 n0, .int .i64 x0, .int .i64 s1, .int .i64 n1, .int .i64 x1, .int .i64 s2, .int .i64 n2, .int .i64 x2]) hs1
 have hB12 := hB1.alloc (.cells #[.int .i64 (dim : Nat), .slice none 0 0, .int .i64 (key : Nat), .int .i64 (child : Nat), .int .i64 ac, .int .i64 s0, .int .i64 n0, .int .i64 x0, .int .i64 s1, .int .i64 n1, .int .i64 x1, .int .i64 s2, .int .i64 n2, .int .i64 x2] 108)
 have hB02 := hB0'.alloc (.cells #[.int .i64 (dim : Nat), .slice none 0 0, .int .i64 (key : Nat), .int .i64 (child : Nat), .int .i64 ac, .int .i64 s0, .int .i64 n0, .int .i64 x0, .int .i64 s1, .int .i64 n1, .int .i64 x1, .int .i64 s2, .int .i64 n2, .int .i64 x2] 108)
 generalize hW2 : W1.alloc (.cells #[.int .i64 (dim : Nat), .slice none 0 0, .int .i64 (key : Nat), .int .i64 (child : Nat), .int .i64 ac, .int .i64 s0, .int .i64 n0, .int .i64 x0, .int .i64 s1, .int .i64 n1, .int .i64 x1, .int .i64 s2, .int .i64 n2, .int .i64 x2] 108) = W2 at *
 have hs2 : W2.heap.size = w.heap.size + 1 + 1 + 1 := by rw [← hW2]; simp [hs1]
 have HBx := kp hB2
 have HBr := kp hB12
 have HBn := kp hB02
 have Hb2 := kp hb2
 clear hb0 hB0 hr hb1 hB1 hB0' HBn1 HBr1 Hb1 hb2 hB2 hB12 hB02
 go_enter Tryz.func72, Tryz.ntmps72
 go_upto_region 2 with fail
 clear hW0 hW1 hW2 hs0 hs1 d0 d1 d2 d3 d4 d5 d6 d7 d8 d9 d10 d11 d12 d13
 obtain ⟨d0, d1, d2, d3, d4, d5, d6, d7, d8, d9, d10, d11, d12, d13⟩ := (Box.fourteen HBn.out).1
 go_wp2_with fail
 clear d0 d1 d2 d3 d4 d5 d6 d7 d8 d9 d10 d11 d12 d13
 go_loopw [14] (fun v14 wr => ∃ (k : Nat) (xs : List Ll) (A : Option Addr) (c : Nat), k ≤ lx ∧ v14 = .int .i64 k ∧ xs.length = k ∧ xs.map Ll.cs = (ls.take k).map Ll.cs ∧ Box wr (w.heap.size + 1) 108 #[.int .i64 0, .slice none 0 0, .int .i64 0, .int .i64 0, .int .i64 0, .int .i64 0, .int .i64 0, .int .i64 0, .int .i64 0, .int .i64 0, .int .i64 0, .int .i64 0, .int .i64 0, .int .i64 0] ∧ Box wr (w.heap.size + 1 + 1) 108 #[.int .i64 (dim : Nat), .slice A k c, .int .i64 (key : Nat), .int .i64 (child : Nat), .int .i64 ac, .int .i64 s0, .int .i64 n0, .int .i64 x0, .int .i64 s1, .int .i64 n1, .int .i64 x1, .int .i64 s2, .int .i64 n2, .int .i64 x2] ∧ LlsOwn wr (w.heap.size + 1 + 1 + 1) (.slice A k c) xs ∧ Below w.heap.size w wr) (fun v14 _ => lx - (intOf v14).toNat)
 case atStart => exact ⟨0, [], none, 0, Nat.zero_le _, rfl, rfl, rfl, HBr.out, HBx.out, LlsOwn.nil _ _, Hb2.out⟩
 case round =>
  obtain ⟨k, xs, A, c, hk, rfl, hxl, hxk, hbr, hbx, hown, hbe⟩ := hrel
  have Hxl := kp hxl
  have Hxk := kp hxk
  have Hbr := kp hbr
  have Hbx := kp hbx
  have Hown := kp hown
  have Hbe := kp hbe
  clear hxl hxk hbr hbx hown hbe
  by_cases hlt : k < lx
  ·have hkl : k < ls.length := by rw [Hlx.out]; exact hlt
   have hnd := Hr.out.below Hbe.out
   obtain ⟨bl, ol, hA, hbl, l0⟩ := Row.at_ hnd.row (k := k) (by rw [List.length_map]; exact hkl)
   rw [List.getElem_map] at l0
   dsimp only at hA
   subst hA
   have hll := Hl.out _ (List.getElem_mem hkl)
   have HSk := kp (fun W (hW : Below wr.heap.size wr W) => HC.out (ls[k]'hkl).A (ls[k]'hkl).c (ls[k]'hkl).cs W hll ((((hnd.each _ (List.getElem_mem hkl)).more Hbe.out.size).below hW).more hW.size))
   have Hxn := kp (show ∀ l : Ll, l.cs = (ls[k]'hkl).cs → (xs ++ [l]).map Ll.cs = (ls.take (k + 1)).map Ll.cs from fun l hl => by rw [List.take_succ_eq_append_getElem hkl, List.map_append, List.map_append, Hxk.out, List.map_cons, List.map_nil, List.map_cons, List.map_nil, hl])
   have Hone := kp (cl_flat_one (ls[k]'hkl).cs)
   clear hnd
   unfold llV at l0
   generalize (ls[k]'hkl).A = dA at *
   generalize hcs : (ls[k]'hkl).cs = cs at *
   clear hcs
   obtain ⟨dl, hdl⟩ : ∃ dl, cs.length = dl := ⟨_, rfl⟩
   have Hdl := kp hdl
   rw [hdl] at l0 HSk
   clear hdl
   generalize (ls[k]'hkl).c = dc at *
   have hi0 : (0 : Int) ≤ (k : Int) := by omega
   have hi1 : (k : Int) < (lx : Int) := by omega
   have Hsz := kp (show w.heap.size + 1 + 1 < wr.heap.size from Hbx.out.lt)
   go_upto_region 5 with fail
   clear l0
   obtain ⟨⟨_, x0', _⟩, ⟨_, f0', _⟩⟩ := Box.fourteen Hbx.out
   have hltx : w.heap.size + 1 + 1 < wr.heap.size := Hbx.out.lt
   refine wp_region_noPanic ?_
   refine wp_region_T (t := 7) (S := (fun w' => w'.cell? ⟨w.heap.size + 1 + 1, 1, none⟩ = some (.slice A k c) ∧ w'.frozen? ⟨w.heap.size + 1 + 1, 1, none⟩ = false)) (by kernel_rfl) ⟨x0', f0'⟩ (fun hHeld => ?_)
   refine tk 0 hHeld ?_
   refine tk 1 hHeld ?_
   refine tk 2 hHeld ?_
   refine wpAnyT_one (i := 3) (o := ?op3) (by kernel_rfl) ?ap3 (by decide) (fun K hK => ?bp3)
   case ap3 => (simp only [List.getElem?_toArray, List.getElem?_cons_succ, List.getElem?_cons_zero]; exact rfl)
   go_simp
   refine (HSk.out _ (Below.refl _ _).drew).mono ?_
   rintro e w4 ⟨v4, rfl, hown4, hb4⟩
   obtain ⟨A4, c4, rfl⟩ := own_formK hown4
   have Hown4 := kp hown4
   have Hb4 := kp (show Below wr.heap.size wr w4 from (Below.refl _ _).drew.trans hb4)
   clear hown4 hb4
   refine hK.out _ _ ?_ (fun hHeld2 => ?_)
   ·exact ⟨cell_keep Hb4.out hHeld.1, by rw [frozen_below Hb4.out _ _ hltx]; exact f0'⟩
   clear hK K hHeld
   have hHeld := hHeld2
   clear hHeld2
   try simp only [Act.put, List.setIfInBounds_toArray, List.set_cons_zero, List.set_cons_succ]
   have hlt4 : w.heap.size + 1 + 1 < w4.heap.size := Nat.lt_of_lt_of_le hltx Hb4.out.size
   have Hown5 := kp (Hown.out.below Hb4.out)
   have HN := kp (Ap.new (v := .slice A k c) Hown4.out (fun j hj => (Hown.out.1.lt j hj).2))
   have HF0 := kp (From.own (B0 := w.heap.size + 1 + 1 + 1) Hown4.out hltx)
   have Hbx4 := kp (Hbx.out.under Hb4.out)
   have Hbr4 := kp (Hbr.out.under Hb4.out)
   have Hbe4 := kp (Hbe.out.trans (Hb4.out.mono Hbe.out.size))
   have Hown5r := kp (show w4.ownsRow (w.heap.size + 1 + 1 + 1) 142 1 (.slice A k c) k (xs.map llV) by have := Hown5.out.1; rw [Hxl.out] at this; exact this)
   have hk1 : k < 1048576 * 64 := by omega
   have HneG := kp (show ∀ j, j < w.heap.size + 1 + 1 + 1 → (Value.slice A k c).ownBlock ≠ some j from fun j hj hh => by have := (Hown5r.out.lt j hh).1; omega)
   refine wpAnyT_one (i := 4) (o := ?op4) (by kernel_rfl) ?ap4 (by decide) (fun K hK => ?bp4)
   case ap4 => (simp only [List.getElem?_toArray, List.getElem?_cons_succ, List.getElem?_cons_zero]; exact rfl)
   go_simp
   refine hK.out _ _ ?_ (fun hHeld2 => ?_)
   ·exact ⟨cell_keep ((Below.refl _ _).alloc (Nat.le_refl _) _) hHeld.1, by rw [frozen_below ((Below.refl _ _).alloc (Nat.le_refl w4.heap.size) _) _ _ hlt4]; exact hHeld.2⟩
   clear hK K hHeld
   have hHeld := hHeld2
   clear hHeld2
   try simp only [Act.put, List.setIfInBounds_toArray, List.set_cons_zero, List.set_cons_succ]
   refine wpAnyT_one (i := 5) (o := ?op5) (by kernel_rfl) ?ap5 (by decide) (fun K hK => ?bp5)
   case ap5 => (simp only [List.getElem?_toArray, List.getElem?_cons_succ, List.getElem?_cons_zero]; exact rfl)
   refine step_append1 rfl (.tmp 19) (.tmp 22) 104 rfl (w.heap.size + 1 + 1 + 1) 142 i0 (.slice none 0 0) 24 Tryz.underlying104 ti0 tz0 tz1 tz2 rfl w4 (.slice A4 dl c4) rfl (.slice A k c) k (xs.map llV) rfl Hown5r.out rfl hk1 (by decide) hlt4 ?_
   intro v5 w5 hown5 happ5
   obtain ⟨A5, c5, h5⟩ := own_form hown5
   subst h5
   have Hown6 := kp hown5
   have Hapl := kp happ5
   clear hown5 happ5
   go_simp
   refine hK.out _ _ ?_ (fun hHeld2 => ?_)
   ·have e1 := (Hapl.out.farK hlt4 (HneG.out _ (by omega)))
    have e2 := (Below.heap_alloc w4 (.cells #[.slice A4 dl c4] 142) _ hlt4)
    exact ⟨(World.cell?_of_block (a := ⟨w.heap.size + 1 + 1, 1, none⟩) (e1.trans e2.symm)).trans hHeld.1, by have h := hHeld.2; unfold World.frozen? at h ⊢; rw [e1.trans e2.symm]; exact h⟩
   clear hK K hHeld
   have hHeld := hHeld2
   clear hHeld2
   try simp only [Act.put, List.setIfInBounds_toArray, List.set_cons_zero, List.set_cons_succ]
   refine tk 6 hHeld ?_
   refine wpAnyT_last (o := ?op7) (by kernel_rfl) ?ap7 (by kernel_rfl) (fun K hK => ?bp7)
   case ap7 => (simp only [List.getElem?_toArray, List.getElem?_cons_succ, List.getElem?_cons_zero]; exact rfl)
   obtain ⟨x1', x2'⟩ := hHeld
   have hHeld := x1'
   go_simp
   refine hK.out _ _ ?_
   clear hK K hHeld
   refine NoPanic.normal ?_
   try simp only [Act.put, List.setIfInBounds_toArray, List.set_cons_zero, List.set_cons_succ]
   have HF := kp (LlsOwn.app (l := ⟨A4, cs, c4⟩) Hown5.out HN.out HF0.out (by unfold llV; rw [Hdl.out]; exact Hown6.out) Hapl.out Hxl.out)
   have hne : w.heap.size + 1 ≠ w.heap.size + 1 + 1 := by omega
   go_wp2_with fail
   refine ⟨⟨k + 1, xs ++ [⟨A4, cs, c4⟩], A5, c5, by omega, by go_num, by rw [List.length_append, Hxl.out]; rfl, Hxn.out _ rfl, ?_, ?_, ?_, ?_⟩, by simp [intOf]; omega⟩
   ·exact (Below.heap_setCell w5 ⟨w.heap.size + 1 + 1, 1, none⟩ _ _ hne).trans ((Hapl.out.farK (by omega) (HneG.out _ (by omega))).trans Hbr4.out)
   ·exact Box.set (show Box w5 (w.heap.size + 1 + 1) 108 #[.int .i64 (dim : Nat), .slice A k c, .int .i64 (key : Nat), .int .i64 (child : Nat), .int .i64 ac, .int .i64 s0, .int .i64 n0, .int .i64 x0, .int .i64 s1, .int .i64 n1, .int .i64 x1, .int .i64 s2, .int .i64 n2, .int .i64 x2] from (Hapl.out.farK hlt4 (HneG.out _ (by omega))).trans Hbx4.out) 1 (.slice A5 (k + 1) c5)
   ·exact HF.out.far (p := ⟨w.heap.size + 1 + 1, 1, none⟩) (by simp) _
   ·exact (Hapl.out.below Hbe4.out Hown5r.out (by omega) (by omega)).setCell (p := ⟨w.heap.size + 1 + 1, 1, none⟩) (by simp; omega) _
  ·obtain rfl : k = lx := by omega
   obtain ⟨c0, c1, c2, c3, c4, c5, c6, c7, c8, c9, c10, c11, c12, c13⟩ := (Box.fourteen Hbx.out).1
   obtain ⟨⟨q0, q1, q2, q3, q4, q5, q6, q7, q8, q9, q10, q11, q12, q13⟩, ⟨f0, f1, f2, f3, f4, f5, f6, f7, f8, f9, f10, f11, f12, f13⟩⟩ := Box.fourteen Hbr.out
   have HF := kp (HQ.out A c xs)
   rw [Hxl.out] at HF
   have Hkeys := kp (show xs.map Ll.cs = ls.map Ll.cs by have := Hxk.out; rw [List.take_of_length_le (by rw [Hlx.out]; exact Nat.le_refl _)] at this; exact this)
   obtain ⟨Wf, hWf⟩ : ∃ Wf, setAll wr (w.heap.size + 1) 0 [.int .i64 (dim : Nat), .slice A k c, .int .i64 (key : Nat), .int .i64 (child : Nat), .int .i64 ac, .int .i64 s0, .int .i64 n0, .int .i64 x0, .int .i64 s1, .int .i64 n1, .int .i64 x1, .int .i64 s2, .int .i64 n2, .int .i64 x2] = Wf := ⟨_, rfl⟩
   have Hfo := kp (show LlsOwn Wf w.heap.size (.slice A k c) xs by
    rw [← hWf]
    exact ((((((((((((((Hown.out.far (p := ⟨w.heap.size + 1, 0, none⟩) (by simp <;> omega) _).far (p := ⟨w.heap.size + 1, 1, none⟩) (by simp <;> omega) _).far (p := ⟨w.heap.size + 1, 2, none⟩) (by simp <;> omega) _).far (p := ⟨w.heap.size + 1, 3, none⟩) (by simp <;> omega) _).far (p := ⟨w.heap.size + 1, 4, none⟩) (by simp <;> omega) _).far (p := ⟨w.heap.size + 1, 5, none⟩) (by simp <;> omega) _).far (p := ⟨w.heap.size + 1, 6, none⟩) (by simp <;> omega) _).far (p := ⟨w.heap.size + 1, 7, none⟩) (by simp <;> omega) _).far (p := ⟨w.heap.size + 1, 8, none⟩) (by simp <;> omega) _).far (p := ⟨w.heap.size + 1, 9, none⟩) (by simp <;> omega) _).far (p := ⟨w.heap.size + 1, 10, none⟩) (by simp <;> omega) _).far (p := ⟨w.heap.size + 1, 11, none⟩) (by simp <;> omega) _).far (p := ⟨w.heap.size + 1, 12, none⟩) (by simp <;> omega) _).far (p := ⟨w.heap.size + 1, 13, none⟩) (by simp <;> omega) _).base (by omega))
   have Hfb := kp (show Below w.heap.size w Wf by rw [← hWf]; exact below_setAll (by omega) _ _ _ Hbe.out)
   have Hbf := kp (show Box Wf (w.heap.size + 1) 108 #[.int .i64 (dim : Nat), .slice A k c, .int .i64 (key : Nat), .int .i64 (child : Nat), .int .i64 ac, .int .i64 s0, .int .i64 n0, .int .i64 x0, .int .i64 s1, .int .i64 n1, .int .i64 x1, .int .i64 s2, .int .i64 n2, .int .i64 x2] by rw [← hWf]; exact box_setAll0 Hbr.out _ rfl)
   simp only [setAll, Nat.zero_add, Nat.reduceAdd] at hWf
   go_wp2_with fail
   clear q0 q1 q2 q3 q4 q5 q6 q7 q8 q9 q10 q11 q12 q13
   obtain ⟨q0, q1, q2, q3, q4, q5, q6, q7, q8, q9, q10, q11, q12, q13⟩ := (Box.fourteen Hbf.out).1
   refine bodyPost_ret (v := .agg #[.int .i64 (dim : Nat), .slice A k c, .int .i64 (key : Nat), .int .i64 (child : Nat), .int .i64 ac, .int .i64 s0, .int .i64 n0, .int .i64 x0, .int .i64 s1, .int .i64 n1, .int .i64 x1, .int .i64 s2, .int .i64 n2, .int .i64 x2]) (by simp [results, Tryz.results72, go_sem, q0, q1, q2, q3, q4, q5, q6, q7, q8, q9, q10, q11, q12, q13]) rfl (HF.out _ Hkeys.out Hfo.out Hfb.out)
end Go.Proofs.YthmbgbmcdbdecaaGreat.Tc
