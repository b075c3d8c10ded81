/- Parts of a proof: Layer 27: an arena's length, its last node, its shape. Layer 27: a node of an arena. Layer 28: one step of a lookup. -/
import Derived.Test.YthmbgbmcdbdecaaGreatG05
import Derived.Test.YthmbgbmcdbdecaaGreatG21
import Derived.Test.YthmbgbmcdbdecaaGreatG24
import Derived.Test.YthmbgbmcdbdecaaGreatG25
import Derived.Test.YthmbgbmcdbdecaaGreatG32
namespace Go.Proofs.YthmbgbmcdbdecaaGreat.Tc
open Go.RowKit Base
set_option linter.unusedVariables false
set_option linter.unusedSimpArgs false
section
variable (ga : Nat) (As An : Option Addr) (nx cs m nn cn most : Nat) (w : World)
set_option maxHeartbeats 1000000 in
theorem len_any (h : Box w ga 138 (arC As nx cs m An nn cn most)) (hn : 1 ≤ nx) :
 Calls Tryz.prog 43 #[.pointer (some ⟨ga, 0, none⟩)] w fun e w' => e = .returned (.int .i64 (nn : Nat)) ∧ w' = w := by
 have HT := kp (there_any ga As An nx cs m nn cn most w h hn)
 obtain ⟨⟨a0, a1, a2, a3⟩, _⟩ := Box.four h
 go_enter Tryz.func43, Tryz.ntmps43
 go_wp2_with fail
 refine HT.out.mono ?_
 rintro e w1 ⟨rfl, rfl⟩
 go_wp2_with fail
 go_ret
 exact ⟨rfl, rfl⟩
set_option maxHeartbeats 1000000 in
theorem top_any (h : Box w ga 138 (arC As nx cs m An nn cn most)) (hn : 1 ≤ nx) (hnn : nn ≤ 1000000) :
 Calls Tryz.prog 36 #[.pointer (some ⟨ga, 0, none⟩)] w fun e w' => e = .returned (.int .i64 ((nn : Int) - 1)) ∧ w' = w := by
 have HT := kp (len_any ga As An nx cs m nn cn most w h hn)
 have hw : IntKind.i64.wrap ((nn : Int) - 1) = (nn : Int) - 1 := IntWalk.i64_in _ (by omega)
 go_enter Tryz.func36, Tryz.ntmps36
 go_wp2_with fail
 refine HT.out.mono ?_
 rintro e w1 ⟨rfl, rfl⟩
 go_wp2_with fail
 go_ret
 exact ⟨rfl, rfl⟩
end
def ShapeOf (xs : List Fa) (m : Nat) (w : World) (e : Ending) (w' : World) : Prop := ∃ (A : Option Addr) (c : Nat) (ys : List Fa), e = .returned (.agg #[.slice A ys.length c, .int .i64 (m : Nat)]) ∧ IlsOwn w' w.heap.size (.slice A ys.length c) ys ∧ ys.map Fa.keys = xs.map Fa.keys ∧ Below w.heap.size w w'
set_option maxRecDepth 100000 in
set_option maxHeartbeats 4000000 in
theorem ashape_any (ga : Nat) (A An : Option Addr) (c m nn cn most : Nat) (xs : List Fa) (w : World) (hbx : Box w ga 138 (arC A xs.length c m An nn cn most)) (h : IlsAt w w.heap.size A xs) (hn1 : 1 ≤ xs.length) (hn16 : xs.length ≤ 16) (hsz : ∀ x ∈ xs, x.keys.length ≤ 1000000) :
 Calls Tryz.prog 34 #[.pointer (some ⟨ga, 0, none⟩)] w (ShapeOf xs m w) := by
 obtain ⟨i0, ti0, tz0, tz1, tz2⟩ := info_parts info_ints
 have HQ := kp (show ∀ A c ys w', IlsOwn w' w.heap.size (.slice A ys.length c) ys → ys.map Fa.keys = xs.map Fa.keys → Below w.heap.size w w' → ShapeOf xs m w (.returned (.agg #[.slice A ys.length c, .int .i64 (m : Nat)])) w' from fun A c ys w' h2 h3 h4 => ⟨A, c, ys, rfl, h2, h3, h4⟩)
 have Hh := kp h
 have Hsz := kp hsz
 have hb0 := (Below.refl w.heap.size w).alloc (Nat.le_refl _) (.cells #[.slice none 0 0, .int .i64 0] 83)
 have HR0 := kp (Box.new w 83 #[.slice none 0 0, .int .i64 0])
 have HG0 := kp (hbx.under hb0)
 have Hb0 := kp hb0
 clear h hb0 hbx hsz
 generalize hQ : ShapeOf xs m w = Q at *
 clear hQ
 obtain ⟨n, hn⟩ : ∃ n, xs.length = n := ⟨_, rfl⟩
 have Hn := kp hn
 rw [hn] at HG0 hn16 hn1
 clear hn
 generalize hW0 : w.alloc (.cells #[.slice none 0 0, .int .i64 0] 83) = W0 at *
 have HT := kp (there_any ga A An n c m nn cn most W0 HG0.out hn1)
 have hb1 := (Below.refl W0.heap.size W0).alloc (Nat.le_refl _) (.cells #[.slice none 0 0, .int .i64 (m : Nat)] 83)
 have HBz := kp (Box.new W0 83 #[.slice none 0 0, .int .i64 (m : Nat)])
 have HG1 := kp (HG0.out.under hb1)
 have HR1 := kp (HR0.out.under hb1)
 have Hb2 := kp (Hb0.out.trans (hb1.mono Hb0.out.size))
 have HgS := kp (show w.heap.size + 1 ≤ W0.heap.size from HR0.out.lt)
 generalize hW2 : W0.alloc (.cells #[.slice none 0 0, .int .i64 (m : Nat)] 83) = W2 at *
 obtain ⟨⟨a0, a1, _, _⟩, _⟩ := Box.four HG0.out
 obtain ⟨⟨y0, y1, _, _⟩, _⟩ := Box.four HG1.out
 clear hb1
 go_enter Tryz.func34, Tryz.ntmps34
 go_wp2_with fail
 refine HT.out.mono ?_
 rintro e w1 ⟨rfl, rfl⟩
 go_wp2_with fail
 clear a0 a1 y0 y1 hW2 hW0 HG0 HG1 HR0 HT
 generalize W0.heap.size = gS at *
 go_loopw [22] (fun v22 wr => ∃ (k : Nat) (ys : List Fa) (A' : Option Addr) (c' : Nat), k ≤ n ∧ v22 = .int .i64 k ∧ ys.length = k ∧ ys.map Fa.keys = (xs.take k).map Fa.keys ∧ Box wr w.heap.size 83 #[.slice none 0 0, .int .i64 0] ∧ Box wr gS 83 #[.slice A' k c', .int .i64 (m : Nat)] ∧ IlsOwn wr (gS + 1) (.slice A' k c') ys ∧ Below w.heap.size w wr) (fun v22 _ => n - (intOf v22).toNat)
 case atStart => exact ⟨0, [], none, 0, Nat.zero_le _, rfl, rfl, rfl, HR1.out, HBz.out, IlsOwn.nil _ _, Hb2.out⟩
 case round =>
  obtain ⟨k, ys, A', c', hk, rfl, hyl, hyk, hbr, hbx, hown, hbe⟩ := hrel
  have Hyl := kp hyl
  have Hyk := kp hyk
  have Hbr := kp hbr
  have Hbx := kp hbx
  have Hown := kp hown
  have Hbe := kp hbe
  clear hyl hyk hbr hbx hown hbe
  by_cases hlt : k < n
  ·have hkd : k < xs.length := by rw [Hn.out]; exact hlt
   have hat := (Hh.out.below Hbe.out).more Hbe.out.size
   obtain ⟨b, off, hA, hb, c0⟩ := Row.at_ hat.row (k := k) (by rw [List.length_map]; exact hkd)
   rw [List.getElem_map] at c0
   unfold ilV at c0
   have HCk := kp (fun W (hW : Below wr.heap.size wr W) => cloneInts_any (xs[k]'hkd).A (xs[k]'hkd).c (xs[k]'hkd).keys W (Hsz.out _ (List.getElem_mem hkd)) (((hat.each _ (List.getElem_mem hkd)).below hW).more hW.size))
   have Hyn := kp (show ∀ f : Fa, f.keys = (xs[k]'hkd).keys → (ys ++ [f]).map Fa.keys = (xs.take (k + 1)).map Fa.keys from fun f hf => by rw [List.take_succ_eq_append_getElem hkd, List.map_append, List.map_append, Hyk.out, List.map_cons, List.map_nil, List.map_cons, List.map_nil, hf])
   generalize (xs[k]'hkd).A = xA at *
   generalize (xs[k]'hkd).keys = xk at *
   generalize (xs[k]'hkd).c = xc at *
   have hi0 : (0 : Int) ≤ (k : Int) := by omega
   have hi1 : (k : Int) < (n : Int) := by omega
   rw [hA]
   clear hat hA
   go_upto_region 7 with fail
   clear c0
   obtain ⟨x0, x1, f0, _⟩ := Hbx.out.two
   have hltx : gS < wr.heap.size := Hbx.out.lt
   have HCk3 := kp (HCk.out wr.drew (Below.refl _ _).drew)
   refine wp_region_noPanic ?_
   refine wp_region_T (t := 7) (S := (fun w' => w'.cell? ⟨gS, 0, none⟩ = some (.slice A' k c') ∧ w'.frozen? ⟨gS, 0, none⟩ = false)) (by kernel_rfl) ⟨x0, f0⟩ (fun hHeld => ?_)
   refine tk 0 hHeld ?_
   refine tk 1 hHeld ?_
   refine tk 2 hHeld ?_
   refine wpAnyT_one (i := 3) (o := ?op3) (by kernel_rfl) ?ap3 (by decide) (fun K hK => ?bp3)
   case ap3 => (simp only [List.getElem?_toArray, List.getElem?_cons_succ, List.getElem?_cons_zero]; exact rfl)
   go_simp
   refine HCk3.out.mono ?_
   rintro e w4 ⟨v4, rfl, hown4, hb4⟩
   obtain ⟨A4, c4, rfl⟩ := own_form hown4
   have Hown4 := kp hown4
   have Hb4 := kp (show Below wr.heap.size wr w4 from (Below.refl _ _).drew.trans hb4)
   clear hown4 hb4
   refine hK.out _ _ ?_ (fun hHeld2 => ?_)
   ·exact ⟨cell_keep Hb4.out hHeld.1, by rw [frozen_below Hb4.out _ _ hltx]; exact f0⟩
   clear hK K hHeld
   have hHeld := hHeld2
   clear hHeld2
   try simp only [Act.put, List.setIfInBounds_toArray, List.set_cons_zero, List.set_cons_succ]
   have hlt4 : gS < w4.heap.size := Nat.lt_of_lt_of_le hltx Hb4.out.size
   have Hown5 := kp (Hown.out.below Hb4.out)
   have HN := kp (il_new (n := 0) (w := w4) (v := .slice A' k c') (B0 := gS + 1) Hown4.out (fun j hj => (Hown.out.1.lt j hj).2) hltx)
   have Hbx4 := kp (Hbx.out.under Hb4.out)
   have Hbe4 := kp (Hbe.out.trans (Hb4.out.mono Hbe.out.size))
   have Hown5r := kp (show w4.ownsRow (gS + 1) 41 1 (.slice A' k c') k (ys.map ilV) by have := Hown5.out.1; rw [Hyl.out] at this; exact this)
   have hk1 : k < 1048576 * 64 := by omega
   have HneG := kp (show (Value.slice A' k c').ownBlock ≠ some gS from fun hh => by have := (Hown5r.out.lt gS hh).1; omega)
   refine wpAnyT_one (i := 4) (o := ?op4) (by kernel_rfl) ?ap4 (by decide) (fun K hK => ?bp4)
   case ap4 => (simp only [List.getElem?_toArray, List.getElem?_cons_succ, List.getElem?_cons_zero]; exact rfl)
   go_simp
   refine hK.out _ _ ?_ (fun hHeld2 => ?_)
   ·exact ⟨cell_keep ((Below.refl _ _).alloc (Nat.le_refl _) _) hHeld.1, by rw [frozen_below ((Below.refl _ _).alloc (Nat.le_refl w4.heap.size) _) _ _ hlt4]; exact hHeld.2⟩
   clear hK K hHeld
   have hHeld := hHeld2
   clear hHeld2
   try simp only [Act.put, List.setIfInBounds_toArray, List.set_cons_zero, List.set_cons_succ]
   refine wpAnyT_one (i := 5) (o := ?op5) (by kernel_rfl) ?ap5 (by decide) (fun K hK => ?bp5)
   case ap5 => (simp only [List.getElem?_toArray, List.getElem?_cons_succ, List.getElem?_cons_zero]; exact rfl)
   refine step_append1 rfl (.tmp 27) (.tmp 30) 81 rfl (gS + 1) 41 i0 (.slice none 0 0) 24 Tryz.underlying81 ti0 tz0 tz1 tz2 rfl w4 (.slice A4 xk.length c4) rfl (.slice A' k c') k (ys.map ilV) rfl Hown5r.out rfl hk1 (by decide) hlt4 ?_
   intro v5 w5 hown5 happ5
   obtain ⟨A5, c5, h5⟩ := own_form hown5
   subst h5
   have Hown6 := kp hown5
   have Hapl := kp happ5
   clear hown5 happ5
   go_simp
   refine hK.out _ _ ?_ (fun hHeld2 => ?_)
   ·have e1 := (Hapl.out.farK hlt4 HneG.out)
    have e2 := (Below.heap_alloc w4 (.cells #[.slice A4 xk.length c4] 41) _ hlt4)
    exact ⟨(World.cell?_of_block (a := ⟨gS, 0, none⟩) (e1.trans e2.symm)).trans hHeld.1, by have h := hHeld.2; unfold World.frozen? at h ⊢; rw [e1.trans e2.symm]; exact h⟩
   clear hK K hHeld
   have hHeld := hHeld2
   clear hHeld2
   try simp only [Act.put, List.setIfInBounds_toArray, List.set_cons_zero, List.set_cons_succ]
   refine tk 6 hHeld ?_
   refine wpAnyT_last (o := ?op7) (by kernel_rfl) ?ap7 (by kernel_rfl) (fun K hK => ?bp7)
   case ap7 => (simp only [List.getElem?_toArray, List.getElem?_cons_succ, List.getElem?_cons_zero]; exact rfl)
   obtain ⟨x1', x2'⟩ := hHeld
   have hHeld := x1'
   go_simp
   refine hK.out _ _ ?_
   clear hK K hHeld
   refine NoPanic.normal ?_
   try simp only [Act.put, List.setIfInBounds_toArray, List.set_cons_zero, List.set_cons_succ]
   have HF := kp (IlsOwn.app (f := ⟨A4, xk, c4, agZero⟩) Hown5.out HN.out.1 HN.out.2 Hown6.out Hapl.out Hyl.out)
   go_wp2_with fail
   refine ⟨⟨k + 1, ys ++ [⟨A4, xk, c4, agZero⟩], A5, c5, by omega, by go_num, by rw [List.length_append, Hyl.out]; rfl, Hyn.out _ rfl, ?_, ?_, ?_, ?_⟩, by simp [intOf]; omega⟩
   ·exact (Below.heap_setCell w5 ⟨gS, 0, none⟩ _ w.heap.size (by have := HgS.out; dsimp only; omega)).trans ((Hapl.out.farK (Nat.lt_of_lt_of_le Hbr.out.lt Hb4.out.size) (fun hh => by have h1 := (Hown5r.out.lt _ hh).1; have := HgS.out; omega)).trans (Hbr.out.under Hb4.out))
   ·exact Box.set (show Box w5 gS 83 #[.slice A' k c', .int .i64 (m : Nat)] from (Hapl.out.farK hlt4 HneG.out).trans Hbx4.out) 0 (.slice A5 (k + 1) c5)
   ·exact HF.out.far (p := ⟨gS, 0, none⟩) (by simp) _
   ·exact (Hapl.out.below Hbe4.out Hown5r.out (by have := HgS.out; omega) (by have := HgS.out; omega)).setCell (p := ⟨gS, 0, none⟩) (by have := HgS.out; dsimp only; omega) _
  ·obtain rfl : k = n := by omega
   obtain ⟨x0, x1, _, _⟩ := Hbx.out.two
   obtain ⟨q0, q1, f0, f1⟩ := Hbr.out.two
   have HF := kp (HQ.out A' c' ys)
   rw [Hyl.out] at HF
   have Hkeys := kp (show ys.map Fa.keys = xs.map Fa.keys by have := Hyk.out; rw [List.take_of_length_le (by rw [Hn.out]; exact Nat.le_refl _)] at this; exact this)
   have hgS := HgS.out
   have Hfo := kp (((Hown.out.far (p := ⟨w.heap.size, 0, none⟩) (by simp <;> omega) (.slice A' k c')).far (p := ⟨w.heap.size, 1, none⟩) (by simp <;> omega) (.int .i64 (m : Nat))).base (show w.heap.size ≤ gS + 1 by omega))
   have Hfb := kp ((Hbe.out.setCell (p := ⟨w.heap.size, 0, none⟩) (by simp) (.slice A' k c')).setCell (p := ⟨w.heap.size, 1, none⟩) (by simp) (.int .i64 (m : Nat)))
   go_wp2_with fail
   have hbf : Box ((wr.setCell ⟨w.heap.size, 0, none⟩ (.slice A' k c')).setCell ⟨w.heap.size, 1, none⟩ (.int .i64 (m : Nat))) w.heap.size 83 #[.slice A' k c', .int .i64 (m : Nat)] := (Hbr.out.set 0 (.slice A' k c')).set 1 (.int .i64 (m : Nat))
   clear q0 q1
   obtain ⟨q0, q1, _, _⟩ := hbf.two
   refine bodyPost_ret (v := .agg #[.slice A' k c', .int .i64 (m : Nat)]) (by simp [results, Tryz.results34, go_sem, q0, q1]) rfl (HF.out _ Hfo.out Hkeys.out Hfb.out)
def NodeOf (p : PNode) (w : World) (e : Ending) (w' : World) : Prop := ∃ n : Nd, e = .returned (.tuple #[.agg (ndC n), .int .i64 0]) ∧ plN n = p ∧ NdAt w' w'.heap.size n ∧ Below w.heap.size w w'
def NodeOf2 (p : PNode) (w : World) (e : Ending) (w' : World) : Prop := ∃ n : Nd, e = .returned (.tuple #[.agg (ndC n), .int .i64 0]) ∧ plN n = p ∧ NdAt w' w'.heap.size n ∧ NdFrom w.heap.size n ∧ Below w.heap.size w w'
theorem Row.farAll {g B : Nat} {A : Option Addr} {vs : List Value} (hne : ∀ k, Foot A vs k → k ≠ g) (us : List Value) (w : World) (o : Nat) (h : Row w B A vs) : Row (setAll w g o us) B A vs :=
 row_foot h (fun k hk => setAll_other (hne k hk) us w o)
set_option maxRecDepth 100000 in
set_option maxHeartbeats 8000000 in
theorem anode2_any (ga : Nat) (As An : Option Addr) (nx cs m cn most : Nat) (nds : List Nd) (i : Nat) (hi : i < nds.length) (w : World) (hbx : Box w ga 138 (arC As nx cs m An nds.length cn most)) (h : NdsAt w w.heap.size An nds) (hx : 1 ≤ nx) (hnn : nds.length ≤ 1000000)
 (hn4 : nds[i].ls.length ≤ 4) (hl : ∀ l ∈ nds[i].ls, l.cs.length ≤ 1000000) :
 Calls Tryz.prog 38 #[.pointer (some ⟨ga, 0, none⟩), .int .i64 (i : Nat)] w (NodeOf2 (plN nds[i]) w) := by
 have HQ := kp (show ∀ n w', plN n = plN nds[i] → NdAt w' w'.heap.size n → NdFrom w.heap.size n → Below w.heap.size w w' → NodeOf2 (plN nds[i]) w (.returned (.tuple #[.agg (ndC n), .int .i64 0])) w' from fun n w' h1 h2 h3 h4 => ⟨n, rfl, h1, h2, h3, h4⟩)
 have hb0 := (Below.refl w.heap.size w).alloc (Nat.le_refl _) (.cells #[.int .i64 0, .slice none 0 0, .int .i64 0, .int .i64 0, .int .i64 0, .int .i64 0, .int .i64 0, .int .i64 0, .int .i64 0, .int .i64 0, .int .i64 0, .int .i64 0, .int .i64 0, .int .i64 0] 108)
 have HR0 := kp (Box.new w 108 #[.int .i64 0, .slice none 0 0, .int .i64 0, .int .i64 0, .int .i64 0, .int .i64 0, .int .i64 0, .int .i64 0, .int .i64 0, .int .i64 0, .int .i64 0, .int .i64 0, .int .i64 0, .int .i64 0])
 have HG0 := kp (hbx.under hb0)
 have hat := (h.below hb0).more hb0.size
 have Hb0 := kp hb0
 have HC := kp (nclone_any nds[i] _ (hat.each _ (List.getElem_mem hi)) hn4 hl)
 obtain ⟨bn, on, hA, hbn, d0, d1, d2, d3, d4, d5, d6, d7, d8, d9, d10, d11, d12, d13⟩ := nodes_at hat.row i hi
 generalize nds[i] = nd at *
 obtain ⟨dim, nA, ls, nc, ⟨key, child, ⟨ac, s0, n0, x0, s1, n1, x1, s2, n2, x2⟩⟩⟩ := nd
 dsimp only [ndC] at HC d0 d1 d2 d3 d4 d5 d6 d7 d8 d9 d10 d11 d12 d13
 generalize hp : plN ⟨dim, nA, ls, nc, ⟨key, child, ⟨ac, s0, n0, x0, s1, n1, x1, s2, n2, x2⟩⟩⟩ = pn at *
 generalize hQ : NodeOf2 pn w = Q at *
 clear hQ hp hat hb0 hbx h
 generalize hW0 : w.alloc (.cells #[.int .i64 0, .slice none 0 0, .int .i64 0, .int .i64 0, .int .i64 0, .int .i64 0, .int .i64 0, .int .i64 0, .int .i64 0, .int .i64 0, .int .i64 0, .int .i64 0, .int .i64 0, .int .i64 0] 108) = W0 at *
 obtain ⟨nn, hnn'⟩ : ∃ nn, nds.length = nn := ⟨_, rfl⟩
 rw [hnn'] at HG0 hi hnn
 have HT := kp (there_any ga As An nx cs m nn cn most W0 HG0.out hx)
 obtain ⟨⟨_, _, a2, _⟩, _⟩ := Box.four HG0.out
 rw [hA] at a2
 have q1 : ¬ (i : Int) < 0 := by omega
 have q1d : decide ((i : Int) < 0) = false := decide_eq_false q1
 have q2 : ¬ (nn : Int) ≤ (i : Int) := by omega
 have q2d : decide ((nn : Int) ≤ (i : Int)) = false := decide_eq_false q2
 have a1 : (0 : Int) ≤ (i : Int) := by omega
 have a3 : (i : Int) < (nn : Int) := by omega
 have q3 : decide (nn ≤ i) = false := decide_eq_false (by omega)
 go_enter Tryz.func38, Tryz.ntmps38
 go_wp2_with fail
 refine HT.out.mono ?_
 rintro e w1 ⟨rfl, rfl⟩
 go_wp2_with fail
 refine HC.out.mono ?_
 rintro e w2 ⟨n', rfl, hpn, hat2, hfr2, hb2⟩
 have Hpn := kp hpn
 have Hat2 := kp hat2
 have Hfr2 := kp hfr2
 have HR2 := kp (HR0.out.under hb2)
 have Hb2 := kp (Hb0.out.trans (hb2.mono Hb0.out.size))
 clear hpn hat2 hfr2 hb2 hW0 d0 d1 d2 d3 d4 d5 d6 d7 d8 d9 d10 d11 d12 d13 a2 HT HC
 obtain ⟨⟨r0, r1, r2, r3, r4, r5, r6, r7, r8, r9, r10, r11, r12, r13⟩, ⟨f0, f1, f2, f3, f4, f5, f6, f7, f8, f9, f10, f11, f12, f13⟩⟩ := Box.fourteen HR2.out
 have Hlt := kp (show w.heap.size < W0.heap.size from HR0.out.lt)
 have HF := kp (HQ.out n' (setAll w2 w.heap.size 0 (ndV n')) Hpn.out)
 have Hnd := kp (show NdAt (setAll w2 w.heap.size 0 (ndV n')) (setAll w2 w.heap.size 0 (ndV n')).heap.size n' from by
  rw [setAll_size]
  refine ⟨Row.farAll (fun k hk e => ?_) _ _ _ Hat2.out.row, fun l hl => Row.farAll (fun k hk e => ?_) _ _ _ (Hat2.out.each l hl)⟩
  ·obtain ⟨hne, off, ea⟩ := hk
   have := Hfr2.out.1 k off ea hne
   have := Hlt.out
   omega
  ·obtain ⟨hne, off, ea⟩ := hk
   have := Hfr2.out.2 l hl k off ea hne
   have := Hlt.out
   omega)
 have Hfin := kp (HF.out Hnd.out (Hfr2.out.less Hb0.out.size) (below_setAll (Nat.le_refl _) _ _ _ Hb2.out))
 have HB := kp (show Box (setAll w2 w.heap.size 0 (ndV n')) w.heap.size 108 (ndC n') from box_setAll0 HR2.out (ndV n') rfl)
 obtain ⟨dim', nA', ls', nc', ⟨key', child', ⟨ac', s0', n0', x0', s1', n1', x1', s2', n2', x2'⟩⟩⟩ := n'
 clear HF Hnd Hpn Hat2 Hfr2 HQ Hlt
 dsimp only [ndC, ndV] at Hfin HB ⊢
 generalize hWf : setAll w2 w.heap.size 0 _ = Wf at *
 simp only [setAll, Nat.zero_add, Nat.reduceAdd] at hWf
 obtain ⟨z0, z1, z2, z3, z4, z5, z6, z7, z8, z9, z10, z11, z12, z13⟩ := (Box.fourteen HB.out).1
 go_wp2_with fail
 refine bodyPost_ret (v := .tuple #[.agg #[.int .i64 (dim' : Nat), .slice nA' ls'.length nc', .int .i64 (key' : Nat), .int .i64 (child' : Nat), .int .i64 ac', .int .i64 s0', .int .i64 n0', .int .i64 x0', .int .i64 s1', .int .i64 n1', .int .i64 x1', .int .i64 s2', .int .i64 n2', .int .i64 x2'], .int .i64 0]) ?_ rfl Hfin.out
 simp [results, Tryz.results38, go_sem, z0, z1, z2, z3, z4, z5, z6, z7, z8, z9, z10, z11, z12, z13]
theorem anode_any (ga : Nat) (As An : Option Addr) (nx cs m cn most : Nat) (nds : List Nd) (i : Nat) (hi : i < nds.length) (w : World) (hbx : Box w ga 138 (arC As nx cs m An nds.length cn most)) (h : NdsAt w w.heap.size An nds) (hx : 1 ≤ nx) (hnn : nds.length ≤ 1000000)
 (hn4 : nds[i].ls.length ≤ 4) (hl : ∀ l ∈ nds[i].ls, l.cs.length ≤ 1000000) :
 Calls Tryz.prog 38 #[.pointer (some ⟨ga, 0, none⟩), .int .i64 (i : Nat)] w (NodeOf (plN nds[i]) w) :=
 (anode2_any ga As An nx cs m cn most nds i hi w hbx h hx hnn hn4 hl).mono fun e w' ⟨n, h1, h2, h3, _, h5⟩ => ⟨n, h1, h2, h3, h5⟩
def askC (p : Pos) (pn : PNode) : Option Cl := if p.tier < 0 then some pn.all else (pn.lists[p.tier.toNat]?).bind fun l => cellAt l p.key.toNat
def AskOk (p : Pos) (pn : PNode) : Prop := p.tier < 0 ∨ ∃ (t k : Nat) (l : List Cl), p.tier = (t : Int) ∧ p.key = (k : Int) ∧ pn.lists[t]? = some l ∧ l.length ≤ 1000000 ∧ ∀ i (h : i + 1 < l.length), l[i].key < l[i + 1].key
theorem find_any (n : Nd) (p : Pos) (w : World) (hr : NdAt w w.heap.size n) (hn1 : 1 ≤ n.ls.length) (hn : n.ls.length ≤ 4) (ha : AskOk p (plN n)) :
 Calls Tryz.prog 103 #[.agg (ndC n), .agg #[.int .i64 p.tier, .int .i64 p.key]] w (FindRet (askC p (plN n)) w) := by
 rcases ha with ha | ⟨t, k, l, h1, h2, h3, h4, h5⟩
 ·have : askC p (plN n) = some n.all := by unfold askC; rw [if_pos ha]; rfl
  rw [this]
  exact find_all n _ _ w hn1 hn ha
 ·unfold plN at h3
  dsimp only at h3
  rw [List.getElem?_map] at h3
  obtain ⟨L, hL, e⟩ := Option.map_eq_some_iff.1 h3
  have : askC p (plN n) = cellAt L.cs k := by
   unfold askC
   rw [if_neg (by omega), h1, h2]
   unfold plN
   dsimp only
   rw [Int.toNat_natCast, Int.toNat_natCast, List.getElem?_map, hL]
   rfl
  rw [this, h1, h2]
  subst e
  exact find_at n t k L w hr hn hL h4 h5
def StepRet (o : Option Cl) (w : World) (e : Ending) (w' : World) : Prop := e = .returned (.tuple #[.agg (clC (o.getD clZero)), .int .i64 (if o.isSome then 0 else 10)]) ∧ Below w.heap.size w w'
set_option maxRecDepth 100000 in
set_option maxHeartbeats 8000000 in
theorem step_any (ga : Nat) (As An : Option Addr) (nx cs m cn most : Nat) (nds : List Nd) (i : Nat) (hi : i < nds.length) (w : World) (hbx : Box w ga 138 (arC As nx cs m An nds.length cn most)) (h : NdsAt w w.heap.size An nds) (hx : 1 ≤ nx) (hnn : nds.length ≤ 1000000)
 (hn1 : 1 ≤ nds[i].ls.length) (hn4 : nds[i].ls.length ≤ 4) (hl : ∀ l ∈ nds[i].ls, l.cs.length ≤ 1000000) (p : Pos) (ha : AskOk p (plN nds[i])) (hk : p.tier < (nds[i].ls.length : Int)) :
 Calls Tryz.prog 71 #[.func (.func 38) #[.pointer (some ⟨ga, 0, none⟩)] #[], .int .i64 (i : Nat), .int .i64 (nds[i].dim : Nat), .agg #[.int .i64 p.tier, .int .i64 p.key]] w (StepRet (askC p (plN nds[i])) w) := by
 obtain ⟨pt, pk⟩ := p
 dsimp only at hk ⊢
 have HQ := kp (show ∀ w', Below w.heap.size w w' → StepRet (askC ⟨pt, pk⟩ (plN nds[i])) w (.returned (.tuple #[.agg (clC ((askC ⟨pt, pk⟩ (plN nds[i])).getD clZero)), .int .i64 (if (askC ⟨pt, pk⟩ (plN nds[i])).isSome then 0 else 10)])) w' from fun w' h => ⟨rfl, h⟩)
 have hb0 := (Below.refl w.heap.size w).alloc (Nat.le_refl _) (.cells #[.int .i64 pt, .int .i64 pk] 58)
 have hb1 := hb0.alloc hb0.size (.cells #[.int .i64 0, .int .i64 0, .int .i64 0, .int .i64 0, .int .i64 0, .int .i64 0, .int .i64 0, .int .i64 0, .int .i64 0, .int .i64 0, .int .i64 0, .int .i64 0] 106)
 have HP := kp ((Box.new w 58 #[.int .i64 pt, .int .i64 pk]).alloc (.cells #[.int .i64 0, .int .i64 0, .int .i64 0, .int .i64 0, .int .i64 0, .int .i64 0, .int .i64 0, .int .i64 0, .int .i64 0, .int .i64 0, .int .i64 0, .int .i64 0] 106))
 have HR := kp (show Box ((w.alloc (.cells #[.int .i64 pt, .int .i64 pk] 58)).alloc (.cells #[.int .i64 0, .int .i64 0, .int .i64 0, .int .i64 0, .int .i64 0, .int .i64 0, .int .i64 0, .int .i64 0, .int .i64 0, .int .i64 0, .int .i64 0, .int .i64 0] 106)) (w.heap.size + 1) 106 #[.int .i64 0, .int .i64 0, .int .i64 0, .int .i64 0, .int .i64 0, .int .i64 0, .int .i64 0, .int .i64 0, .int .i64 0, .int .i64 0, .int .i64 0, .int .i64 0] from Box.lay (by simp))
 have Hb1 := kp hb1
 have HN := kp (anode_any ga As An nx cs m cn most nds i hi _ (hbx.under hb1) ((h.below hb1).more hb1.size) hx hnn hn4 hl)
 have hln : (nds[i].ls.length : Int) = ((plN nds[i]).lists.length : Int) := by unfold plN; simp
 have hdm : nds[i].dim = (plN nds[i]).dim := rfl
 have hn1' : 1 ≤ (plN nds[i]).lists.length := by unfold plN; simpa using hn1
 have hn4' : (plN nds[i]).lists.length ≤ 4 := by unfold plN; simpa using hn4
 rw [hln] at hk
 rw [hdm]
 have Ha := kp ha
 clear hn1 hn4 hl hb0 hb1 hbx h hln hdm ha
 generalize plN nds[i] = pn at *
 generalize hQ : StepRet (askC ⟨pt, pk⟩ pn) w = Q at *
 clear hQ
 generalize hW1 : (w.alloc (.cells #[.int .i64 pt, .int .i64 pk] 58)).alloc (.cells #[.int .i64 0, .int .i64 0, .int .i64 0, .int .i64 0, .int .i64 0, .int .i64 0, .int .i64 0, .int .i64 0, .int .i64 0, .int .i64 0, .int .i64 0, .int .i64 0] 106) = W1 at *
 go_enter Tryz.func71, Tryz.ntmps71
 go_wp2_with fail
 refine HN.out.mono ?_
 rintro e w2 ⟨n', rfl, rfl, hat2, hb2⟩
 have HP2 := kp (HP.out.under hb2)
 have HR2 := kp (HR.out.under hb2)
 have Hb2 := kp (Hb1.out.trans (hb2.mono Hb1.out.size))
 have hg2 : w.heap.size + 1 < w2.heap.size := HR2.out.lt
 have hb3 := (Below.refl w2.heap.size w2).alloc (Nat.le_refl _) (.cells #[.int .i64 0, .slice none 0 0, .int .i64 0, .int .i64 0, .int .i64 0, .int .i64 0, .int .i64 0, .int .i64 0, .int .i64 0, .int .i64 0, .int .i64 0, .int .i64 0, .int .i64 0, .int .i64 0] 108)
 have HZ := kp (Box.new w2 108 #[.int .i64 0, .slice none 0 0, .int .i64 0, .int .i64 0, .int .i64 0, .int .i64 0, .int .i64 0, .int .i64 0, .int .i64 0, .int .i64 0, .int .i64 0, .int .i64 0, .int .i64 0, .int .i64 0])
 have Hb3s := kp (below_setAll (Nat.le_refl _) (ndV n') _ 0 hb3)
 have HP3 := kp (HP2.out.under Hb3s.out)
 have HR3 := kp (HR2.out.under Hb3s.out)
 have Hb3 := kp (Hb2.out.trans (Hb3s.out.mono Hb2.out.size))
 have Hat3 := kp ((hat2.below Hb3s.out).more Hb3s.out.size)
 have HF := kp (fun W (hW : Below (setAll (w2.alloc (.cells #[.int .i64 0, .slice none 0 0, .int .i64 0, .int .i64 0, .int .i64 0, .int .i64 0, .int .i64 0, .int .i64 0, .int .i64 0, .int .i64 0, .int .i64 0, .int .i64 0, .int .i64 0, .int .i64 0] 108)) w2.heap.size 0 (ndV n')).heap.size (setAll (w2.alloc (.cells #[.int .i64 0, .slice none 0 0, .int .i64 0, .int .i64 0, .int .i64 0, .int .i64 0, .int .i64 0, .int .i64 0, .int .i64 0, .int .i64 0, .int .i64 0, .int .i64 0, .int .i64 0, .int .i64 0] 108)) w2.heap.size 0 (ndV n')) W) => find_any n' ⟨pt, pk⟩ W ((Hat3.out.below hW).more hW.size) (by unfold plN at hn1'; simpa using hn1') (by unfold plN at hn4'; simpa using hn4') Ha.out)
 have HB3 := kp (show Box (setAll (w2.alloc (.cells #[.int .i64 0, .slice none 0 0, .int .i64 0, .int .i64 0, .int .i64 0, .int .i64 0, .int .i64 0, .int .i64 0, .int .i64 0, .int .i64 0, .int .i64 0, .int .i64 0, .int .i64 0, .int .i64 0] 108)) w2.heap.size 0 (ndV n')) w2.heap.size 108 (ndC n') from box_setAll0 HZ.out (ndV n') rfl)
 obtain ⟨⟨r0, r1, r2, r3, r4, r5, r6, r7, r8, r9, r10, r11, r12, r13⟩, ⟨f0, f1, f2, f3, f4, f5, f6, f7, f8, f9, f10, f11, f12, f13⟩⟩ := Box.fourteen HZ.out
 have hls : (plN n').lists.length = n'.ls.length := by unfold plN; simp
 rw [hls] at hk
 generalize hO : askC ⟨pt, pk⟩ (plN n') = O at *
 clear hO hb2 hb3 hat2 HP HR HN Hb1 hn1' hn4' Ha hls Hat3 Hb2 Hb3s HZ
 obtain ⟨dim', nA', ls', nc', ⟨key', child', ⟨ac', s0', n0', x0', s1', n1', x1', s2', n2', x2'⟩⟩⟩ := n'
 dsimp only [ndC, ndV, plN] at HF HB3 HP3 HR3 Hb3 hk ⊢
 generalize hW3 : w2.alloc (.cells #[.int .i64 0, .slice none 0 0, .int .i64 0, .int .i64 0, .int .i64 0, .int .i64 0, .int .i64 0, .int .i64 0, .int .i64 0, .int .i64 0, .int .i64 0, .int .i64 0, .int .i64 0, .int .i64 0] 108) = W3 at *
 generalize hW4 : setAll W3 w2.heap.size 0 _ = W4 at *
 simp only [setAll, Nat.zero_add, Nat.reduceAdd] at hW4
 obtain ⟨z0, z1, z2, z3, z4, z5, z6, z7, z8, z9, z10, z11, z12, z13⟩ := (Box.fourteen HB3.out).1
 obtain ⟨y0, y1, _, _⟩ := HP3.out.two
 have q1 : ¬ (ls'.length : Int) ≤ pt := by omega
 have q1d : decide ((ls'.length : Int) ≤ pt) = false := decide_eq_false q1
 have HF4 := kp (HF.out W4 (Below.refl _ _))
 go_wp2_with fail
 refine HF4.out.mono ?_
 rintro e w5 ⟨rfl, hb5⟩
 have HR5 := kp ((HR3.out).under hb5)
 have Hb5 := kp (Hb3.out.trans (hb5.mono Hb3.out.size))
 have hg5 : w.heap.size + 1 < w5.heap.size := HR5.out.lt
 clear hb5 HF HF4 HP3 HP2 HR3 HR2 HB3 Hb3 z0 z1 z2 z3 z4 z5 z6 z7 z8 z9 z10 z11 z12 z13 y0 y1 r0 r1 r2 r3 r4 r5 r6 r7 r8 r9 r10 r11 r12 r13 f0 f1 f2 f3 f4 f5 f6 f7 f8 f9 f10 f11 f12 f13 hW4 hW3 q1 q1d hW1 hk
 have hb6 := (Below.refl w5.heap.size w5).alloc (Nat.le_refl _) (.cells #[.int .i64 0, .int .i64 0, .int .i64 0, .int .i64 0, .int .i64 0, .int .i64 0, .int .i64 0, .int .i64 0, .int .i64 0, .int .i64 0, .int .i64 0, .int .i64 0] 106)
 have HZ := kp (Box.new w5 106 #[.int .i64 0, .int .i64 0, .int .i64 0, .int .i64 0, .int .i64 0, .int .i64 0, .int .i64 0, .int .i64 0, .int .i64 0, .int .i64 0, .int .i64 0, .int .i64 0])
 have Hb7s := kp (below_setAll (Nat.le_refl _) (clV (O.getD clZero)) _ 0 hb6)
 have HB7 := kp (show Box (setAll (w5.alloc (.cells #[.int .i64 0, .int .i64 0, .int .i64 0, .int .i64 0, .int .i64 0, .int .i64 0, .int .i64 0, .int .i64 0, .int .i64 0, .int .i64 0, .int .i64 0, .int .i64 0] 106)) w5.heap.size 0 (clV (O.getD clZero))) w5.heap.size 106 (clC (O.getD clZero)) from box_setAll0 HZ.out (clV (O.getD clZero)) rfl)
 have HR7 := kp (HR5.out.under Hb7s.out)
 have Hb7 := kp (Hb5.out.trans (Hb7s.out.mono Hb5.out.size))
 obtain ⟨⟨r0, r1, r2, r3, r4, r5, r6, r7, r8, r9, r10, r11⟩, ⟨f0, f1, f2, f3, f4, f5, f6, f7, f8, f9, f10, f11⟩⟩ := Box.twelve HZ.out
 have Hzero := kp (show O.isSome = false → O.getD clZero = clZero from fun h => by cases O with
  | none => rfl
  | some x => cases h)
 generalize hqq : O.getD clZero = qq at *
 obtain ⟨qk, qc, ⟨qa, s0q, n0q, x0q, s1q, n1q, x1q, s2q, n2q, x2q⟩⟩ := qq
 dsimp only [clC, clV] at HB7 HR7 Hb7 HQ ⊢
 clear Hb7s hb6 HZ HR5 Hb5
 generalize hW6 : w5.alloc (.cells #[.int .i64 0, .int .i64 0, .int .i64 0, .int .i64 0, .int .i64 0, .int .i64 0, .int .i64 0, .int .i64 0, .int .i64 0, .int .i64 0, .int .i64 0, .int .i64 0] 106) = W6 at *
 generalize hW7 : setAll W6 w5.heap.size 0 _ = W7 at *
 simp only [setAll, Nat.zero_add, Nat.reduceAdd] at hW7
 obtain ⟨z0, z1, z2, z3, z4, z5, z6, z7, z8, z9, z10, z11⟩ := (Box.twelve HB7.out).1
 obtain ⟨⟨u0, u1, u2, u3, u4, u5, u6, u7, u8, u9, u10, u11⟩, ⟨v0, v1, v2, v3, v4, v5, v6, v7, v8, v9, v10, v11⟩⟩ := Box.twelve HR7.out
 obtain ⟨bo, hbo⟩ : ∃ bo, O.isSome = bo := ⟨_, rfl⟩
 have Hbo := kp hbo
 rw [hbo] at HQ Hzero ⊢
 clear hbo
 cases bo with
 | true =>
  have HB8 := kp (show Box (setAll W7 (w.heap.size + 1) 0 [.int .i64 (qk : Nat), .int .i64 (qc : Nat), .int .i64 qa, .int .i64 s0q, .int .i64 n0q, .int .i64 x0q, .int .i64 s1q, .int .i64 n1q, .int .i64 x1q, .int .i64 s2q, .int .i64 n2q, .int .i64 x2q]) (w.heap.size + 1) 106 #[.int .i64 (qk : Nat), .int .i64 (qc : Nat), .int .i64 qa, .int .i64 s0q, .int .i64 n0q, .int .i64 x0q, .int .i64 s1q, .int .i64 n1q, .int .i64 x1q, .int .i64 s2q, .int .i64 n2q, .int .i64 x2q] from box_setAll0 HR7.out [.int .i64 (qk : Nat), .int .i64 (qc : Nat), .int .i64 qa, .int .i64 s0q, .int .i64 n0q, .int .i64 x0q, .int .i64 s1q, .int .i64 n1q, .int .i64 x1q, .int .i64 s2q, .int .i64 n2q, .int .i64 x2q] rfl)
  have Hfin := kp (HQ.out _ (below_setAll (Nat.le_succ _) [.int .i64 (qk : Nat), .int .i64 (qc : Nat), .int .i64 qa, .int .i64 s0q, .int .i64 n0q, .int .i64 x0q, .int .i64 s1q, .int .i64 n1q, .int .i64 x1q, .int .i64 s2q, .int .i64 n2q, .int .i64 x2q] W7 0 Hb7.out))
  generalize hW8 : setAll W7 (w.heap.size + 1) 0 _ = W8 at *
  simp only [setAll, Nat.zero_add, Nat.reduceAdd] at hW8
  obtain ⟨t0, t1, t2, t3, t4, t5, t6, t7, t8, t9, t10, t11⟩ := (Box.twelve HB8.out).1
  clear HR7 Hb7 HB7 HQ
  go_wp2_with fail
  refine bodyPost_ret (v := .tuple #[.agg #[.int .i64 (qk : Nat), .int .i64 (qc : Nat), .int .i64 qa, .int .i64 s0q, .int .i64 n0q, .int .i64 x0q, .int .i64 s1q, .int .i64 n1q, .int .i64 x1q, .int .i64 s2q, .int .i64 n2q, .int .i64 x2q], .int .i64 0]) ?_ rfl Hfin.out
  simp [results, Tryz.results71, go_sem, t0, t1, t2, t3, t4, t5, t6, t7, t8, t9, t10, t11]
 | false =>
  have HB8 := kp (show Box (setAll W7 (w.heap.size + 1) 0 [.int .i64 0, .int .i64 0, .int .i64 0, .int .i64 0, .int .i64 0, .int .i64 0, .int .i64 0, .int .i64 0, .int .i64 0, .int .i64 0, .int .i64 0, .int .i64 0]) (w.heap.size + 1) 106 #[.int .i64 0, .int .i64 0, .int .i64 0, .int .i64 0, .int .i64 0, .int .i64 0, .int .i64 0, .int .i64 0, .int .i64 0, .int .i64 0, .int .i64 0, .int .i64 0] from box_setAll0 HR7.out [.int .i64 0, .int .i64 0, .int .i64 0, .int .i64 0, .int .i64 0, .int .i64 0, .int .i64 0, .int .i64 0, .int .i64 0, .int .i64 0, .int .i64 0, .int .i64 0] rfl)
  have Hfin := kp (HQ.out _ (below_setAll (Nat.le_succ _) [.int .i64 0, .int .i64 0, .int .i64 0, .int .i64 0, .int .i64 0, .int .i64 0, .int .i64 0, .int .i64 0, .int .i64 0, .int .i64 0, .int .i64 0, .int .i64 0] W7 0 Hb7.out))
  generalize hW8 : setAll W7 (w.heap.size + 1) 0 _ = W8 at *
  simp only [setAll, Nat.zero_add, Nat.reduceAdd] at hW8
  obtain ⟨t0, t1, t2, t3, t4, t5, t6, t7, t8, t9, t10, t11⟩ := (Box.twelve HB8.out).1
  have Hfin' := kp (show Q (.returned (.tuple #[.agg #[.int .i64 0, .int .i64 0, .int .i64 0, .int .i64 0, .int .i64 0, .int .i64 0, .int .i64 0, .int .i64 0, .int .i64 0, .int .i64 0, .int .i64 0, .int .i64 0], .int .i64 10])) W8 by
   have h := Hfin.out
   have hz := Hzero.out rfl
   unfold clZero agZero at hz
   injection hz with hz1 hz2 hz3
   injection hz3 with hz3 hz4 hz5 hz6 hz7 hz8 hz9 hz10 hz11 hz12
   rw [hz1, hz2, hz3, hz4, hz5, hz6, hz7, hz8, hz9, hz10, hz11, hz12] at h
   exact h)
  clear Hfin
  clear HR7 Hb7 HB7 HQ Hzero
  go_wp2_with fail
  refine bodyPost_ret (v := .tuple #[.agg #[.int .i64 0, .int .i64 0, .int .i64 0, .int .i64 0, .int .i64 0, .int .i64 0, .int .i64 0, .int .i64 0, .int .i64 0, .int .i64 0, .int .i64 0, .int .i64 0], .int .i64 10]) ?_ rfl Hfin'.out
  simp [results, Tryz.results71, go_sem, t0, t1, t2, t3, t4, t5, t6, t7, t8, t9, t10, t11]
end Go.Proofs.YthmbgbmcdbdecaaGreat.Tc
