/- Parts of a proof: Layer 22: a run, into the heap. -/
import Derived.Test.YthmbgbmcdbdecaaGreatG05
import Derived.Test.YthmbgbmcdbdecaaGreatG14
namespace Go.Proofs.YthmbgbmcdbdecaaGreat.Tc
open Go.RowKit Base
set_option linter.unusedVariables false
set_option linter.unusedSimpArgs false
theorem info_head : (Tryz.prog.info? 203).map (fun i => (i.zero, i.size, i.bytes)) = some (some (.agg #[.slice none 0 0, .int .i64 0]), 2, 32) := by kernel_rfl
abbrev headC (h : Hd) : Array Value := #[.slice h.A h.fs.length h.c, .int .i64 (h.no : Int)]
theorem run_assert (v : Value) (w : World) : Sem.run Tryz.prog (Instr.typeAssert (.iface 203 v) 20 203 true) w = .ok (.tuple #[v, .bool true]) w := by kernel_rfl
theorem head_one (x : Hd) : ∀ u ∈ (headC x).toList, u.oneCell' = true := by
 intro u hu
 simp only [headC, List.mem_cons, List.not_mem_nil, or_false] at hu
 rcases hu with rfl | rfl <;> rfl
theorem frozen_alloc (w : World) (o : Obj) {b i : Nat} (hb : b < w.heap.size) : (w.alloc o).frozen? ⟨b, i, none⟩ = w.frozen? ⟨b, i, none⟩ := frozen_below ((Below.refl w.heap.size w).alloc (Nat.le_refl _) o) b i hb
theorem app_drew {w w' : World} {v v' : Value} (h : App w.drew w' v v') : App w w' v v' := ⟨⟨h.grown.os, h.grown.tape, h.grown.output, h.grown.size, h.grown.block⟩, h.lies⟩
def PushRet (hs : List Hd) (B gh LB : Nat) (w : World) (e : Ending) (w' : World) : Prop := e = .returned (.tuple #[]) ∧ (∃ gr' c', HeapAt w' B gh gr' c' hs ∧ hs.length ≤ c' ∧ c' ≤ 9223372036854775807) ∧ Below LB w w'
set_option maxRecDepth 100000 in
set_option maxHeartbeats 2000000 in
theorem mpush_any (B gh gr c LB : Nat) (hs : List Hd) (x : Hd) (hl : hs.length ≤ 1) (w : World) (hLB : LB ≤ B) (hLg : LB ≤ gh) (hB : B ≤ w.heap.size) (h : HeapAt w B gh gr c hs) : Calls Tryz.prog 174 #[.pointer (some ⟨gh, 0, none⟩), .iface 203 (.agg (headC x))] w (PushRet (hs ++ [x]) B gh LB w) := by
 obtain ⟨n, hn⟩ : ∃ n, hs.length = n := ⟨_, rfl⟩
 have hne0 := h.ne
 have hown := h.own
 have hbx := h.box
 rw [hn] at hown hbx
 have hgl : gh < w.heap.size := hbx.lt
 have hgrl : gr < w.heap.size := (hown.lt gr rfl).2
 have HQ := kp (show ∀ w', (∃ gr' c', HeapAt w' B gh gr' c' (hs ++ [x]) ∧ (hs ++ [x]).length ≤ c' ∧ c' ≤ 9223372036854775807) → Below LB w w' → PushRet (hs ++ [x]) B gh LB w (.returned (.tuple #[])) w' from fun w' h1 h2 => ⟨rfl, h1, h2⟩)
 generalize hQ : PushRet (hs ++ [x]) B gh LB w = Q at *
 obtain ⟨i0, ti0, tz0, tz1, tz2⟩ := info_parts info_head
 have h0c := (Below.refl w.heap.size w).alloc (Nat.le_refl _) (.cells (headC x) 203)
 have H0c := kp h0c
 have HBx := kp (Box.new w 203 (headC x))
 have Hown2 := kp (own_below hown h0c)
 have Hbx2 := kp (hbx.under h0c)
 have Hn := kp hn
 have hn1 : n ≤ 1 := by omega
 have HBs := kp (show B ≤ (w.alloc (.cells (headC x) 203)).heap.size by have := h0c.size; omega)
 clear h hown hbx hn hQ h0c hl
 unfold headC at *
 have hta := run_assert
 go_enter Tryz.func174, Tryz.ntmps174
 go_upto_region 1 with fail
 generalize hW2 : w.alloc (.cells #[.slice x.A x.fs.length x.c, .int .i64 (x.no : Int)] 203) = W2 at *
 generalize hgx : w.heap.size = gx at *
 clear hW2
 obtain ⟨c0, f0⟩ := Hbx2.out.one
 obtain ⟨x0, x1, _, _⟩ := HBx.out.two
 have hgh2 : gh < W2.heap.size := Hbx2.out.lt
 have HneG := kp (show (Value.slice (some ⟨gr, 0, none⟩) n c).ownBlock ≠ some gh from fun hh => by (have e2 : gr = gh := by injection hh); omega)
 refine wp_region_noPanic ?_
 refine wp_region_T (t := 8) (S := (fun w' => (w'.cell? ⟨gh, 0, none⟩ = some (.slice (some ⟨gr, 0, none⟩) n c) ∧ w'.frozen? ⟨gh, 0, none⟩ = false) ∧ (w'.cell? ⟨gx, 0, none⟩ = some (.slice x.A x.fs.length x.c) ∧ w'.cell? ⟨gx, 1, none⟩ = some (.int .i64 (x.no : Int))))) (by kernel_rfl) ⟨⟨c0, f0⟩, ⟨x0, x1⟩⟩ (fun hHeld => ?_)
 refine tk 0 hHeld ?_
 refine tk 1 hHeld ?_
 refine tk 2 hHeld ?_
 refine tk 3 hHeld ?_
 refine tk 4 hHeld ?_
 have hltx : gx < W2.heap.size := HBx.out.lt
 have HneX := kp (show (Value.slice (some ⟨gr, 0, none⟩) n c).ownBlock ≠ some gx from fun hh => by (have e2 : gr = gx := by injection hh); omega)
 refine wpAnyT_one (i := 5) (o := ?op5) (by kernel_rfl) ?ap5 (by decide) (fun K hK => ?bp5)
 case ap5 => (simp only [List.getElem?_toArray, List.getElem?_cons_succ, List.getElem?_cons_zero]; exact rfl)
 go_simp
 refine hK.out _ _ ?_ (fun hHeld2 => ?_)
 ·exact ⟨⟨cell_keep ((Below.refl _ _).alloc (Nat.le_refl _) _) hHeld.1.1, (frozen_alloc W2 _ hgh2).trans hHeld.1.2⟩, cell_keep ((Below.refl _ _).alloc (Nat.le_refl _) _) hHeld.2.1, cell_keep ((Below.refl _ _).alloc (Nat.le_refl _) _) hHeld.2.2⟩
 clear hK K hHeld
 have hHeld := hHeld2
 clear hHeld2
 try simp only [Act.put, List.setIfInBounds_toArray, List.set_cons_zero, List.set_cons_succ]
 refine wpAnyT_one (i := 6) (o := ?op6) (by kernel_rfl) ?ap6 (by decide) (fun K hK => ?bp6)
 case ap6 => (simp only [List.getElem?_toArray, List.getElem?_cons_succ, List.getElem?_cons_zero]; exact rfl)
 refine step_appK rfl (.tmp 14) (.tmp 16) 200 rfl B 203 i0 _ 2 32 Tryz.underlying200 ti0 tz0 tz1 tz2 rfl (by decide) W2.drew #[.slice x.A x.fs.length x.c, .int .i64 (x.no : Int)] rfl (head_one x) (.slice (some ⟨gr, 0, none⟩) n c) n (hs.flatMap headV) rfl Hown2.out rfl (by omega) (by decide) HBs.out ?_
 intro v5 w5 hown5 happ5
 obtain ⟨A5, c5, h5⟩ := own_formK hown5
 subst h5
 have Hown5 := kp hown5
 have Hapl := kp (app_drew happ5)
 clear hown5 happ5
 go_simp
 refine hK.out _ _ ?_ (fun hHeld2 => ?_)
 ·have e1 := (Hapl.out.farK hgh2 HneG.out)
  have e2 := (Below.heap_alloc W2 (.cells #[.slice x.A x.fs.length x.c, .int .i64 (x.no : Int)] 203) _ hgh2)
  have e3 := (Hapl.out.farK hltx HneX.out)
  have e4 := (Below.heap_alloc W2 (.cells #[.slice x.A x.fs.length x.c, .int .i64 (x.no : Int)] 203) _ hltx)
  exact ⟨⟨(World.cell?_of_block (a := ⟨gh, 0, none⟩) (e1.trans e2.symm)).trans hHeld.1.1, by have h := hHeld.1.2; unfold World.frozen? at h ⊢; rw [e1.trans e2.symm]; exact h⟩, (World.cell?_of_block (a := ⟨gx, 0, none⟩) (e3.trans e4.symm)).trans hHeld.2.1, (World.cell?_of_block (a := ⟨gx, 1, none⟩) (e3.trans e4.symm)).trans hHeld.2.2⟩
 clear hK K hHeld
 have hHeld := hHeld2
 clear hHeld2
 try simp only [Act.put, List.setIfInBounds_toArray, List.set_cons_zero, List.set_cons_succ]
 refine tk 7 hHeld ?_
 refine wpAnyT_last (o := ?op8) (by kernel_rfl) ?ap8 (by kernel_rfl) (fun K hK => ?bp8)
 case ap8 => (simp only [List.getElem?_toArray, List.getElem?_cons_succ, List.getElem?_cons_zero]; exact rfl)
 obtain ⟨⟨x1', x2'⟩, _⟩ := hHeld
 have hHeld := x1'
 go_simp
 refine hK.out _ _ ?_
 clear hK K hHeld
 refine NoPanic.normal ?_
 try simp only [Act.put, List.setIfInBounds_toArray, List.set_cons_zero, List.set_cons_succ]
 have hown5 := Hown5.out
 rcases hown5.2 with ⟨h0, h1⟩ | ⟨g5, cap, cur, hv, hB5, hh5, hnc, hcm, hcs, ht⟩
 ·omega
 ·injection hv with hA _ hc
  subst hA hc
  have hne : gh ≠ g5 := by
   rcases Hapl.out.lies with hl | ⟨k, hl, hk⟩
   ·have e2 : g5 = gr := by injection hl
    omega
   ·have e2 : g5 = k := by injection hl
    omega
  go_end0
  refine HQ.out _ ⟨g5, c5, ⟨?_, ?_, hne⟩, by rw [List.length_append, Hn.out]; exact hnc, by unfold maxLen at hcm; omega⟩ ?_
  ·have e1 := (Hapl.out.farK hgh2 HneG.out)
   have : Box w5 gh 200 #[.slice (some ⟨gr, 0, none⟩) n c] := e1.trans Hbx2.out
   have := this.set 0 (.slice (some ⟨g5, 0, none⟩) (n + 1) c5)
   rw [List.length_append, Hn.out]
   exact this
  ·have : (hs ++ [x]).flatMap headV = hs.flatMap headV ++ #[Value.slice x.A x.fs.length x.c, .int .i64 (x.no : Int)].toList := by rw [List.flatMap_append]; simp
   rw [this, List.length_append, Hn.out]
   exact hown5.kept (grownBy_setCell' w5 gh _) (.inr (fun e => by (have e2 : g5 = gh := by injection e); omega))
  ·exact (Hapl.out.belowK (H0c.out.mono (by omega)) Hown2.out hLB (by omega)).setCell (p := ⟨gh, 0, none⟩) hLg _
set_option maxRecDepth 100000 in
set_option maxHeartbeats 1000000 in
theorem push0_any (B gh gr c LB : Nat) (x : Hd) (w : World) (hLB : LB ≤ B) (hLg : LB ≤ gh) (hB : B ≤ w.heap.size) (h : HeapAt w B gh gr c []) : Calls Tryz.prog 112 #[hpV gh, .iface 203 (.agg (headC x))] w (PushRet [x] B gh LB w) := by
 have e3 := fun fuel w => run_push fuel gh w
 have HP := kp (mpush_any B gh gr c LB [] x (by simp) w hLB hLg hB h)
 have HL := kp hlen_any
 have HU := kp (up0_any (hpV gh))
 have HQ := kp (show ∀ w', (∃ gr' c', HeapAt w' B gh gr' c' [x] ∧ [x].length ≤ c' ∧ c' ≤ 9223372036854775807) → Below LB w w' → PushRet [x] B gh LB w (.returned (.tuple #[])) w' from fun w' h1 h2 => ⟨rfl, h1, h2⟩)
 generalize hQ : PushRet [x] B gh LB w = Q at *
 clear hQ h
 unfold headC at *
 go_enter Tryz.func112, Tryz.ntmps112
 go_wp2_with fail
 refine HP.out.mono ?_
 rintro e w1 ⟨rfl, ⟨gr', c', hh, hc1, hc2⟩, hb1⟩
 have Hh := kp hh
 have Hb1 := kp hb1
 have Hc1 := kp hc1
 obtain ⟨c0, f0⟩ := hh.box.one
 have e1 := fun fuel => run_len fuel gh _ w1 c0
 have HL1 := kp (HL.out (some ⟨gr', 0, none⟩) 1 c' w1)
 clear hh hb1 hc1 HP
 go_wp2_with fail
 refine HL1.out.mono ?_
 rintro e w2 ⟨rfl, rfl⟩
 go_wp2_with fail
 refine (HU.out w1).mono ?_
 rintro e w2 ⟨rfl, rfl⟩
 go_wp2_with fail
 go_end0
 exact HQ.out _ ⟨gr', c', Hh.out, Hc1.out, hc2⟩ Hb1.out
def Push2Ret (a b : Hd) (B gh LB : Nat) (w : World) (e : Ending) (w' : World) : Prop := e = .returned (.tuple #[]) ∧ (∃ gr' c' x y, ((x = a ∧ y = b) ∨ (x = b ∧ y = a)) ∧ HeapAt w' B gh gr' c' [x, y] ∧ ¬ ltP y x ∧ 2 ≤ c' ∧ c' ≤ 9223372036854775807) ∧ Below LB w w'
set_option maxRecDepth 100000 in
set_option maxHeartbeats 1000000 in
theorem push1_any (B gh gr c LB : Nat) (a x : Hd) (w : World) (hLB : LB ≤ B) (hLg : LB ≤ gh) (hB : B ≤ w.heap.size) (h : HeapAt w B gh gr c [a]) (ha : HdOk w LB a) (hx : HdOk w LB x) : Calls Tryz.prog 112 #[hpV gh, .iface 203 (.agg (headC x))] w (Push2Ret a x B gh LB w) := by
 have e3 := fun fuel w => run_push fuel gh w
 have HP := kp (mpush_any B gh gr c LB [a] x (by simp) w hLB hLg hB h)
 have HL := kp hlen_any
 have HU := kp (fun gr' c' w' (h' : HeapAt w' B gh gr' c' [a, x]) (hb : Below LB w w') => up1_any B gh gr' c' LB a x w' h' (ha.below hb) (hx.below hb) (by have := hb.size; omega))
 have HQ := kp (show ∀ w', (∃ gr' c' p q, ((p = a ∧ q = x) ∨ (p = x ∧ q = a)) ∧ HeapAt w' B gh gr' c' [p, q] ∧ ¬ ltP q p ∧ 2 ≤ c' ∧ c' ≤ 9223372036854775807) → Below LB w w' → Push2Ret a x B gh LB w (.returned (.tuple #[])) w' from fun w' h1 h2 => ⟨rfl, h1, h2⟩)
 generalize hQ : Push2Ret a x B gh LB w = Q at *
 clear hQ h ha hx
 unfold headC at *
 go_enter Tryz.func112, Tryz.ntmps112
 go_wp2_with fail
 refine HP.out.mono ?_
 rintro e w1 ⟨rfl, ⟨gr', c', hh, hc1, hc2⟩, hb1⟩
 have Hb1 := kp hb1
 have Hc1 := kp hc1
 obtain ⟨c0, f0⟩ := hh.box.one
 have e1 := fun fuel => run_len fuel gh _ w1 c0
 have HL1 := kp (HL.out (some ⟨gr', 0, none⟩) 2 c' w1)
 have HU1 := kp (HU.out gr' c' w1 hh hb1)
 have Hg := kp (show B ≤ gr' from (hh.own.lt gr' rfl).1)
 clear hh hb1 hc1 HP
 go_wp2_with fail
 refine HL1.out.mono ?_
 rintro e w2 ⟨rfl, rfl⟩
 go_wp2_with fail
 refine HU1.out.mono ?_
 rintro e w2 ⟨rfl, p, q, hpq, hh2, hlt, ht⟩
 have Hh2 := kp hh2
 have Ht := kp ht
 clear hh2 ht
 go_wp2_with fail
 go_end0
 exact HQ.out _ ⟨gr', c', p, q, hpq, Hh2.out, hlt, Hc1.out, hc2⟩ (Hb1.out.trans (Ht.out.toBelow (B := LB) (fun k e => by subst e; exact Nat.le_trans hLB Hg.out) (by have := Hb1.out.size; omega)))
end Go.Proofs.YthmbgbmcdbdecaaGreat.Tc
