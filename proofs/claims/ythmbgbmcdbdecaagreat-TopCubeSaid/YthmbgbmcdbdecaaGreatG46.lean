/- Parts of a proof: Whether rows are gone through. Whether members may be asked of a schema. -/
import Derived.Test.YthmbgbmcdbdecaaGreatG05
import Derived.Test.YthmbgbmcdbdecaaGreatG06
import Derived.Test.YthmbgbmcdbdecaaGreatG45
namespace Go.Proofs.YthmbgbmcdbdecaaGreat.Tc
open Go.RowKit Base
set_option linter.unusedVariables false
set_option linter.unusedSimpArgs false
set_option maxRecDepth 100000 in
set_option maxHeartbeats 2000000 in
theorem batch_any (s : Sch) (A : Option Addr) (rows : List Rw) (c dims most : Nat) (w : World) (h : SchAt w w.heap.size s) (hr : RwsAt w w.heap.size A rows) (hd : dims ≤ 1000000) (hm : most ≤ 1000000) :
 Calls Tryz.prog 5 #[.agg (schC s), .slice A rows.length c, .int .i64 (dims : Nat), .int .i64 (most : Nat)] w (RetB (fun r => r = true → BatchOk s rows ∧ s.dims.length ≤ dims ∧ rows.length ≤ most) w) := by
 have HR := kp (fun r w' h hb => RetB.mono (P := fun r => r = true → BatchOk s rows ∧ s.dims.length ≤ dims ∧ rows.length ≤ most) (w := w) (r := r) (w' := w') h hb)
 have hsn := h.n
 have hrn := hr.n
 have hb0 := (Below.refl w.heap.size w).alloc (Nat.le_refl _) (.cells (schC s) 25)
 have HB := kp (Box.new w 25 (schC s))
 have H1 := kp (fun W (hW : Below w.heap.size w W) => r17few_any s W ((h.below hW).more hW.size))
 have H2 := kp (fun W (hW : Below w.heap.size w W) => r20few_any A rows c W ((hr.below hW).more hW.size))
 have H3 := kp (fun W (hW : Below w.heap.size w W) => r20wrong_any s A rows c W ((h.below hW).more hW.size) ((hr.below hW).more hW.size))
 have Hb0 := kp hb0
 generalize RetB (fun r => r = true → BatchOk s rows ∧ s.dims.length ≤ dims ∧ rows.length ≤ most) w = Q at *
 unfold maxLen at hsn hrn
 clear h hr hb0
 obtain ⟨nd, hnd⟩ : ∃ nd, s.dims.length = nd := ⟨_, rfl⟩
 obtain ⟨nr, hnr⟩ : ∃ nr, rows.length = nr := ⟨_, rfl⟩
 unfold schC at HB H1 H3 Hb0 ⊢
 rw [hnd] at HB H1 H3 Hb0 hsn HR ⊢
 rw [hnr] at H2 H3 hrn HR ⊢
 clear hnd hnr
 obtain ⟨z0, z1, _, _⟩ := HB.out.two
 generalize hW0 : w.alloc (.cells #[.slice s.A nd s.c, .slice s.Am s.meas.length s.cm] 25) = W0 at *
 by_cases h1 : nd ≤ dims
 ·have q1 : (nd : Int) ≤ (dims : Int) := by omega
  have q1d : decide ((nd : Int) ≤ (dims : Int)) = true := decide_eq_true q1
  have q1n : decide (nd ≤ dims) = true := decide_eq_true h1
  by_cases h2 : nr ≤ most
  ·have q2 : (nr : Int) ≤ (most : Int) := by omega
   have q2d : decide ((nr : Int) ≤ (most : Int)) = true := decide_eq_true q2
   have q2n : decide (nr ≤ most) = true := decide_eq_true h2
   have HH1 := kp (H1.out W0 Hb0.out)
   go_enter Tryz.func5, Tryz.ntmps5
   go_wp2_with fail
   refine HH1.out.mono ?_
   clear hW0 z0 z1
   rintro e w1 ⟨r1, rfl, _, hb1⟩
   have Hb1 := kp (Hb0.out.trans (hb1.mono Hb0.out.size))
   have HB1 := kp (HB.out.under hb1)
   have HH2 := kp (H2.out w1 Hb1.out)
   obtain ⟨z0, z1, _, _⟩ := HB1.out.two
   cases r1 with
   | false =>
    have Hf := kp (HR.out false w1 (fun h => by cases h) Hb1.out)
    go_wp2_with fail
    exact Hf.out
   | true =>
    go_wp2_with fail
    refine HH2.out.mono ?_
    rintro e w2 ⟨r2, rfl, _, hb2⟩
    have Hb2 := kp (Hb1.out.trans (hb2.mono Hb1.out.size))
    have HB2 := kp (HB1.out.under hb2)
    have HH3 := kp (H3.out w2 Hb2.out)
    clear z0 z1
    obtain ⟨z0, z1, _, _⟩ := HB2.out.two
    cases r2 with
    | false =>
     have Hf := kp (HR.out false w2 (fun h => by cases h) Hb2.out)
     go_wp2_with fail
     exact Hf.out
    | true =>
     go_wp2_with fail
     refine HH3.out.mono ?_
     rintro e w3 ⟨r3, rfl, hr3, hb3⟩
     obtain ⟨b3, hb3'⟩ : ∃ b3, (r3 == (0 : Int)) = b3 := ⟨_, rfl⟩
     have Hf := kp (HR.out b3 w3 (fun h => ⟨hr3 (by rw [h] at hb3'; simpa using hb3'), h1, h2⟩) (Hb2.out.trans (hb3.mono Hb2.out.size)))
     clear hr3
     go_wp2_with fail
     exact Hf.out
  ·have q2 : ¬ (nr : Int) ≤ (most : Int) := by omega
   have q2d : decide ((nr : Int) ≤ (most : Int)) = false := decide_eq_false q2
   have q2n : decide (nr ≤ most) = false := decide_eq_false h2
   have Hf := kp (HR.out false W0 (fun h => by cases h) Hb0.out)
   go_enter Tryz.func5, Tryz.ntmps5
   go_wp2_with fail
   exact Hf.out
 ·have q1 : ¬ (nd : Int) ≤ (dims : Int) := by omega
  have q1d : decide ((nd : Int) ≤ (dims : Int)) = false := decide_eq_false q1
  have q1n : decide (nd ≤ dims) = false := decide_eq_false h1
  have Hf := kp (HR.out false W0 (fun h => by cases h) Hb0.out)
  go_enter Tryz.func5, Tryz.ntmps5
  go_wp2_with fail
  exact Hf.out
section
variable {P : Program}
theorem wpList_appKB {ops : Array Oper} {rest : List Oper} {o : Oper} {a : Act} {Q : Exit → Act → World → Prop} (hgd : o.guard = none) (s x : Operand) (t : TypeId)
 (ho : o.op = .call { callee := .builtin .append, args := #[s, x], argTypes := #[t, t] })
 (base : Nat) (e : TypeId) (i : TypeInfo) (z : Value) (size bytes : Nat) (ht : P.underlying t = some (.slice e)) (hi : P.info? e = some i) (hz : i.zero = some z)
 (hsize : i.size = size) (hby : i.bytes = bytes) (hzs : z.cells.size = size) (hsz : 0 < size)
 (wr : World) (cs : Array Value) (hcs : cs.size = size) (hc1 : ∀ u ∈ cs.toList, u.oneCell' = true) (v : Value) (n : Nat) (xs : List Value) (hs : a.eval s = v) (hown : wr.ownsRow base e size v n xs)
 (hx : a.eval x = .slice (some ⟨wr.heap.size, 0, none⟩) 1 1)
 (hn : n + 1 ≤ maxLen) (hb : (n + 1) * bytes ≤ 140737488355328) (hbase : base ≤ wr.heap.size)
 (h : ∀ v' w', w'.ownsRow base e size v' (n + 1) (xs ++ cs.toList) → App wr w' v v' → wpList P ops Q rest (a.put o.dst v') w') :
 wpList P ops Q (o :: rest) a (wr.alloc (.cells cs e)) := by
 refine wpList_append_own_at _ hgd s x t ho base e i z size bytes ht hi hz hsize hby hzs hsz v n xs hs (hown.alloc _) ⟨wr.heap.size, 0, none⟩ 1 1 cs.toList hx (by simp [hcs]) (fun j u hj => ?_) hc1 hn hb (by simp; omega) ?_
 ·rw [add_at, (Box.new wr e cs).cell (0 + j), Nat.zero_add]
  simpa using hj
 ·intro v' w' h1 h2 _ h4
  refine h v' w' h1 ⟨⟨h2.os, h2.tape, h2.output, Nat.le_trans (by simp) h2.size, fun k hk hne => (h2.block k (by simp; omega) hne).trans (Below.heap_alloc _ _ _ hk)⟩, ?_⟩
  rcases h4 with h4 | h4
  ·exact .inl h4
  ·exact .inr ⟨_, h4, by simp⟩
end
theorem info_pos : (Tryz.prog.info? 58).map (fun i => (i.zero, i.size, i.bytes)) = some (some (.agg #[.int .i64 0, .int .i64 0]), 2, 16) := by kernel_rfl
def PosIn (d : Dim) (p : Pos) : Prop := (p.tier = -1 ∧ p.key = 0) ∨ ∃ (t q : Nat) (ht : t < d.tiers.length), p.tier = (t : Int) ∧ p.key = (q : Int) ∧ q < (d.tiers[t]'ht).terms.length
def WayTo (s : Sch) (ps : List Pos) : Prop := ∀ (i : Nat) (d : Dim) (p : Pos), s.dims[i]? = some d → ps[i]? = some p → PosIn d p
theorem WayTo.snoc {s : Sch} {ps : List Pos} (h : WayTo s ps) {d : Dim} (hd : s.dims[ps.length]? = some d) {p : Pos} (hp : PosIn d p) : WayTo s (ps ++ [p]) := by
 intro i d' p' h1 h2
 by_cases hi : i < ps.length
 ·rw [List.getElem?_append_left hi] at h2
  exact h i d' p' h1 h2
 ·have h3 := (List.getElem?_eq_some_iff.1 h2).1
  rw [List.length_append] at h3
  simp only [List.length_cons, List.length_nil] at h3
  obtain rfl : i = ps.length := by omega
  rw [List.getElem?_append_right (Nat.le_refl _), Nat.sub_self] at h2
  rw [hd] at h1
  injection h1 with h1
  injection h2 with h2
  rw [← h1, ← h2]
  exact hp
theorem pos_one (x y : Int) : ∀ u ∈ (#[Value.int .i64 x, .int .i64 y] : Array Value).toList, u.oneCell' = true := by
 intro u hu
 simp at hu
 rcases hu with rfl | rfl <;> rfl
def AskRet (s : Sch) (w : World) (e : Ending) (w' : World) : Prop := ∃ (A : Option Addr) (c : Nat) (ps : List Pos) (b : Bool), e = .returned (.tuple #[.slice A ps.length c, .bool b]) ∧ (b = true → ps.length = s.dims.length ∧ WayTo s ps ∧ Row w' w'.heap.size A (ps.flatMap posV)) ∧ Below w.heap.size w w'
set_option maxRecDepth 100000 in
set_option maxHeartbeats 8000000 in
theorem asked_any (s : Sch) (A : Option Addr) (qs : List Pos) (c : Nat) (w : World) (h : SchAt w w.heap.size s) (hq : Row w w.heap.size A (qs.flatMap posV)) (hn : qs.length * 16 ≤ 140737488351232) :
 Calls Tryz.prog 4 #[.agg (schC s), .slice A qs.length c] w (AskRet s w) := by
 obtain ⟨i0, ti0, tz0, tz1, tz2⟩ := info_parts info_pos
 have HNo := kp (show ∀ w', Below w.heap.size w w' → AskRet s w (.returned (.tuple #[.slice none 0 0, .bool false])) w' from fun w' hb => ⟨none, 0, [], false, rfl, (fun h => by cases h), hb⟩)
 have HYes := kp (show ∀ (A : Option Addr) (c : Nat) (ps : List Pos) w', ps.length = s.dims.length → WayTo s ps → Row w' w'.heap.size A (ps.flatMap posV) → Below w.heap.size w w' → AskRet s w (.returned (.tuple #[.slice A ps.length c, .bool true])) w' from fun A c ps w' h1 h2 h3 hb => ⟨A, c, ps, true, rfl, fun _ => ⟨h1, h2, h3⟩, hb⟩)
 generalize AskRet s w = Q at *
 have hsn := h.n
 unfold maxLen at hsn
 have hb0 := (Below.refl w.heap.size w).alloc (Nat.le_refl _) (.cells (schC s) 25)
 have HB := kp (Box.new w 25 (schC s))
 have Hh := kp h
 have Hq := kp hq
 have Hb0 := kp hb0
 clear h hq hb0
 obtain ⟨n, hn'⟩ : ∃ n, qs.length = n := ⟨_, rfl⟩
 have Hn := kp hn'
 obtain ⟨nd, hnd⟩ : ∃ nd, s.dims.length = nd := ⟨_, rfl⟩
 have Hnd := kp hnd
 unfold schC at HB Hb0 ⊢
 rw [hn'] at hn ⊢
 rw [hnd] at HB Hb0 HYes hsn ⊢
 clear hn' hnd
 obtain ⟨z0, z1, _, _⟩ := HB.out.two
 generalize hW0 : w.alloc (.cells #[.slice s.A nd s.c, .slice s.Am s.meas.length s.cm] 25) = W0 at *
 by_cases he : n = nd
 ·have q1 : ((n : Int) != (nd : Int)) = false := by simp [he]
  have He := kp he
  clear he
  go_enter Tryz.func4, Tryz.ntmps4
  go_wp2_with fail
  clear hW0 z0 z1
  go_loopw [6, 17] (fun v6 v17 wr => ∃ (k : Nat) (A' : Option Addr) (c' : Nat) (ps : List Pos), k ≤ n ∧ v17 = .int .i64 (k : Nat) ∧ v6 = .slice A' k c' ∧ ps.length = k ∧ WayTo s ps ∧ wr.ownsRow (w.heap.size + 1) 58 2 (.slice A' k c') k (ps.flatMap posV) ∧ Box wr w.heap.size 25 #[.slice s.A nd s.c, .slice s.Am s.meas.length s.cm] ∧ Below w.heap.size w wr) (fun _ v17 _ => n - (intOf v17).toNat)
  case atStart => exact ⟨0, none, 0, [], Nat.zero_le _, rfl, rfl, rfl, (fun i d p _ h => by cases h), own_nil _ _ _ _, HB.out, Hb0.out⟩
  case round =>
   obtain ⟨k, A', c', ps, hk, rfl, rfl, hpl, hway, hown, hbs, hbe⟩ := hrel
   have Hpl := kp hpl
   have Hway := kp hway
   have Hown := kp hown
   have HBs := kp hbs
   have Hbe := kp hbe
   clear hpl hway hown hbs hbe HB Hb0
   by_cases hlt : k < n
   ·have hkq : k < qs.length := by rw [Hn.out]; exact hlt
    have hkd : k < s.dims.length := by rw [Hnd.out, ← He.out]; exact hlt
    obtain ⟨bp, op, hAp, hbp, p0, p1⟩ := poss_at ((Hq.out.below Hbe.out).more Hbe.out.size) k hkq
    have hdk : s.dims[ps.length]? = some (s.dims[k]'hkd) := by rw [Hpl.out]; exact List.getElem?_eq_getElem hkd
    have HSn := kp (fun (p : Pos) (hp : PosIn (s.dims[k]'hkd) p) => Hway.out.snoc hdk hp)
    generalize (qs[k]'hkq) = p at *
    obtain ⟨pt, pk⟩ := p
    dsimp only at p0 p1
    have hi0 : (0 : Int) ≤ (k : Int) := by omega
    have hi1 : (k : Int) < (n : Int) := by omega
    have hi2 : (k : Int) < (nd : Int) := by have := He.out; omega
    have hb3 := (Below.refl wr.heap.size wr).alloc (Nat.le_refl _) (.cells #[.int .i64 pt, .int .i64 pk] 58)
    have HP3 := kp (Box.new wr 58 #[.int .i64 pt, .int .i64 pk])
    have HBs3 := kp (HBs.out.under hb3)
    have Hb3 := kp (Hbe.out.trans (hb3.mono Hbe.out.size))
    have Hown3 := kp (own_below Hown.out hb3)
    have hsz3 : w.heap.size < wr.heap.size := HBs.out.lt
    clear hb3 hdk
    generalize hW3 : wr.alloc (.cells #[.int .i64 pt, .int .i64 pk] 58) = W3 at *
    obtain ⟨y0, y1, g0, g1⟩ := HP3.out.two
    obtain ⟨z0, z1, _, _⟩ := HBs3.out.two
    rw [hAp]
    by_cases hpt : pt < 0
    ·have q2 : decide (pt < 0) = true := decide_eq_true hpt
     have Hw2 := kp (HSn.out ⟨-1, 0⟩ (.inl ⟨rfl, rfl⟩))
     have HP4 := kp (show Box ((W3.setCell ⟨wr.heap.size, 0, none⟩ (.int .i64 (-1))).setCell ⟨wr.heap.size, 1, none⟩ (.int .i64 0)) wr.heap.size 58 #[.int .i64 (-1), .int .i64 0] from (HP3.out.set 0 _).set 1 _)
     have HBs4 := kp ((HBs3.out.far (p := ⟨wr.heap.size, 0, none⟩) (by dsimp only; omega) (.int .i64 (-1))).far (p := ⟨wr.heap.size, 1, none⟩) (by dsimp only; omega) (.int .i64 0))
     have Hb4 := kp ((Hb3.out.setCell (p := ⟨wr.heap.size, 0, none⟩) Hbe.out.size (.int .i64 (-1))).setCell (p := ⟨wr.heap.size, 1, none⟩) Hbe.out.size (.int .i64 0))
     have HownK : ∀ j, (Value.slice A' k c').ownBlock = some j → j ≠ wr.heap.size := fun j hj e => by have := (Hown.out.lt j hj).2; omega
     have Hown4 := kp (own_same (own_same Hown3.out (fun j hj => Below.heap_setCell W3 ⟨wr.heap.size, 0, none⟩ (.int .i64 (-1)) j (HownK j hj))) (fun j hj => Below.heap_setCell (W3.setCell ⟨wr.heap.size, 0, none⟩ (.int .i64 (-1))) ⟨wr.heap.size, 1, none⟩ (.int .i64 0) j (HownK j hj)))
     generalize hW4 : (W3.setCell ⟨wr.heap.size, 0, none⟩ (.int .i64 (-1))).setCell ⟨wr.heap.size, 1, none⟩ (.int .i64 0) = W4 at *
     obtain ⟨x0, x1, _, _⟩ := HP4.out.two
     have hs4 := kp (show w.heap.size + 1 ≤ W4.heap.size from HBs4.out.lt)
     have HneG := kp (show (Value.slice A' k c').ownBlock ≠ some w.heap.size from fun e => by have := (Hown.out.lt _ e).1; omega)
     have hk1 : k + 1 ≤ maxLen := by unfold maxLen; omega
     have hk2 : (k + 1) * 16 ≤ 140737488355328 := by omega
     clear HownK
     go_wp2_with (at_builtin; refine wpList_appKB rfl (.tmp 58) (.tmp 60) 27 rfl (w.heap.size + 1) 58 i0 _ 2 16 Tryz.underlying27 ti0 tz0 tz1 tz2 rfl (by decide) W4 #[.int .i64 (-1), .int .i64 0] rfl (pos_one _ _) (.slice A' k c') k (ps.flatMap posV) rfl Hown4.out rfl hk1 hk2 hs4.out ?_; intro v8 w7 hown6 happ6; obtain ⟨A8, c8, h6⟩ := own_formK hown6; subst h6; have Hown6 := kp hown6; have Hb7 := kp (happ6.belowK Hb4.out Hown4.out (Nat.le_succ _) Hb4.out.size); have Hbs7 := kp (show Box w7 w.heap.size 25 _ from (happ6.farK HBs4.out.lt HneG.out).trans HBs4.out); clear hown6 happ6)
     exact ⟨⟨k + 1, A8, c8, ps ++ [⟨-1, 0⟩], by omega, by go_num, rfl, by rw [List.length_append, Hpl.out]; rfl, Hw2.out, by rw [List.flatMap_append]; exact Hown6.out, Hbs7.out, Hb7.out⟩, by simp [intOf]; omega⟩
    ·have q2 : decide (pt < 0) = false := decide_eq_false hpt
     obtain ⟨t, ht⟩ : ∃ t : Nat, pt = (t : Int) := ⟨pt.toNat, by omega⟩
     subst ht
     have hsd := (Hh.out.below Hb3.out).more Hb3.out.size
     obtain ⟨bd, od, hAd, hbd, d0, d1⟩ := hsd.dim k hkd
     have hdat := hsd.dims _ (List.getElem_mem hkd)
     have HTr := kp (fun (t : Nat) (ht : t < (s.dims[k]'hkd).tiers.length) => hdat.tier t ht)
     have HPi := kp (show ∀ (ht : t < (s.dims[k]'hkd).tiers.length) (q : Nat), pk = (q : Int) → q < ((s.dims[k]'hkd).tiers[t]'ht).terms.length → WayTo s (ps ++ [⟨(t : Int), pk⟩]) from fun ht q h1 h2 => HSn.out _ (.inr ⟨t, q, ht, rfl, h1, h2⟩))
     have hntm := hdat.n
     unfold maxLen at hntm
     have HNt := kp (show ∀ (ht : t < (s.dims[k]'hkd).tiers.length), ((s.dims[k]'hkd).tiers[t]'ht).terms.length ≤ 9223372036854775807 from fun ht => by have := (hdat.tiers _ (List.getElem_mem ht)).nt; unfold maxLen at this; omega)
     have hA0 : s.A = some ⟨bd, od, none⟩ := hAd
     clear hsd hAd d0 HSn hdat
     generalize (s.dims[k]'hkd) = dd at *
     generalize hsA : s.A = sA at *
     have HsA := kp hsA
     subst hA0
     obtain ⟨dname, dA, dtiers, dc⟩ := dd
     dsimp only at HTr HPi HNt d1 hntm
     obtain ⟨nt, hnt⟩ : ∃ nt, dtiers.length = nt := ⟨_, rfl⟩
     have Hnt := kp hnt
     rw [hnt] at d1 hntm
     clear hnt
     have t0' : (0 : Int) ≤ (t : Int) := by omega
     by_cases h1 : nt ≤ t
     ·have q3 : (nt : Int) ≤ (t : Int) := by omega
      have q3d : decide ((nt : Int) ≤ (t : Int)) = true := decide_eq_true q3
      have q3n : decide (nt ≤ t) = true := decide_eq_true h1
      have Hf := kp (HNo.out W3.drew Hb3.out.drew)
      go_upto_region 9 with fail
      refine wp_region_noPanic ?_
      refine wp_region_T (t := 99) (S := (fun w' => (w'.cell? ⟨wr.heap.size, 0, none⟩ = some (.int .i64 (t : Nat)) ∧ w'.cell? ⟨wr.heap.size, 1, none⟩ = some (.int .i64 pk)) ∧ w'.cell? ⟨w.heap.size, 0, none⟩ = some (.slice (some ⟨bd, od, none⟩) nd s.c) ∧ w'.cell? ⟨bd, od + k * 2 + 1, none⟩ = some (.slice dA nt dc))) (by kernel_rfl) ⟨⟨y0, y1⟩, z0, d1⟩ (fun hHeld => ?_)
      refine tk 0 hHeld ?_
      refine tk 1 hHeld ?_
      refine tk 2 hHeld ?_
      refine tk 3 hHeld ?_
      refine tk 4 hHeld ?_
      refine tk 5 hHeld ?_
      refine tk 6 hHeld ?_
      refine tk 7 hHeld ?_
      refine tk 8 hHeld ?_
      refine tk 9 hHeld ?_
      refine tk 10 hHeld ?_
      refine sk 11 hHeld ?_
      refine sk 12 hHeld ?_
      refine sk 13 hHeld ?_
      refine tk 14 hHeld ?_
      refine tk 15 hHeld ?_
      refine sk 16 hHeld ?_
      refine sk 17 hHeld ?_
      refine sk 18 hHeld ?_
      refine sk 19 hHeld ?_
      refine sk 20 hHeld ?_
      refine sk 21 hHeld ?_
      refine sk 22 hHeld ?_
      refine sk 23 hHeld ?_
      refine sk 24 hHeld ?_
      refine sk 25 hHeld ?_
      refine sk 26 hHeld ?_
      refine sk 27 hHeld ?_
      refine sk 28 hHeld ?_
      refine sk 29 hHeld ?_
      refine sk 30 hHeld ?_
      refine tk 31 hHeld ?_
      refine wpAnyT_done (by kernel_rfl) ?_ _
      try clear hHeld
      refine NoPanic.normal ?_
      go_wp2_with fail
      exact Hf.out
     ·have q3 : ¬ (nt : Int) ≤ (t : Int) := by omega
      have q3d : decide ((nt : Int) ≤ (t : Int)) = false := decide_eq_false q3
      have q3n : decide (nt ≤ t) = false := decide_eq_false h1
      by_cases h2 : pk < 0
      ·have q4 : decide (pk < 0) = true := decide_eq_true h2
       have Hf := kp (HNo.out W3.drew Hb3.out.drew)
       go_upto_region 9 with fail
       refine wp_region_noPanic ?_
       refine wp_region_T (t := 99) (S := (fun w' => (w'.cell? ⟨wr.heap.size, 0, none⟩ = some (.int .i64 (t : Nat)) ∧ w'.cell? ⟨wr.heap.size, 1, none⟩ = some (.int .i64 pk)) ∧ w'.cell? ⟨w.heap.size, 0, none⟩ = some (.slice (some ⟨bd, od, none⟩) nd s.c) ∧ w'.cell? ⟨bd, od + k * 2 + 1, none⟩ = some (.slice dA nt dc))) (by kernel_rfl) ⟨⟨y0, y1⟩, z0, d1⟩ (fun hHeld => ?_)
       refine tk 0 hHeld ?_
       refine tk 1 hHeld ?_
       refine tk 2 hHeld ?_
       refine tk 3 hHeld ?_
       refine tk 4 hHeld ?_
       refine tk 5 hHeld ?_
       refine tk 6 hHeld ?_
       refine tk 7 hHeld ?_
       refine tk 8 hHeld ?_
       refine tk 9 hHeld ?_
       refine tk 10 hHeld ?_
       refine tk 11 hHeld ?_
       refine tk 12 hHeld ?_
       refine tk 13 hHeld ?_
       refine tk 14 hHeld ?_
       refine tk 15 hHeld ?_
       refine sk 16 hHeld ?_
       refine sk 17 hHeld ?_
       refine sk 18 hHeld ?_
       refine sk 19 hHeld ?_
       refine sk 20 hHeld ?_
       refine sk 21 hHeld ?_
       refine sk 22 hHeld ?_
       refine sk 23 hHeld ?_
       refine sk 24 hHeld ?_
       refine sk 25 hHeld ?_
       refine sk 26 hHeld ?_
       refine sk 27 hHeld ?_
       refine sk 28 hHeld ?_
       refine sk 29 hHeld ?_
       refine sk 30 hHeld ?_
       refine tk 31 hHeld ?_
       refine wpAnyT_done (by kernel_rfl) ?_ _
       try clear hHeld
       refine NoPanic.normal ?_
       go_wp2_with fail
       exact Hf.out
      ·have q4 : decide (pk < 0) = false := decide_eq_false h2
       have htt : t < dtiers.length := by rw [Hnt.out]; omega
       have t1' : (t : Int) < (nt : Int) := by omega
       obtain ⟨bt, ot, hAt, hbt, e0, e1, e2⟩ := HTr.out t htt
       have hnq := HNt.out htt
       obtain ⟨q, hq'⟩ : ∃ q : Nat, pk = (q : Int) := ⟨pk.toNat, by omega⟩
       subst hq'
       have HPi2 := kp (HPi.out htt q rfl)
       clear e0 e2 HTr HPi HNt
       generalize (dtiers[t]'htt).terms.length = nq at *
       generalize (dtiers[t]'htt).At = tA at *
       generalize (dtiers[t]'htt).ct = tc at *
       subst hAt
       by_cases h3 : nq ≤ q
       ·have q5 : (nq : Int) ≤ (q : Int) := by omega
        have q5d : decide ((nq : Int) ≤ (q : Int)) = true := decide_eq_true q5
        have q5n : decide (nq ≤ q) = true := decide_eq_true h3
        have Hf := kp (HNo.out W3.drew Hb3.out.drew)
        go_upto_region 9 with fail
        refine wp_region_noPanic ?_
        refine wp_region_T (t := 99) (S := (fun w' => (w'.cell? ⟨wr.heap.size, 0, none⟩ = some (.int .i64 (t : Nat)) ∧ w'.cell? ⟨wr.heap.size, 1, none⟩ = some (.int .i64 (q : Nat))) ∧ w'.cell? ⟨w.heap.size, 0, none⟩ = some (.slice (some ⟨bd, od, none⟩) nd s.c) ∧ w'.cell? ⟨bd, od + k * 2 + 1, none⟩ = some (.slice (some ⟨bt, ot, none⟩) nt dc) ∧ w'.cell? ⟨bt, ot + t * 3 + 1, none⟩ = some (.slice tA nq tc))) (by kernel_rfl) ⟨⟨y0, y1⟩, z0, d1, e1⟩ (fun hHeld => ?_)
        refine tk 0 hHeld ?_
        refine tk 1 hHeld ?_
        refine tk 2 hHeld ?_
        refine tk 3 hHeld ?_
        refine tk 4 hHeld ?_
        refine tk 5 hHeld ?_
        refine tk 6 hHeld ?_
        refine tk 7 hHeld ?_
        refine tk 8 hHeld ?_
        refine tk 9 hHeld ?_
        refine tk 10 hHeld ?_
        refine tk 11 hHeld ?_
        refine tk 12 hHeld ?_
        refine tk 13 hHeld ?_
        refine tk 14 hHeld ?_
        refine tk 15 hHeld ?_
        refine tk 16 hHeld ?_
        refine tk 17 hHeld ?_
        refine tk 18 hHeld ?_
        refine tk 19 hHeld ?_
        refine tk 20 hHeld ?_
        refine tk 21 hHeld ?_
        refine tk 22 hHeld ?_
        refine tk 23 hHeld ?_
        refine tk 24 hHeld ?_
        refine tk 25 hHeld ?_
        refine tk 26 hHeld ?_
        refine tk 27 hHeld ?_
        refine tk 28 hHeld ?_
        refine tk 29 hHeld ?_
        refine tk 30 hHeld ?_
        refine tk 31 hHeld ?_
        refine wpAnyT_done (by kernel_rfl) ?_ _
        try clear hHeld
        refine NoPanic.normal ?_
        go_wp2_with fail
        exact Hf.out
       ·have q5 : ¬ (nq : Int) ≤ (q : Int) := by omega
        have q5d : decide ((nq : Int) ≤ (q : Int)) = false := decide_eq_false q5
        have q5n : decide (nq ≤ q) = false := decide_eq_false h3
        have Hw2 := kp (HPi2.out (by omega))
        go_upto_region 9 with fail
        refine wp_region_noPanic ?_
        refine wp_region_T (t := 99) (S := (fun w' => (w'.cell? ⟨wr.heap.size, 0, none⟩ = some (.int .i64 (t : Nat)) ∧ w'.cell? ⟨wr.heap.size, 1, none⟩ = some (.int .i64 (q : Nat))) ∧ w'.cell? ⟨w.heap.size, 0, none⟩ = some (.slice (some ⟨bd, od, none⟩) nd s.c) ∧ w'.cell? ⟨bd, od + k * 2 + 1, none⟩ = some (.slice (some ⟨bt, ot, none⟩) nt dc) ∧ w'.cell? ⟨bt, ot + t * 3 + 1, none⟩ = some (.slice tA nq tc))) (by kernel_rfl) ⟨⟨y0, y1⟩, z0, d1, e1⟩ (fun hHeld => ?_)
        refine tk 0 hHeld ?_
        refine tk 1 hHeld ?_
        refine tk 2 hHeld ?_
        refine tk 3 hHeld ?_
        refine tk 4 hHeld ?_
        refine tk 5 hHeld ?_
        refine tk 6 hHeld ?_
        refine tk 7 hHeld ?_
        refine tk 8 hHeld ?_
        refine tk 9 hHeld ?_
        refine tk 10 hHeld ?_
        refine tk 11 hHeld ?_
        refine tk 12 hHeld ?_
        refine tk 13 hHeld ?_
        refine tk 14 hHeld ?_
        refine tk 15 hHeld ?_
        refine tk 16 hHeld ?_
        refine tk 17 hHeld ?_
        refine tk 18 hHeld ?_
        refine tk 19 hHeld ?_
        refine tk 20 hHeld ?_
        refine tk 21 hHeld ?_
        refine tk 22 hHeld ?_
        refine tk 23 hHeld ?_
        refine tk 24 hHeld ?_
        refine tk 25 hHeld ?_
        refine tk 26 hHeld ?_
        refine tk 27 hHeld ?_
        refine tk 28 hHeld ?_
        refine tk 29 hHeld ?_
        refine tk 30 hHeld ?_
        refine tk 31 hHeld ?_
        refine wpAnyT_done (by kernel_rfl) ?_ _
        try clear hHeld
        refine NoPanic.normal ?_
        have HP4 := kp (show Box W3.drew wr.heap.size 58 #[.int .i64 (t : Nat), .int .i64 (q : Nat)] from HP3.out)
        have HBs4 := kp (show Box W3.drew w.heap.size 25 _ from HBs3.out)
        have Hb4 := kp Hb3.out.drew
        have Hown4 := kp (show W3.drew.ownsRow (w.heap.size + 1) 58 2 (.slice A' k c') k (ps.flatMap posV) from Hown3.out)
        generalize W3.drew = W4 at *
        obtain ⟨x0, x1, _, _⟩ := HP4.out.two
        have hs4 := kp (show w.heap.size + 1 ≤ W4.heap.size from HBs4.out.lt)
        have HneG := kp (show (Value.slice A' k c').ownBlock ≠ some w.heap.size from fun e => by have := (Hown.out.lt _ e).1; omega)
        have hk1 : k + 1 ≤ maxLen := by unfold maxLen; omega
        have hk2 : (k + 1) * 16 ≤ 140737488355328 := by omega
        go_wp2_with (at_builtin; refine wpList_appKB rfl (.tmp 58) (.tmp 60) 27 rfl (w.heap.size + 1) 58 i0 _ 2 16 Tryz.underlying27 ti0 tz0 tz1 tz2 rfl (by decide) W4 #[.int .i64 (t : Nat), .int .i64 (q : Nat)] rfl (pos_one _ _) (.slice A' k c') k (ps.flatMap posV) rfl Hown4.out rfl hk1 hk2 hs4.out ?_; intro v8 w7 hown6 happ6; obtain ⟨A8, c8, h6⟩ := own_formK hown6; subst h6; have Hown6 := kp hown6; have Hb7 := kp (happ6.belowK Hb4.out Hown4.out (Nat.le_succ _) Hb4.out.size); have Hbs7 := kp (show Box w7 w.heap.size 25 _ from (happ6.farK HBs4.out.lt HneG.out).trans HBs4.out); clear hown6 happ6)
        exact ⟨⟨k + 1, A8, c8, ps ++ [⟨(t : Nat), (q : Nat)⟩], by omega, by go_num, rfl, by rw [List.length_append, Hpl.out]; rfl, Hw2.out, by rw [List.flatMap_append]; exact Hown6.out, Hbs7.out, Hb7.out⟩, by simp [intOf]; omega⟩
   ·obtain rfl : k = n := by omega
    have Hrow := kp (row_ownK Hown.out)
    have HF := kp (HYes.out A' c' ps wr (by rw [Hpl.out]; exact He.out) Hway.out Hrow.out Hbe.out)
    rw [Hpl.out] at HF
    go_wp2_with fail
    exact HF.out
 ·have q1 : ((n : Int) != (nd : Int)) = true := by simp; omega
  have Hf := kp (HNo.out W0 Hb0.out)
  go_enter Tryz.func4, Tryz.ntmps4
  go_wp2_with fail
  exact Hf.out
end Go.Proofs.YthmbgbmcdbdecaaGreat.Tc
