/- Layer 7: clones; Seize. -/
import Derived.Test.YtbjjfbojcokmgaaDv10
namespace Go.Proofs.Ytbjjfbojcokmgaa.Dv
open Go.RowKit Base
set_option linter.unusedVariables false
set_option linter.unusedSimpArgs false

/-- a clone: a row of the call's own -/
def Cloned (t : TypeId) (size n : Nat) (vs : List Value) (w : World) (e : Ending) (w' : World) : Prop := ∃ v', e = .returned v' ∧ w'.ownsRow w.heap.size t size v' n vs ∧ Below w.heap.size w w'
theorem clone_str (A : Option Addr) (l : List ByteArray) (c : Nat) (w : World) (hl : l.length ≤ 1000000) (hr : Row w w.heap.size A (l.map Value.string)) :
    Calls Try.prog 36 #[.slice A l.length c] w (Cloned 9 1 l.length (l.map Value.string) w) := by
  rcases A with _ | a
  · have hl0 : l = [] := by
      rcases hr with h | ⟨b, off, h, _⟩
      · simpa using h
      · cases h
    subst hl0
    refine (Try.slices_Clone_string_nil 0 c w).mono ?_
    rintro e w' ⟨rfl, rfl⟩
    exact ⟨_, rfl, ⟨rfl, .inl ⟨rfl, rfl⟩⟩, Below.refl _ _⟩
  · rcases hr with h | ⟨b, off, h, _, hc⟩
    · have hl0 : l = [] := by simpa using h
      subst hl0
      refine (Try.slices_Clone_string_zero a c w).mono ?_
      rintro e w' ⟨v', rfl, ho, _, hb⟩
      exact ⟨v', rfl, ho, hb⟩
    · injection h with h
      subst h
      have := Try.slices_Clone_string b off l.length c l w (Nat.le_refl _) (by omega) (fun j hj => hc j _ (by rw [List.getElem?_map, List.getElem?_eq_getElem hj, List.getD_eq_getElem?_getD, List.getElem?_eq_getElem hj]; rfl))
      rw [List.take_length] at this
      refine this.mono ?_
      rintro e w' ⟨v', rfl, ho, _, hb⟩
      exact ⟨v', rfl, ho, hb⟩

set_option maxHeartbeats 1000000 in
theorem clone_put_some (a : Addr) (n c : Nat) (vs : List Value) (w : World) (hn : n ≤ 1000000) (hv : vs.length = n * 2) (hc : ∀ j u, vs[j]? = some u → w.cell? (a.add j) = some u) (h1 : ∀ u ∈ vs, u.oneCell' = true) :
    Calls Try.prog 37 #[.slice (some a) n c] w (Cloned 65 2 n vs w) := by
  have q : ∀ (w : World) (a : Option Addr) (n c n' c' : Nat), (binOp .eql 36 (.slice a n c) (.slice none n' c')).run Try.prog w = .ok (.bool a.isNone) w := fun w a n c n' c' => Lib.run_eql_slice_nil w _ _ a n c n' c' Try.underlying36
  obtain ⟨i0, ti0, tz0, tz1, tz2⟩ := info_parts info_put
  have Hc := Lib.hid hc
  have Hv := Lib.hid hv
  have H1 := Lib.hid h1
  have Hn := Lib.hid hn
  have HQ := Lib.hid (show ∀ v' w', w'.ownsRow w.heap.size 65 2 v' n vs → Below w.heap.size w w' → Cloned 65 2 n vs w (.returned v') w' from fun v' w' a b => ⟨v', rfl, a, b⟩)
  clear hc hv h1 hn
  generalize hQ : Cloned 65 2 n vs w = Q at *
  clear hQ
  go_enter Try.func37, Try.ntmps37
  go_wp2_with (at_builtin; refine wpList_append_own _ rfl _ _ 36 rfl w.heap.size 65 i0 (.agg #[.int .i64 0, .string ByteArray.empty]) 2 24 Try.underlying36 ti0 tz0 tz1 tz2 rfl (by decide) _ _ _ rfl (World.ownsRow_made w #[] 0 (Nat.le_refl _) (Nat.zero_le _) (by simp)) a n c vs rfl ?qc1 ?qc2 ?qc3 ?qc4 ?qc5 ?qc6 ?_)
  case qc1 => exact Hv.out
  case qc2 =>
    intro j u hj
    exact Lib.cell?_alloc_some _ (Hc.out j u hj)
  case qc3 => exact H1.out
  case qc4 => have := Hn.out; rw [Nat.zero_add]; unfold maxLen; omega
  case qc5 => have := Hn.out; rw [Nat.zero_add]; omega
  case qc6 => simp
  intro v' w1 hown hgrow hnil
  have Hown := Lib.hid hown
  have Hgr := Lib.hid hgrow
  clear hown hgrow hnil
  go_wp2_with fail
  refine HQ.out _ _ Hown.out ?_
  exact ((Below.refl _ w).alloc (Nat.le_refl _) _).grown Hgr.out (by simp) (by intro k hk; simp [Value.ownBlock] at hk; omega)
set_option maxHeartbeats 400000 in
theorem clone_put_nil (n c : Nat) (w : World) :
    Calls Try.prog 37 #[.slice none n c] w fun e w' => e = .returned (.slice none 0 0) ∧ w = w' := by
  have q : ∀ (w : World) (a : Option Addr) (n c n' c' : Nat), (binOp .eql 36 (.slice a n c) (.slice none n' c')).run Try.prog w = .ok (.bool a.isNone) w := fun w a n c n' c' => Lib.run_eql_slice_nil w _ _ a n c n' c' Try.underlying36
  go_enter Try.func37, Try.ntmps37
  go_wp2_with fail
  go_ret
  exact ⟨rfl, rfl⟩
theorem clone_put (A : Option Addr) (n c : Nat) (vs : List Value) (w : World) (hn : n ≤ 1000000) (hv : vs.length = n * 2) (hr : Row w w.heap.size A vs) (h1 : ∀ u ∈ vs, u.oneCell' = true) :
    Calls Try.prog 37 #[.slice A n c] w (Cloned 65 2 n vs w) := by
  rcases A with _ | a
  · have hl0 : vs = [] := by
      rcases hr with h | ⟨b, off, h, _⟩
      · exact h
      · cases h
    subst hl0
    have hn0 : n = 0 := by simp at hv; omega
    subst hn0
    refine (clone_put_nil 0 c w).mono ?_
    rintro e w' ⟨rfl, rfl⟩
    exact ⟨_, rfl, ⟨rfl, .inl ⟨rfl, rfl⟩⟩, Below.refl _ _⟩
  · refine clone_put_some a n c vs w hn hv ?_ h1
    intro j u hj
    rcases hr with h | ⟨b, off, h, _, hc⟩
    · rw [h] at hj; cases hj
    · injection h with h
      subst h
      rw [add_at]
      exact hc j u hj
theorem putV_one (l : List (Nat × ByteArray)) : ∀ u ∈ putV l, u.oneCell' = true := by
  intro u hu
  unfold putV at hu
  obtain ⟨p, _, hp⟩ := List.mem_flatMap.1 hu
  simp at hp
  rcases hp with rfl | rfl <;> rfl
theorem row_of_own2 {w : World} {base : Nat} {e : TypeId} {size : Nat} {A : Option Addr} {n c : Nat} {vs : List Value} (h : w.ownsRow base e size (.slice A n c) n vs) : Row w w.heap.size A vs := by
  rcases h.2 with ⟨h1, h0⟩ | ⟨g, cap, cur, hv, _, hh, _⟩
  · left
    have := h.1
    rw [h0] at this
    simpa using this
  · injection hv with hA _ _
    subst hA
    have hl := (h.lt g rfl).2
    refine .inr ⟨g, 0, rfl, hl, fun i v hv => ?_⟩
    have := h.cells (g := g) rfl i v hv
    rw [add_at] at this
    exact this

/-- what Seize hands out: rows of the call's own -/
def Seized (s : Dv) (w : World) (e : Ending) (w' : World) : Prop := ∃ v1 v2, e = .returned (.agg #[v1, v2]) ∧ w'.ownsRow w.heap.size 9 1 v1 s.sec.length (s.sec.map .string) ∧ w'.ownsRow w.heap.size 65 2 v2 s.puts.length (putV s.puts) ∧ Below w.heap.size w w'
def SeizeS (d g : Nat) (x y : Value) (w0 w' : World) : Prop := w'.cell? ⟨d, 0, none⟩ = some x ∧ w'.cell? ⟨d, 1, none⟩ = some y ∧ w'.cell? ⟨g, 0, none⟩ = some (.slice none 0 0) ∧ w'.cell? ⟨g, 1, none⟩ = some (.slice none 0 0) ∧ w'.frozen? ⟨g, 0, none⟩ = false ∧ w'.frozen? ⟨g, 1, none⟩ = false ∧ Below w0.heap.size w0 w'
theorem keepSz {d g : Nat} {x y : Value} {w0 v w' : World} (hb : Below v.heap.size v w')
    (h : v.cell? ⟨d, 0, none⟩ = some x ∧ v.cell? ⟨d, 1, none⟩ = some y ∧ v.cell? ⟨g, 0, none⟩ = some (.slice none 0 0) ∧ v.cell? ⟨g, 1, none⟩ = some (.slice none 0 0) ∧ v.frozen? ⟨g, 0, none⟩ = false ∧ v.frozen? ⟨g, 1, none⟩ = false ∧ Below w0.heap.size w0 v) :
    w'.cell? ⟨d, 0, none⟩ = some x ∧ w'.cell? ⟨d, 1, none⟩ = some y ∧ w'.cell? ⟨g, 0, none⟩ = some (.slice none 0 0) ∧ w'.cell? ⟨g, 1, none⟩ = some (.slice none 0 0) ∧ w'.frozen? ⟨g, 0, none⟩ = false ∧ w'.frozen? ⟨g, 1, none⟩ = false ∧ Below w0.heap.size w0 w' := by
  obtain ⟨h0, h1, h2, h3, h4, h5, hb0⟩ := h
  have hg : g < v.heap.size := cell_block_lt h2
  exact ⟨cell_keep hb h0, cell_keep hb h1, cell_keep hb h2, cell_keep hb h3, (hb.frozen (p := ⟨g, 0, none⟩) hg).trans h4, (hb.frozen (p := ⟨g, 1, none⟩) hg).trans h5, hb0.trans (hb.mono hb0.size)⟩
theorem own_base {w : World} {base base' : Nat} {e : TypeId} {size : Nat} {v : Value} {n : Nat} {xs : List Value} (h : w.ownsRow base e size v n xs) (hb : base' ≤ base) : w.ownsRow base' e size v n xs := by
  obtain ⟨h1, h2⟩ := h
  refine ⟨h1, ?_⟩
  rcases h2 with h2 | ⟨g, cap, cur, r1, r2, r3⟩
  · exact .inl h2
  · exact .inr ⟨g, cap, cur, r1, by omega, r3⟩
theorem seize_end {w w0 wx wy : World} {v1 v2 : Value} {n m : Nat} {xs ys : List Value} (hsz : w0.heap.size = w.heap.size + 1) (hb0 : Below w.heap.size w w0) (h1 : wx.ownsRow w0.heap.size 9 1 v1 n xs) (h2 : wy.ownsRow wx.heap.size 65 2 v2 m ys) (hb1 : Below w0.heap.size w0 wx) (hb2 : Below wx.heap.size wx wy) (x y : Value) :
    ((wy.setCell ⟨w.heap.size, 0, none⟩ x).setCell ⟨w.heap.size, 1, none⟩ y).ownsRow w.heap.size 9 1 v1 n xs ∧ ((wy.setCell ⟨w.heap.size, 0, none⟩ x).setCell ⟨w.heap.size, 1, none⟩ y).ownsRow w.heap.size 65 2 v2 m ys ∧ Below w.heap.size w ((wy.setCell ⟨w.heap.size, 0, none⟩ x).setCell ⟨w.heap.size, 1, none⟩ y) := by
  have s1 := hb1.size
  have ht : Turn (· = w.heap.size) wy ((wy.setCell ⟨w.heap.size, 0, none⟩ x).setCell ⟨w.heap.size, 1, none⟩ y) := Turn.cell (Turn.cell (Turn.refl _ wy) _ _) _ _
  have o1 := own_turn (p := fun _ => False) h1 (.below hb2) (fun _ _ h => h)
  refine ⟨own_base (own_turn o1 ht (fun k hk e => ?_)) (by omega), own_base (own_turn h2 ht (fun k hk e => ?_)) (by omega), ?_⟩
  · have := (o1.lt k hk).1
    omega
  · have := (h2.lt k hk).1
    omega
  · exact (((hb0.trans (hb1.mono (by omega))).trans (hb2.mono (by omega))).setCell (Nat.le_refl _) _).setCell (Nat.le_refl _) _
set_option maxRecDepth 100000 in
set_option maxHeartbeats 1000000 in
theorem seize_yes {w : World} {B : Nat} {F : Nat → Prop} {d gs c : Nat} {pv : Value} {s : Dv} (h : DevAt w B F d gs c pv s) :
    Calls Try.prog 13 #[.pointer (some ⟨d, 0, none⟩)] w (Seized s w) := by
  obtain ⟨A, cp, rfl, _⟩ := h.form
  have hb0 := (Below.refl w.heap.size w).alloc (Nat.le_refl _) (.cells #[.slice none 0 0, .slice none 0 0] 38)
  have h0 := h.below hb0
  have HT := Lib.hid (there_yes d _ _ c _ _ _ _ _ _ h0.box h0.n0 h0.n1)
  have HB := Lib.hid (Box.new w 38 #[.slice none 0 0, .slice none 0 0])
  have H0 := Lib.hid h0
  have Hb0 := Lib.hid hb0
  have HC1 := Lib.hid (show ∀ W, Below (w.alloc (.cells #[.slice none 0 0, .slice none 0 0] 38)).heap.size (w.alloc (.cells #[.slice none 0 0, .slice none 0 0] 38)) W → Calls Try.prog 36 #[.slice (some ⟨gs, 0, none⟩) s.sec.length c] W (Cloned 9 1 s.sec.length (s.sec.map Value.string) W) from fun W hW => clone_str _ _ _ W h.n1 (row_of_own2 (h0.below hW).sec))
  have HC2 := Lib.hid (show ∀ W, Below (w.alloc (.cells #[.slice none 0 0, .slice none 0 0] 38)).heap.size (w.alloc (.cells #[.slice none 0 0, .slice none 0 0] 38)) W → Calls Try.prog 37 #[.slice A s.puts.length cp] W (Cloned 65 2 s.puts.length (putV s.puts) W) from fun W hW => clone_put _ _ _ _ W h.good.puts (putV_len _) (row_of_own2 (h0.below hW).puts) (putV_one _))
  have HQ := Lib.hid (show ∀ v1 v2 w', w'.ownsRow w.heap.size 9 1 v1 s.sec.length (s.sec.map .string) → w'.ownsRow w.heap.size 65 2 v2 s.puts.length (putV s.puts) → Below w.heap.size w w' → Seized s w (.returned (.agg #[v1, v2])) w' from fun v1 v2 w' a b c => ⟨v1, v2, rfl, a, b, c⟩)
  generalize hQ : Seized s w = Q at *
  clear hQ h h0 hb0
  go_enter Try.func13, Try.ntmps13
  go_wp2_with fail
  refine HT.out.mono ?_
  rintro e w' ⟨rfl, rfl⟩
  go_wp2_with fail
  obtain ⟨⟨k0, k1, k2, k3, k4, k5⟩, _⟩ := Box.six H0.out.box
  obtain ⟨q0, q1, q2, q3⟩ := Box.two HB.out
  have hsz : (w.alloc (.cells #[.slice none 0 0, .slice none 0 0] 38)).heap.size = w.heap.size + 1 := by simp
  have Hsz := Lib.hid hsz
  clear hsz k2 k3 k4 k5
  generalize w.alloc (.cells #[.slice none 0 0, .slice none 0 0] 38) = w0 at *
  have hbb : Below w0.heap.size w0 w0.drew := (Below.refl _ _).drew
  go_region_with (first
      | (go_at_call 36; refine (HC1.out _ hbb).mono ?_; rintro e wx ⟨v1, rfl, hown1, hbx⟩; obtain ⟨A1, c1, hf1⟩ := own_form2 hown1; subst hf1; have Hown1 := Lib.hid hown1; clear hown1; obtain ⟨m0, m1, m2, m3, m4, m5, hbb1⟩ := keepSz (d := d) (g := w.heap.size) (w0 := w0) hbx ⟨k0, k1, q0, q1, q2, q3, hbb⟩; have Hbx := Lib.hid hbx; clear hbx)
      | (go_at_call 37; refine (HC2.out _ hbb1).mono ?_; rintro e wy ⟨v2, rfl, hown2, hby⟩; obtain ⟨A2, c2, hf2⟩ := own_form2 hown2; subst hf2; have Hown2 := Lib.hid hown2; clear hown2; obtain ⟨p0, p1, p2, p3, p4, p5, hbb2⟩ := keepSz (d := d) (g := w.heap.size) (w0 := w0) hby ⟨m0, m1, m2, m3, m4, m5, hbb1⟩; have Hby := Lib.hid hby; clear hby))
  all_goals
    have KEY := Lib.hid (seize_end Hsz.out Hb0.out Hown1.out Hown2.out hbb1 Hby.out (.slice A1 s.sec.length c1) (.slice A2 s.puts.length c2))
    clear k0 k1 q0 q1 q2 q3 m0 m1 m2 m3 m4 m5 p0 p1 hbb hbb1 hbb2 HC1 HC2 HT H0 HB Hown1 Hown2 Hbx Hby
    go_wp2_with fail
    refine bodyPost_ret (v := .agg #[.slice A1 s.sec.length c1, .slice A2 s.puts.length c2]) (by simp [results, Try.results13, go_sem, p2, p3]) rfl (HQ.out _ _ _ KEY.out.1 KEY.out.2.1 KEY.out.2.2)

end Go.Proofs.Ytbjjfbojcokmgaa.Dv
