/- DeviceSafe: what holds at its loops. -/
import Derived.Test.YtbjjfbojcokmgaaSf1
import Derived.Test.YtbjjfbojcokmgaaPl9
import Derived.Deep.RegionLaw
namespace Go.Proofs.Ytbjjfbojcokmgaa.deviceSafe
open Go.RowKit Base Dv
set_option linter.unusedVariables false
set_option linter.unusedSimpArgs false

/-- the rows of what was written since the sync: a box of 24 slices -/
structure Writ (w : World) (gw : Nat) (F : Nat → Prop) (vs : List Value) (P : List (Nat × ByteArray)) : Prop where
  box : Box w gw 35 vs.toArray
  len : vs.length = 24
  own : ∀ i (h : i < vs.length), w.ownsRow (gw + 1) 9 1 vs[i] (atP P i).length ((atP P i).map .string)
  apart : ∀ i j (hi : i < vs.length) (hj : j < vs.length), i ≠ j → Apart vs[i] vs[j]
  free : ∀ i (h : i < vs.length) k, vs[i].ownBlock = some k → ¬ F k
  gF : ¬ F gw
theorem Writ.turn {w w' : World} {gw : Nat} {F F' : Nat → Prop} {vs : List Value} {P : List (Nat × ByteArray)} (h : Writ w gw F vs P) (ht : Turn F w w') (hF : ∀ k, F' k → F k ∨ w.heap.size ≤ k) : Writ w' gw F' vs P :=
  ⟨h.box.turn ht h.gF, h.len, fun i hi => own_turn (h.own i hi) ht (fun k hk => h.free i hi k hk), h.apart, fun i hi k hk e => (hF k e).elim (h.free i hi k hk) (fun e => by have := ((h.own i hi).lt k hk).2; omega), fun e => (hF gw e).elim h.gF (fun e => by have := h.box.lt; omega)⟩
theorem Writ.below {w w' : World} {gw : Nat} {F : Nat → Prop} {vs : List Value} {P : List (Nat × ByteArray)} (h : Writ w gw F vs P) (hb : Below w.heap.size w w') : Writ w' gw F vs P :=
  h.turn (.below hb) (fun k hk => .inl hk)
/-- one write more -/
theorem Writ.app {w w' : World} {gw : Nat} {F : Nat → Prop} {vs : List Value} {P : List (Nat × ByteArray)} (h : Writ w gw F vs P) (hF : ∀ k, F k → k < w.heap.size) (i : Nat) (hi : i < vs.length) {v' : Value} {x : ByteArray}
    (happ : App w w' vs[i] v') (hown : w'.ownsRow (gw + 1) 9 1 v' ((atP P i).length + 1) ((atP P i).map .string ++ [.string x])) : Writ (w'.setCell ⟨gw, i, none⟩ v') gw F (vs.set i v') (P ++ [(i, x)]) := by
  have hb' : Box w' gw 35 vs.toArray := App.box happ h.box (h.own i hi) (by omega)
  have ht : Turn (· = gw) w' (w'.setCell ⟨gw, i, none⟩ v') := Turn.cell (Turn.refl _ _) _ _
  have hat : (atP (P ++ [(i, x)]) i) = atP P i ++ [x] := by rw [atP_snoc, if_pos rfl]
  have hne : ∀ j, j ≠ i → atP (P ++ [(i, x)]) j = atP P j := fun j hj => by rw [atP_snoc, if_neg (fun e => hj e.symm)]
  refine ⟨?_, by simp [h.len], fun j hj => ?_, fun j k hj hk hjk => ?_, fun j hj k hk => ?_, h.gF⟩
  · have := hb'.set i v'
    simpa using this
  · have hj' : j < vs.length := by simpa using hj
    by_cases e : j = i
    · subst e
      rw [List.getElem_set_self, hat, List.length_append, List.map_append]
      exact own_turn hown ht (fun k hk e => by have := (hown.lt k hk).1; omega)
    · rw [List.getElem_set_ne (fun e' => e e'.symm), hne j e]
      have ho : w'.ownsRow (gw + 1) 9 1 vs[j] (atP P j).length ((atP P j).map .string) := App.other happ (h.own j hj') (h.apart j i hj' hi e)
      exact own_turn ho ht (fun k hk e => by have := (ho.lt k hk).1; omega)
  · have hj' : j < vs.length := by simpa using hj
    have hk' : k < vs.length := by simpa using hk
    by_cases e1 : j = i
    · subst e1
      rw [List.getElem_set_self, List.getElem_set_ne hjk]
      exact (App.apart happ (h.own k hk') (h.apart k j hk' hj' (fun e => hjk e.symm))).symm
    · rw [List.getElem_set_ne (fun e' => e1 e'.symm)]
      by_cases e2 : k = i
      · subst e2
        rw [List.getElem_set_self]
        exact App.apart happ (h.own j hj') (h.apart j k hj' hk' e1)
      · rw [List.getElem_set_ne (fun e' => e2 e'.symm)]
        exact h.apart j k hj' hk' hjk
  · have hj' : j < vs.length := by simpa using hj
    by_cases e : j = i
    · subst e
      rw [List.getElem_set_self] at hk
      rcases happ.lies with hl | ⟨m, hl, hm⟩
      · exact h.free j hj' k (hl ▸ hk)
      · rw [hl] at hk
        injection hk with hk
        subst hk
        intro hf
        have := hF _ hf
        omega
    · rw [List.getElem_set_ne (fun e' => e e'.symm)] at hk
      exact h.free j hj' k hk
theorem Writ.cell {w : World} {gw : Nat} {F : Nat → Prop} {vs : List Value} {P : List (Nat × ByteArray)} (h : Writ w gw F vs P) (i : Nat) (hi : i < 24) :
    ∃ (hv : i < vs.length) (A : Option Addr) (c : Nat), vs[i] = .slice A (atP P i).length c ∧ w.cell? ⟨gw, i, none⟩ = some (.slice A (atP P i).length c) ∧ w.ownsRow (gw + 1) 9 1 (.slice A (atP P i).length c) (atP P i).length ((atP P i).map .string) := by
  have hv : i < vs.length := by rw [h.len]; exact hi
  obtain ⟨A, c, e⟩ := own_form (h.own i hv)
  refine ⟨hv, A, c, e, ?_, e ▸ h.own i hv⟩
  rw [h.box.cell i, ← e]
  simp [hv]

/-- what was wanted: the sectors as they were behind the sync -/
structure Wnt (w : World) (gw : Nat) (F : Nat → Prop) (gq b c : Nat) (v2 : Value) (sec : List ByteArray) : Prop where
  box : Box w gq 38 #[.slice (some ⟨b, 0, none⟩) 24 c, v2]
  q : gq < gw
  qF : ¬ F gq
  bl : b < gw
  bF : ¬ F b
  row : ∀ i v, (sec.map Value.string)[i]? = some v → w.cell? ⟨b, i, none⟩ = some v
theorem Wnt.keep {w w' : World} {gw : Nat} {F F' : Nat → Prop} {gq b c : Nat} {v2 : Value} {sec : List ByteArray} (h : Wnt w gw F gq b c v2 sec) (hk : ∀ k, k < gw → ¬ F k → w'.heap[k]? = w.heap[k]?) (hF : ∀ k, F' k → F k ∨ gw ≤ k) : Wnt w' gw F' gq b c v2 sec :=
  ⟨(hk gq h.q h.qF).trans h.box, h.q, fun e => (hF _ e).elim h.qF (fun e => by have := h.q; omega), h.bl, fun e => (hF _ e).elim h.bF (fun e => by have := h.bl; omega), fun i v hv => by
    have := h.row i v hv
    unfold World.cell? at this ⊢
    rw [hk b h.bl h.bF]
    exact this⟩
theorem Wnt.turn {w w' : World} {gw : Nat} {F F' : Nat → Prop} {gq b c : Nat} {v2 : Value} {sec : List ByteArray} (h : Wnt w gw F gq b c v2 sec) (ht : Turn F w w') (hg : gw ≤ w.heap.size) (hF : ∀ k, F' k → F k ∨ w.heap.size ≤ k) : Wnt w' gw F' gq b c v2 sec :=
  h.keep (fun k hk hf => ht.block k (by omega) hf) (fun k hk => (hF k hk).elim .inl (fun e => .inr (by omega)))
theorem Wnt.below {w w' : World} {gw : Nat} {F : Nat → Prop} {gq b c : Nat} {v2 : Value} {sec : List ByteArray} (h : Wnt w gw F gq b c v2 sec) (hb : Below w.heap.size w w') (hg : gw ≤ w.heap.size) : Wnt w' gw F gq b c v2 sec :=
  h.turn (.below hb) hg (fun k hk => .inl hk)
theorem Wnt.cell {w : World} {gw : Nat} {F : Nat → Prop} {gq b c : Nat} {v2 : Value} {sec : List ByteArray} (h : Wnt w gw F gq b c v2 sec) (i : Nat) (hi : i < sec.length) : w.cell? ⟨b, i, none⟩ = some (.string sec[i]) :=
  h.row i _ (by rw [List.getElem?_map, List.getElem?_eq_getElem hi]; rfl)

/-- what holds at each round of the first writes -/
def Inv1 (B d gs : Nat) (w : World) (j : Nat) (wr : World) : Prop := ∃ (s : Dv) (F : Nat → Prop) (pv : Value), DevAt wr B F d gs 24 pv s ∧ s.sec.length = 24 ∧ s.off = false ∧ s.fuse = 0 ∧ s.steps ≤ j ∧ s.puts.length ≤ j ∧ Below w.heap.size w wr
/-- what holds at each round of the further writes -/
def Inv2 (B d gs gw gq b c : Nat) (v2 : Value) (sec : List ByteArray) (w : World) (j : Nat) (wr : World) : Prop :=
  ∃ (s : Dv) (F : Nat → Prop) (pv : Value) (vs : List Value), DevAt wr B F d gs 24 pv s ∧ s.sec = sec ∧ s.off = false ∧ s.fuse = 0 ∧ s.steps ≤ j + 100 ∧ s.puts.length ≤ j ∧ Wnt wr gw F gq b c v2 sec ∧ Writ wr gw F vs s.puts ∧ Below w.heap.size w wr
/-- a write, where the power does not go -/
theorem writeR_yes {s : Dv} {i : Int} {x : ByteArray} (hx : x.size = 128) (hf : s.fuse = 0) (h : readyD s i = 0) : writeR s i x = (writeD s i.toNat x, 0) := by
  unfold writeR
  rw [if_pos h, if_pos hx, if_neg (by omega)]
theorem writeR_no {s : Dv} {i : Int} {x : ByteArray} (h : readyD s i ≠ 0) : writeR s i x = (s, readyD s i) := by
  unfold writeR
  rw [if_neg h]
theorem writeD_facts (s : Dv) (i : Nat) (x : ByteArray) (hf : s.fuse = 0) : (writeD s i x).sec = s.sec ∧ (writeD s i x).off = s.off ∧ (writeD s i x).fuse = 0 ∧ (writeD s i x).steps = s.steps + 1 ∧ (writeD s i x).puts = s.puts ++ [(i, x)] := by
  unfold writeD
  rw [stepD_go (by omega)]
  exact ⟨rfl, rfl, by show s.fuse - 1 = 0; omega, rfl, rfl⟩
theorem Inv1.next {B d gs j : Nat} {w wr w' : World} {s : Dv} {F F' : Nat → Prop} {pv' : Value} (x : ByteArray) (i : Int) (hx : x.size = 128) (hd : DevAt w' B F' d gs 24 pv' (writeR s i x).1) (h1 : s.sec.length = 24) (h2 : s.off = false) (h3 : s.fuse = 0) (h4 : s.steps ≤ j) (h5 : s.puts.length ≤ j) (hb : Below w.heap.size w w') : Inv1 B d gs w (j + 1) w' := by
  by_cases h : readyD s i = 0
  · rw [writeR_yes hx h3 h] at hd
    obtain ⟨e1, e2, e3, e4, e5⟩ := writeD_facts s i.toNat x h3
    exact ⟨_, F', pv', hd, by rw [e1]; exact h1, by rw [e2]; exact h2, e3, by rw [e4]; omega, by rw [e5, List.length_append]; simp; omega, hb⟩
  · rw [writeR_no h] at hd
    exact ⟨_, F', pv', hd, h1, h2, h3, by show s.steps ≤ _; omega, by show s.puts.length ≤ _; omega, hb⟩
theorem Inv1.skip {B d gs j : Nat} {w wr w' : World} (h : Inv1 B d gs w j wr) (hb : Below wr.heap.size wr w') : Inv1 B d gs w (j + 1) w' := by
  obtain ⟨s, F, pv, hd, h1, h2, h3, h4, h5, h6⟩ := h
  exact ⟨s, F, pv, hd.below hb, h1, h2, h3, by omega, by omega, h6.trans (hb.mono h6.size)⟩

theorem info_strs : (Try.prog.info? 35).map (fun i => (i.zero, i.size, i.bytes)) = some (some (.slice none 0 0), 1, 24) := by kernel_rfl
theorem own_box {w : World} {base : Nat} {e : TypeId} {g n : Nat} {xs : List Value} (h : w.ownsRow base e 1 (.slice (some ⟨g, 0, none⟩) n n) n xs) : Box w g e xs.toArray := by
  rcases h.2 with ⟨hv, _⟩ | ⟨g', cap, cur, hv, _, hh, _, _, hs, ht⟩
  · cases hv
  · injection hv with hA _ hc
    injection hA with hA
    injection hA with hA _ _
    subst hA hc
    unfold Box
    rw [hh, ← ht, List.take_of_length_le (by simp [hs])]
theorem Writ.start {w : World} {gw : Nat} {F : Nat → Prop} (h : Box w gw 35 (List.replicate 24 (Value.slice none 0 0)).toArray) (hF : ∀ k, F k → k < gw) : Writ w gw F (List.replicate 24 (.slice none 0 0)) [] := by
  refine ⟨h, List.length_replicate, fun i hi => ?_, fun i j hi hj _ => ?_, fun i hi k hk => ?_, fun e => Nat.lt_irrefl _ (hF _ e)⟩
  · rw [List.getElem_replicate]
    exact ⟨rfl, .inl ⟨rfl, rfl⟩⟩
  · rw [List.getElem_replicate]
    exact .inl rfl
  · rw [List.getElem_replicate] at hk
    cases hk
/-- the start of the further writes -/
theorem Inv2.start {B d gs gw b c e2 p2 : Nat} {B2 : Option Addr} {w w4 w5 w6 w7 : World} {F : Nat → Prop} {pv : Value} {s : Dv} (hd : DevAt w4 B F d gs 24 pv s) (h : s.sec.length = 24 ∧ s.off = false ∧ s.fuse = 0 ∧ s.steps ≤ 100 ∧ s.puts = [])
    (hb4 : Below w.heap.size w w4) (hb5 : Below w4.heap.size w4 w5) (ho : w5.ownsRow w4.heap.size 9 1 (.slice (some ⟨b, 0, none⟩) 24 c) 24 (s.sec.map .string))
    (h6 : w6 = w5.alloc (.cells #[.slice (some ⟨b, 0, none⟩) 24 c, .slice B2 p2 e2] 38)) (hg : gw = w6.heap.size) (h7 : w7.ownsRow w6.heap.size 35 1 (.slice (some ⟨gw, 0, none⟩) 24 24) 24 (List.replicate 24 (.slice none 0 0))) (hgr : w6.grownBy w7 none) :
    Inv2 B d gs gw w5.heap.size b c (.slice B2 p2 e2) s.sec w 0 w7 := by
  have hb6 : Below w5.heap.size w5 w6 := by rw [h6]; exact (Below.refl _ _).alloc (Nat.le_refl _) _
  have hb7 : Below w6.heap.size w6 w7 := (Below.refl _ _).grown hgr (Nat.le_refl _) (by simp)
  have s5 := hb5.size
  have s6 := hb6.size
  have h56 : w6.heap.size = w5.heap.size + 1 := by rw [h6]; simp
  have hbb := ho.lt b rfl
  have hbx : Box w6 w5.heap.size 38 #[.slice (some ⟨b, 0, none⟩) 24 c, .slice B2 p2 e2] := by rw [h6]; exact Box.new _ _ _
  have h5b := hb5.trans (hb6.mono s5)
  have hw : Writ w7 gw F (List.replicate 24 (.slice none 0 0)) s.puts := by
    rw [h.2.2.2.2]
    exact Writ.start (own_box h7) (fun k hk => by have := (hd.own k hk).2; omega)
  have hn : Wnt w7 gw F w5.heap.size b c (.slice B2 p2 e2) s.sec := by
    refine ⟨hbx.under hb7, by omega, fun e => by have := (hd.own _ e).2; omega, by omega, fun e => by have := (hd.own _ e).2; omega, fun i v hv => ?_⟩
    have hc := ho.cells (g := b) rfl i v hv
    rw [add_at, Nat.zero_add] at hc
    exact cell_keep hb7 (cell_keep hb6 hc)
  exact ⟨s, F, pv, List.replicate 24 (.slice none 0 0), (hd.below h5b).below hb7, rfl, h.2.1, h.2.2.1, by omega, by rw [h.2.2.2.2]; exact Nat.le_refl _, hn, hw, (hb4.trans (h5b.mono hb4.size)).trans (hb7.mono (by have := hb4.size; omega))⟩
/-- a write that was not taken -/
theorem Inv2.no {B d gs gw gq b c j : Nat} {v2 : Value} {sec : List ByteArray} {w W w' : World} {s : Dv} {F F' : Nat → Prop} {pv' : Value} {vs : List Value} (hd : DevAt w' B F' d gs 24 pv' s) (ht : Turn F W w') (hF : ∀ k, F' k → F k ∨ W.heap.size ≤ k)
    (h1 : s.sec = sec) (h2 : s.off = false) (h3 : s.fuse = 0) (h4 : s.steps ≤ j + 100) (h5 : s.puts.length ≤ j) (h6 : Wnt W gw F gq b c v2 sec) (h7 : Writ W gw F vs s.puts) (hb : Below w.heap.size w w') : Inv2 B d gs gw gq b c v2 sec w (j + 1) w' :=
  ⟨s, F', pv', vs, hd, h1, h2, h3, by omega, by omega, h6.turn ht (Nat.le_of_lt h7.box.lt) hF, h7.turn ht hF, hb⟩
/-- a write that was taken, and noted -/
theorem Inv2.app {B d gs gw gq b c j k : Nat} {v2 : Value} {sec : List ByteArray} {w wn w5 : World} {s : Dv} {F' : Nat → Prop} {pv' v' : Value} {vs : List Value} {x : ByteArray} (hd : DevAt wn B F' d gs 24 pv' (writeD s k x))
    (h1 : s.sec = sec) (h2 : s.off = false) (h3 : s.fuse = 0) (h4 : s.steps ≤ j + 100) (h5 : s.puts.length ≤ j) (h6 : Wnt wn gw F' gq b c v2 sec) (h7 : Writ wn gw F' vs s.puts) (hb : Below w.heap.size w wn) (hgw : w.heap.size ≤ gw)
    (hk : k < vs.length) (happ : App wn w5 vs[k] v') (hown : w5.ownsRow (gw + 1) 9 1 v' ((atP s.puts k).length + 1) ((atP s.puts k).map .string ++ [.string x])) : Inv2 B d gs gw gq b c v2 sec w (j + 1) (w5.setCell ⟨gw, k, none⟩ v') := by
  obtain ⟨e1, e2, e3, e4, e5⟩ := writeD_facts s k x h3
  have ho := h7.own k hk
  have hg := happ.grown
  have t1 : Turn (fun i => vs[k].ownBlock = some i) wn w5 := ⟨hg.os, hg.tape, hg.output, hg.size, fun i hi hp => hg.block i hi (fun e => hp e.symm)⟩
  have t2 : Turn (· = gw) w5 (w5.setCell ⟨gw, k, none⟩ v') := Turn.cell (Turn.refl _ _) _ _
  have hb5 := below_own hb ho (by omega) (by have := h7.box.lt; omega) hg
  have hd5 := hd.turn t1 (fun i hi e => h7.free k hk i e hi)
  refine ⟨_, F', pv', vs.set k v', hd5.turn t2 (fun i hi e => h7.gF (e ▸ hi)), by rw [e1]; exact h1, by rw [e2]; exact h2, e3, by rw [e4]; omega, by rw [e5, List.length_append]; simp; omega, ?_, by rw [e5]; exact h7.app (fun i hi => (hd.own i hi).2) k hk happ hown, hb5.setCell (p := ⟨gw, k, none⟩) hgw _⟩
  refine h6.keep (fun i hi hf => ?_) (fun i hi => .inl hi)
  rw [Below.heap_setCell w5 ⟨gw, k, none⟩ v' i (by show i ≠ gw; omega)]
  exact hg.block i (by have := h7.box.lt; omega) (fun e => by have := (ho.lt i e.symm).1; omega)

/-- how many sectors are mixed -/
def Mix (o : Option Nat) (k m : Nat) : Prop := m = 0 ∨ (m = 1 ∧ ∃ t, o = some t ∧ t < k)
theorem Mix.le {o : Option Nat} {k m : Nat} (h : Mix o k m) : m ≤ 1 := by
  rcases h with h | ⟨h, _⟩ <;> omega
theorem Mix.next {o : Option Nat} {k m : Nat} (h : Mix o k m) : Mix o (k + 1) m := by
  rcases h with h | ⟨h, t, e, ht⟩
  · exact .inl h
  · exact .inr ⟨h, t, e, by omega⟩
theorem Mix.zero {o : Option Nat} {k m : Nat} (h : Mix o k m) (ho : o = some k) : m = 0 := by
  rcases h with h | ⟨h, t, e, ht⟩
  · exact h
  · rw [ho] at e
    injection e with e
    omega
theorem Mix.one {o : Option Nat} {k : Nat} (ho : o = some k) : Mix o (k + 1) 1 := .inr ⟨rfl, k, ho, by omega⟩

end Go.Proofs.Ytbjjfbojcokmgaa.deviceSafe
