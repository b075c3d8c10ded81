/- Parts of a proof: Layer 21: a run, sorted. -/
import Derived.Test.YthmbgbmcdbdecaaGreatG05
import Derived.Test.YthmbgbmcdbdecaaGreatG10
import Derived.Maps.Own
import Derived.Maps.OwnOps
import Derived.Maps.OwnSet
import Derived.Maps.Views
namespace Go.Proofs.YthmbgbmcdbdecaaGreat.Tc
open Go.RowKit Base
set_option linter.unusedVariables false
set_option linter.unusedSimpArgs false
theorem own_set1 {w : World} {B : Nat} {e : TypeId} {sz g n c : Nat} {xs : List Value} (h : w.ownsRow B e sz (.slice (some ⟨g, 0, none⟩) n c) n xs) {i : Nat} (hi : i < xs.length) (u : Value) :
 (w.setCell ⟨g, i, none⟩ u).ownsRow B e sz (.slice (some ⟨g, 0, none⟩) n c) n (xs.set i u) := by
 obtain ⟨h1, h2⟩ := h
 refine ⟨by rw [List.length_set]; exact h1, ?_⟩
 rcases h2 with ⟨h2, _⟩ | ⟨g', cap, cur, hv, hB, hh, hnc, hcm, hcs, ht⟩
 ·cases h2
 ·injection hv with hA _ hc
  injection hA with hA
  injection hA with hg _ _
  subst hg hc
  refine .inr ⟨g, c, cur.setIfInBounds i u, rfl, hB, ?_, hnc, hcm, by rw [Array.size_setIfInBounds]; exact hcs, ?_⟩
  ·simp [World.setCell, Array.getElem?_modify, hh]
  ·rw [Array.toList_setIfInBounds, List.take_set, ht]
theorem flat_set (P R : List Fa) (s f : Fa) : (((((((((((((P ++ s :: R).flatMap factV).set (P.length * 11) (.slice f.A f.keys.length f.c)).set (P.length * 11 + 1) (.int .i64 f.ag.c)).set (P.length * 11 + 2) (.int .i64 f.ag.s0)).set (P.length * 11 + 3) (.int .i64 f.ag.n0)).set (P.length * 11 + 4) (.int .i64 f.ag.x0)).set (P.length * 11 + 5) (.int .i64 f.ag.s1)).set (P.length * 11 + 6) (.int .i64 f.ag.n1)).set (P.length * 11 + 7) (.int .i64 f.ag.x1)).set (P.length * 11 + 8) (.int .i64 f.ag.s2)).set (P.length * 11 + 9) (.int .i64 f.ag.n2)).set (P.length * 11 + 10) (.int .i64 f.ag.x2)) = (P ++ f :: R).flatMap factV := by
 have hl : (P.flatMap factV).length = P.length * 11 := flat_len factV_len P
 rw [List.flatMap_append, List.flatMap_append, List.flatMap_cons, List.flatMap_cons, ← hl]
 generalize P.flatMap factV = X
 generalize R.flatMap factV = Y
 simp [factV, List.set_append_right]
abbrev setFact (w : World) (g o : Nat) (f : Fa) : World := ((((((((((w.setCell ⟨g, o, none⟩ (.slice f.A f.keys.length f.c)).setCell ⟨g, o + 1, none⟩ (.int .i64 f.ag.c)).setCell ⟨g, o + 2, none⟩ (.int .i64 f.ag.s0)).setCell ⟨g, o + 3, none⟩ (.int .i64 f.ag.n0)).setCell ⟨g, o + 4, none⟩ (.int .i64 f.ag.x0)).setCell ⟨g, o + 5, none⟩ (.int .i64 f.ag.s1)).setCell ⟨g, o + 6, none⟩ (.int .i64 f.ag.n1)).setCell ⟨g, o + 7, none⟩ (.int .i64 f.ag.x1)).setCell ⟨g, o + 8, none⟩ (.int .i64 f.ag.s2)).setCell ⟨g, o + 9, none⟩ (.int .i64 f.ag.n2)).setCell ⟨g, o + 10, none⟩ (.int .i64 f.ag.x2)
theorem own_setFact {w : World} {B : Nat} {e : TypeId} {g n c : Nat} {P R : List Fa} {s : Fa} (h : w.ownsRow B e 11 (.slice (some ⟨g, 0, none⟩) n c) n ((P ++ s :: R).flatMap factV)) (f : Fa) :
 (setFact w g (P.length * 11) f).ownsRow B e 11 (.slice (some ⟨g, 0, none⟩) n c) n ((P ++ f :: R).flatMap factV) := by
 have hl := flat_len factV_len (P ++ s :: R)
 simp only [List.length_append, List.length_cons] at hl
 rw [← flat_set P R s f]
 refine own_set1 (own_set1 (own_set1 (own_set1 (own_set1 (own_set1 (own_set1 (own_set1 (own_set1 (own_set1 (own_set1 h ?_ _) ?_ _) ?_ _) ?_ _) ?_ _) ?_ _) ?_ _) ?_ _) ?_ _) ?_ _) ?_ _
 all_goals ((try simp only [List.length_set]); omega)
theorem setFact_other {w : World} {g o k : Nat} {f : Fa} (hk : k ≠ g) : (setFact w g o f).heap[k]? = w.heap[k]? := by
 unfold setFact
 repeat rw [Below.heap_setCell _ ⟨g, _, none⟩ _ k hk]
theorem below_setFact {B : Nat} {a w : World} {g o : Nat} (f : Fa) (h : Below B a w) (hg : B ≤ g) : Below B a (setFact w g o f) :=
 ((((((((((h.setCell (p := ⟨g, o, none⟩) hg _).setCell (p := ⟨g, o + 1, none⟩) hg _).setCell (p := ⟨g, o + 2, none⟩) hg _).setCell (p := ⟨g, o + 3, none⟩) hg _).setCell (p := ⟨g, o + 4, none⟩) hg _).setCell (p := ⟨g, o + 5, none⟩) hg _).setCell (p := ⟨g, o + 6, none⟩) hg _).setCell (p := ⟨g, o + 7, none⟩) hg _).setCell (p := ⟨g, o + 8, none⟩) hg _).setCell (p := ⟨g, o + 9, none⟩) hg _).setCell (p := ⟨g, o + 10, none⟩) hg _
theorem setFact_size (w : World) (g o : Nat) (f : Fa) : (setFact w g o f).heap.size = w.heap.size := by unfold setFact; simp
theorem row_setFact {w : World} {B : Nat} {A : Option Addr} {vs : List Value} {g o : Nat} {f : Fa} (h : Row w B A vs) (hne : ∀ b off, A = some ⟨b, off, none⟩ → vs ≠ [] → g ≠ b) : Row (setFact w g o f) B A vs := by
 rcases h with h | ⟨b, off, e, hb, hc⟩
 ·exact .inl h
 ·by_cases h0 : vs = []
  ·exact .inl h0
  ·refine .inr ⟨b, off, e, hb, fun i v hv => ?_⟩
   have := hc i v hv
   rw [← this]
   exact World.cell?_of_block (a := ⟨b, off + i, none⟩) (setFact_other (fun hh => hne b off e h0 hh.symm))
theorem FaAp.setFact {w : World} {g o n c : Nat} {f f' : Fa} (h : FaAp w (.slice (some ⟨g, 0, none⟩) n c) f) : FaAp (setFact w g o f') (.slice (some ⟨g, 0, none⟩) n c) f := by
 refine ⟨?_, h.2⟩
 rw [setFact_size]
 exact row_setFact h.1 (fun b off e hne hh => h.2 b off e hne (by rw [hh]; rfl))
theorem FasOwn.set {w : World} {B g n c : Nat} {P R : List Fa} {s f : Fa} (h : FasOwn w B (.slice (some ⟨g, 0, none⟩) n c) (P ++ s :: R)) (hf : FaAp w (.slice (some ⟨g, 0, none⟩) n c) f) :
 FasOwn (Tc.setFact w g (P.length * 11) f) B (.slice (some ⟨g, 0, none⟩) n c) (P ++ f :: R) := by
 obtain ⟨h1, h2⟩ := h
 obtain ⟨A', c', e⟩ := own_formK h1
 have hn : n = (P ++ s :: R).length := by injection e
 have hl : (P ++ f :: R).length = (P ++ s :: R).length := by simp
 refine ⟨?_, fun x hx => ?_⟩
 ·rw [hl]
  rw [← hn] at h1 ⊢
  exact own_setFact h1 f
 ·rcases List.mem_append.1 hx with hx | hx
  ·exact (h2 x (List.mem_append_left _ hx)).setFact
  ·rcases List.mem_cons.1 hx with rfl | hx
   ·exact hf.setFact
   ·exact (h2 x (List.mem_append_right _ (List.mem_cons_of_mem _ hx))).setFact
theorem FasOwn.addr {w : World} {B n c : Nat} {A : Option Addr} {l : List Fa} (h : FasOwn w B (.slice A n c) l) (hpos : 0 < l.length) : ∃ g, A = some ⟨g, 0, none⟩ ∧ B ≤ g ∧ g < w.heap.size := by
 rcases h.1.2 with ⟨_, h0⟩ | ⟨g, cap, cur, hv, hB, hh, _⟩
 ·omega
 ·injection hv with hA _ _
  refine ⟨g, hA, hB, ?_⟩
  rcases Nat.lt_or_ge g w.heap.size with h1 | h1
  ·exact h1
  ·rw [Array.getElem?_eq_none h1] at hh; cases hh
theorem FasOwn.cells {w : World} {B g n c : Nat} {l : List Fa} (h : FasOwn w B (.slice (some ⟨g, 0, none⟩) n c) l) (k : Nat) (hk : k < l.length) : w.cell? ⟨g, k * 11, none⟩ = some (.slice l[k].A l[k].keys.length l[k].c) ∧ w.cell? ⟨g, k * 11 + 1, none⟩ = some (.int .i64 l[k].ag.c) ∧ w.cell? ⟨g, k * 11 + 2, none⟩ = some (.int .i64 l[k].ag.s0) ∧ w.cell? ⟨g, k * 11 + 3, none⟩ = some (.int .i64 l[k].ag.n0) ∧ w.cell? ⟨g, k * 11 + 4, none⟩ = some (.int .i64 l[k].ag.x0) ∧ w.cell? ⟨g, k * 11 + 5, none⟩ = some (.int .i64 l[k].ag.s1) ∧ w.cell? ⟨g, k * 11 + 6, none⟩ = some (.int .i64 l[k].ag.n1) ∧ w.cell? ⟨g, k * 11 + 7, none⟩ = some (.int .i64 l[k].ag.x1) ∧ w.cell? ⟨g, k * 11 + 8, none⟩ = some (.int .i64 l[k].ag.s2) ∧ w.cell? ⟨g, k * 11 + 9, none⟩ = some (.int .i64 l[k].ag.n2) ∧ w.cell? ⟨g, k * 11 + 10, none⟩ = some (.int .i64 l[k].ag.x2) := by
 obtain ⟨b, off, e, hb, hc⟩ := h.fas.cells k hk
 injection e with e
 injection e with e1 e2 _
 subst e1 e2
 simp only [Nat.zero_add] at hc
 exact hc
theorem FasOwn.frz {w : World} {B g n c : Nat} {l : List Fa} (h : FasOwn w B (.slice (some ⟨g, 0, none⟩) n c) l) (k : Nat) : w.frozen? ⟨g, k * 11, none⟩ = false ∧ w.frozen? ⟨g, k * 11 + 1, none⟩ = false ∧ w.frozen? ⟨g, k * 11 + 2, none⟩ = false ∧ w.frozen? ⟨g, k * 11 + 3, none⟩ = false ∧ w.frozen? ⟨g, k * 11 + 4, none⟩ = false ∧ w.frozen? ⟨g, k * 11 + 5, none⟩ = false ∧ w.frozen? ⟨g, k * 11 + 6, none⟩ = false ∧ w.frozen? ⟨g, k * 11 + 7, none⟩ = false ∧ w.frozen? ⟨g, k * 11 + 8, none⟩ = false ∧ w.frozen? ⟨g, k * 11 + 9, none⟩ = false ∧ w.frozen? ⟨g, k * 11 + 10, none⟩ = false := by
 rcases h.1.2 with ⟨h0, _⟩ | ⟨g', cap, cur, hv, hB, hh, _⟩
 ·cases h0
 ·injection hv with hA _ _
  injection hA with hA
  injection hA with hg _ _
  subst hg
  have hf : ∀ i, w.frozen? ⟨g, i, none⟩ = false := fun i => by simp [World.frozen?, hh]
  exact ⟨hf _, hf _, hf _, hf _, hf _, hf _, hf _, hf _, hf _, hf _, hf _⟩
theorem FasOwn.mid {w : World} {B g n c : Nat} {P R : List Fa} {s : Fa} (h : FasOwn w B (.slice (some ⟨g, 0, none⟩) n c) (P ++ s :: R)) : w.cell? ⟨g, P.length * 11, none⟩ = some (.slice s.A s.keys.length s.c) ∧ w.cell? ⟨g, P.length * 11 + 1, none⟩ = some (.int .i64 s.ag.c) ∧ w.cell? ⟨g, P.length * 11 + 2, none⟩ = some (.int .i64 s.ag.s0) ∧ w.cell? ⟨g, P.length * 11 + 3, none⟩ = some (.int .i64 s.ag.n0) ∧ w.cell? ⟨g, P.length * 11 + 4, none⟩ = some (.int .i64 s.ag.x0) ∧ w.cell? ⟨g, P.length * 11 + 5, none⟩ = some (.int .i64 s.ag.s1) ∧ w.cell? ⟨g, P.length * 11 + 6, none⟩ = some (.int .i64 s.ag.n1) ∧ w.cell? ⟨g, P.length * 11 + 7, none⟩ = some (.int .i64 s.ag.x1) ∧ w.cell? ⟨g, P.length * 11 + 8, none⟩ = some (.int .i64 s.ag.s2) ∧ w.cell? ⟨g, P.length * 11 + 9, none⟩ = some (.int .i64 s.ag.n2) ∧ w.cell? ⟨g, P.length * 11 + 10, none⟩ = some (.int .i64 s.ag.x2) := by
 have := h.cells P.length (by simp)
 rw [List.getElem_append_right (Nat.le_refl _)] at this
 simpa using this
theorem cmpN_swap : ∀ a b : List Nat, cmpN b a = - cmpN a b
 | [], [] => rfl
 | [], _ :: _ => rfl
 | _ :: _, [] => rfl
 | a :: x, b :: y => by
  rw [cmpN, cmpN, cmpN_swap x y]
  by_cases h1 : a < b
  ·have : ¬ b < a := by omega
   simp [h1, this]
  ·by_cases h2 : b < a <;> simp [h1, h2]
theorem cmpN_refl : ∀ a : List Nat, cmpN a a = 0
 | [] => rfl
 | a :: x => by rw [cmpN, cmpN_refl x]; simp
theorem cmpN_eq : ∀ {a b : List Nat}, cmpN a b = 0 → a = b
 | [], [], _ => rfl
 | [], _ :: _, h => by cases h
 | _ :: _, [], h => by cases h
 | a :: x, b :: y, h => by
  rw [cmpN] at h
  by_cases h1 : a < b
  ·simp [h1] at h
  ·by_cases h2 : b < a
   ·simp [h1, h2] at h
   ·simp [h1, h2] at h
    rw [cmpN_eq h]
    have : a = b := by omega
    rw [this]
theorem cmpN_trans : ∀ {a b c : List Nat}, cmpN a b ≤ 0 → cmpN b c ≤ 0 → cmpN a c ≤ 0
 | [], [], _, _, h => h
 | [], _ :: _, [], _, _ => by simp [cmpN]
 | [], _ :: _, _ :: _, _, _ => by simp [cmpN]
 | _ :: _, [], _, h, _ => by simp [cmpN] at h
 | _ :: _, _ :: _, [], _, h => by simp [cmpN] at h
 | a :: x, b :: y, c :: z, h1, h2 => by
  rw [cmpN] at h1 h2 ⊢
  by_cases e1 : a < b
  ·by_cases e2 : b < c
   ·have : a < c := by omega
    simp [this]
   ·by_cases e3 : c < b
    ·simp [e2, e3] at h2
    ·have : a < c := by omega
     simp [this]
  ·by_cases e4 : b < a
   ·simp [e1, e4] at h1
   ·have e5 : a = b := by omega
    subst e5
    simp at h1
    by_cases e2 : a < c
    ·simp [e2]
    ·by_cases e3 : c < a
     ·simp [e2, e3] at h2
     ·simp [e2, e3] at h2 ⊢
      exact cmpN_trans h1 h2
def SortedF (l : List Fa) : Prop := l.Pairwise fun a b => cmpN a.keys b.keys ≤ 0
theorem sorted_ins {P S : List Fa} {f : Fa} (h : SortedF (P ++ S)) (hS : ∀ x ∈ S, 0 < cmpN x.keys f.keys) (hP : P = [] ∨ ∃ P' p, P = P' ++ [p] ∧ cmpN p.keys f.keys ≤ 0) : SortedF (P ++ f :: S) := by
 unfold SortedF at *
 rw [List.pairwise_append] at h ⊢
 obtain ⟨h1, h2, h3⟩ := h
 have hSf : ∀ x ∈ S, cmpN f.keys x.keys ≤ 0 := fun x hx => by
  have := hS x hx
  rw [cmpN_swap x.keys f.keys]
  omega
 have hPf : ∀ x ∈ P, cmpN x.keys f.keys ≤ 0 := by
  rcases hP with rfl | ⟨P', p, rfl, hp⟩
  ·simp
  ·intro x hx
   rcases List.mem_append.1 hx with hx | hx
   ·rw [List.pairwise_append] at h1
    exact cmpN_trans (h1.2.2 x hx p (by simp)) hp
   ·rw [List.mem_singleton.1 hx]; exact hp
 refine ⟨h1, List.pairwise_cons.2 ⟨hSf, h2⟩, fun a ha b hb => ?_⟩
 rcases List.mem_cons.1 hb with rfl | hb
 ·exact hPf a ha
 ·exact h3 a ha b hb
theorem perm_ins (P S Z : List Fa) (f : Fa) : (P ++ f :: (S ++ Z)).Perm (P ++ S ++ f :: Z) := by
 rw [List.append_assoc]
 exact List.Perm.append_left P List.perm_middle.symm
def SortRet (ps : List (List Nat × Ag)) (w : World) (e : Ending) (w' : World) : Prop := ∃ (v : Value) (l : List Fa), e = .returned v ∧ (l.map pl).Perm ps ∧ SortedF l ∧ FasOwn w' w.heap.size v l ∧ KeysFrom w.heap.size l ∧ Below w.heap.size w w'
set_option maxRecDepth 100000 in
set_option maxHeartbeats 4000000 in
theorem runsort_any (A : Option Addr) (l : List Fa) (c : Nat) (w : World) (hn : l.length ≤ 1000000) (hk : ∀ f ∈ l, f.keys.length ≤ 1000000) (hr : FasAt w w.heap.size A l) :
 Calls Tryz.prog 83 #[.slice A l.length c] w (SortRet (l.map pl) w) := by
 have HYes := kp (show ∀ v l' w', (l'.map pl).Perm (l.map pl) → SortedF l' → FasOwn w' w.heap.size v l' → KeysFrom w.heap.size l' → Below w.heap.size w w' → SortRet (l.map pl) w (.returned v) w' from fun v l' w' h1 h2 h3 h4 hb => ⟨v, l', rfl, h1, h2, h3, h4, hb⟩)
 have HC := kp (factclone_any A l c w hn hk hr)
 have HCmp := kp factcmp_any
 have Hk := kp hk
 clear hr hk
 generalize hQ : SortRet (l.map pl) w = Q at *
 clear hQ
 obtain ⟨n, hN⟩ : ∃ n, l.length = n := ⟨_, rfl⟩
 rw [hN] at hn HC ⊢
 have Hn := kp hN
 clear hN
 go_enter Tryz.func83, Tryz.ntmps83
 go_wp2_with fail
 refine HC.out.mono ?_
 rintro e w1 ⟨v, l1, rfl, hpl1, hown1, hkf1, hb1⟩
 have Hkf1 := kp hkf1
 clear hkf1
 obtain ⟨A1, c1, rfl⟩ := hown1.form
 have hl1 : l1.length = n := by rw [← Hn.out, ← List.length_map (f := pl), hpl1, List.length_map]
 rw [hl1] at hown1 ⊢
 have Hpl1 := kp (show ∀ l' : List Fa, l'.Perm l1 → (l'.map pl).Perm (l.map pl) from fun l' h => by rw [← hpl1]; exact h.map pl)
 have Hl1 := kp hl1
 have Hown1 := kp hown1
 have Hb1 := kp hb1
 have HKs := kp (show ∀ l' : List Fa, l'.Perm l1 → ∀ f ∈ l', f.keys.length ≤ 1000000 from fun l' hp f hf => by
  obtain ⟨f', hf', e⟩ := List.mem_map.1 ((Hpl1.out l' hp).mem_iff.1 (List.mem_map_of_mem (f := pl) hf))
  have e2 : f'.keys = f.keys := congrArg Prod.fst e
  rw [← e2]
  exact Hk.out f' hf')
 clear hpl1 hl1 hown1 hb1 HC
 go_wp2_with fail
 go_loopw [4] (fun v4 wr => ∃ (i : Nat) (l' : List Fa), v4 = .int .i64 i ∧ 1 ≤ i ∧ (i ≤ n ∨ i = 1) ∧ l'.length = n ∧ l'.Perm l1 ∧ SortedF (l'.take i) ∧ FasOwn wr w.heap.size (.slice A1 n c1) l' ∧ Below w.heap.size w wr) (fun v4 _ => n - (intOf v4).toNat)
 case atStart =>
  refine ⟨1, l1, rfl, Nat.le_refl _, .inr rfl, Hl1.out, List.Perm.refl _, ?_, Hown1.out, Hb1.out⟩
  rcases l1 with _ | ⟨a, l1⟩
  ·exact List.Pairwise.nil
  ·exact List.pairwise_singleton _ _
 case round =>
  obtain ⟨i, l', rfl, hi1, hin, hll, hperm, hsort, hown, hbe⟩ := hrel
  have Hll := kp hll
  have Hperm := kp hperm
  have Hsort := kp hsort
  have Hown := kp hown
  have Hbe := kp hbe
  clear hll hperm hsort hown hbe
  by_cases hlt : i < n
  ·have hil : i < l'.length := by rw [Hll.out]; exact hlt
   obtain ⟨g, rfl, hBg, hgl⟩ := Hown.out.addr (by omega)
   obtain ⟨c0, c1, c2, c3, c4, c5, c6, c7, c8, c9, c10⟩ := Hown.out.cells i hil
   have hkk := HKs.out l' Hperm.out _ (List.getElem_mem hil)
   have Hfa := kp (Hown.out.2 _ (List.getElem_mem hil))
   obtain ⟨X, Z, hX, hXl, hXt⟩ : ∃ X Z, l' = X ++ (l'[i]'hil) :: Z ∧ X.length = i ∧ l'.take i = X := ⟨l'.take i, l'.drop (i + 1), by rw [← List.drop_eq_getElem_cons hil, List.take_append_drop], by rw [List.length_take]; omega, rfl⟩
   have HX := kp hX
   have HXl := kp hXl
   have HXs := kp (show SortedF X by rw [← hXt]; exact Hsort.out)
   generalize (l'[i]'hil) = f at *
   clear hX hXl hXt
   have hbG := (Below.refl wr.heap.size wr).alloc (Nat.le_refl _) (.cells #[.slice f.A f.keys.length f.c, .int .i64 f.ag.c, .int .i64 f.ag.s0, .int .i64 f.ag.n0, .int .i64 f.ag.x0, .int .i64 f.ag.s1, .int .i64 f.ag.n1, .int .i64 f.ag.x1, .int .i64 f.ag.s2, .int .i64 f.ag.n2, .int .i64 f.ag.x2] 78)
   have HBg := kp (Box.new wr 78 #[.slice f.A f.keys.length f.c, .int .i64 f.ag.c, .int .i64 f.ag.s0, .int .i64 f.ag.n0, .int .i64 f.ag.x0, .int .i64 f.ag.s1, .int .i64 f.ag.n1, .int .i64 f.ag.x1, .int .i64 f.ag.s2, .int .i64 f.ag.n2, .int .i64 f.ag.x2])
   have Hb2 := kp (Hbe.out.trans (hbG.mono Hbe.out.size))
   have Hown2 := kp (Hown.out.below hbG)
   have Hfa2 := kp (Hfa.out.below hbG)
   clear hbG Hfa
   have hi0 : (0 : Int) ≤ (i : Int) := by omega
   have hi1 : (i : Int) < (n : Int) := by omega
   have HgF := kp (show g ≠ wr.heap.size by omega)
   go_upto_region 6 with fail
   clear c0 c1 c2 c3 c4 c5 c6 c7 c8 c9 c10
   generalize hgF : wr.heap.size = gF at *
   clear hgF
   generalize wr.alloc (.cells #[.slice f.A f.keys.length f.c, .int .i64 f.ag.c, .int .i64 f.ag.s0, .int .i64 f.ag.n0, .int .i64 f.ag.x0, .int .i64 f.ag.s1, .int .i64 f.ag.n1, .int .i64 f.ag.x1, .int .i64 f.ag.s2, .int .i64 f.ag.n2, .int .i64 f.ag.x2] 78) = W2 at *
   go_wp2_with fail
   go_loopw [6] (fun v6 wr => ∃ (P S : List Fa) (st : Fa), v6 = .int .i64 P.length ∧ X = P ++ S ∧ FasOwn wr w.heap.size (.slice (some ⟨g, 0, none⟩) n c1) (P ++ st :: (S ++ Z)) ∧ (∀ x ∈ S, 0 < cmpN x.keys f.keys) ∧ Box wr gF 78 #[.slice f.A f.keys.length f.c, .int .i64 f.ag.c, .int .i64 f.ag.s0, .int .i64 f.ag.n0, .int .i64 f.ag.x0, .int .i64 f.ag.s1, .int .i64 f.ag.n1, .int .i64 f.ag.x1, .int .i64 f.ag.s2, .int .i64 f.ag.n2, .int .i64 f.ag.x2] ∧ FaAp wr (.slice (some ⟨g, 0, none⟩) n c1) f ∧ Below w.heap.size w wr) (fun v6 _ => (intOf v6).toNat)
   case atStart => exact ⟨X, [], f, by rw [HXl.out], by simp, by rw [List.nil_append, ← HX.out]; exact Hown2.out, by simp, HBg.out, Hfa2.out, Hb2.out⟩
   case round =>
    obtain ⟨P, S, st, rfl, hXX, hownr, hS, hbg, hfar, hber⟩ := hrel
    have HXX := kp hXX
    have Hownr := kp hownr
    have HS := kp hS
    have Hbg := kp hbg
    have Hfar := kp hfar
    have Hber := kp hber
    have Hll2 := kp (show (P ++ st :: (S ++ Z)).length = n by rw [← Hll.out, HX.out, HXX.out]; simp; omega)
    obtain ⟨d0, d1, d2, d3, d4, d5, d6, d7, d8, d9, d10⟩ := Box.eleven hbg
    clear hXX hownr hS hbg hfar hber
    have Htail := kp (show (P = [] ∨ ∃ P' p, P = P' ++ [p] ∧ cmpN p.keys f.keys ≤ 0) → ∀ wx, FasOwn wx w.heap.size (.slice (some ⟨g, 0, none⟩) n c1) (P ++ st :: (S ++ Z)) → FaAp wx (.slice (some ⟨g, 0, none⟩) n c1) f → Below w.heap.size w wx → ∃ (i' : Nat) (l2 : List Fa), Value.int .i64 ((i : Int) + 1) = .int .i64 i' ∧ 1 ≤ i' ∧ (i' ≤ n ∨ i' = 1) ∧ l2.length = n ∧ l2.Perm l1 ∧ SortedF (l2.take i') ∧ FasOwn (setFact wx g (P.length * 11) f) w.heap.size (.slice (some ⟨g, 0, none⟩) n c1) l2 ∧ Below w.heap.size w (setFact wx g (P.length * 11) f) from fun hP wx ho hf hb => by
     have hpm := (perm_ins P S Z f)
     refine ⟨i + 1, P ++ f :: (S ++ Z), by simp, by omega, .inl (by omega), ?_, ?_, ?_, ho.set hf, below_setFact f hb hBg⟩
     ·rw [← Hll2.out]; simp
     ·refine hpm.trans ?_
      rw [← HXX.out, ← HX.out]
      exact Hperm.out
     ·have e : (P ++ f :: (S ++ Z)).take (i + 1) = P ++ f :: S := by
       have hlen : (P ++ f :: S).length = i + 1 := by rw [← HXl.out, HXX.out]; simp; omega
       rw [← hlen, show P ++ f :: (S ++ Z) = (P ++ f :: S) ++ Z by simp, List.take_left]
      rw [e]
      exact sorted_ins (by rw [← HXX.out]; exact HXs.out) HS.out hP)
    by_cases hP0 : P = []
    ·have hq0 : decide (0 < P.length) = false := by rw [hP0]; rfl
     have Ht := kp (Htail.out (.inl hP0))
     have hqn : (P.length : Int) < (n : Int) := by have := Hll2.out; simp at this; omega
     clear hP0 Htail
     obtain ⟨r0, r1, r2, r3, r4, r5, r6, r7, r8, r9, r10⟩ := FasOwn.mid (w := wr.drew) Hownr.out
     obtain ⟨z0, z1, z2, z3, z4, z5, z6, z7, z8, z9, z10⟩ := FasOwn.frz (w := wr.drew) Hownr.out P.length
     have Hown3 := kp (show FasOwn wr.drew w.heap.size (.slice (some ⟨g, 0, none⟩) n c1) (P ++ st :: (S ++ Z)) from Hownr.out)
     generalize P.length = q at *
     go_wp2_with fail
     refine wp_region_noPanic ?_
     refine wp_region_T (t := 99) (S := (fun w' => w'.cell? ⟨gF, 0, none⟩ = some (.slice f.A f.keys.length f.c) ∧ w'.cell? ⟨gF, 1, none⟩ = some (.int .i64 f.ag.c) ∧ w'.cell? ⟨gF, 2, none⟩ = some (.int .i64 f.ag.s0) ∧ w'.cell? ⟨gF, 3, none⟩ = some (.int .i64 f.ag.n0) ∧ w'.cell? ⟨gF, 4, none⟩ = some (.int .i64 f.ag.x0) ∧ w'.cell? ⟨gF, 5, none⟩ = some (.int .i64 f.ag.s1) ∧ w'.cell? ⟨gF, 6, none⟩ = some (.int .i64 f.ag.n1) ∧ w'.cell? ⟨gF, 7, none⟩ = some (.int .i64 f.ag.x1) ∧ w'.cell? ⟨gF, 8, none⟩ = some (.int .i64 f.ag.s2) ∧ w'.cell? ⟨gF, 9, none⟩ = some (.int .i64 f.ag.n2) ∧ w'.cell? ⟨gF, 10, none⟩ = some (.int .i64 f.ag.x2))) (by kernel_rfl) ⟨d0, d1, d2, d3, d4, d5, d6, d7, d8, d9, d10⟩ (fun hHeld => ?_)
     refine tk 0 hHeld ?_
     refine tk 1 hHeld ?_
     refine tk 2 hHeld ?_
     refine sk 3 hHeld ?_
     refine sk 4 hHeld ?_
     refine sk 5 hHeld ?_
     refine sk 6 hHeld ?_
     refine sk 7 hHeld ?_
     refine sk 8 hHeld ?_
     refine sk 9 hHeld ?_
     refine sk 10 hHeld ?_
     refine tk 11 hHeld ?_
     refine wpAnyT_done (by kernel_rfl) ?_ _
     try clear hHeld
     refine NoPanic.normal ?_
     have Hf := kp (Ht.out wr.drew Hown3.out Hfar.out Hber.out.drew)
     obtain ⟨d0, d1, d2, d3, d4, d5, d6, d7, d8, d9, d10⟩ := Box.eleven (show Box wr.drew gF _ _ from Hbg.out)
     generalize wr.drew = wx at *
     go_wp2_with fail
     exact ⟨Hf.out, by first | (simp [intOf]; done) | (simp [intOf]; omega)⟩
    ·obtain ⟨P', p, rfl⟩ : ∃ P' p, P = P' ++ [p] := ⟨P.dropLast, P.getLast hP0, (List.dropLast_concat_getLast hP0).symm⟩
     have hpm : p ∈ (P' ++ [p]) ++ st :: (S ++ Z) := by simp
     have hpl : p.keys.length ≤ 1000000 := HKs.out l' Hperm.out p (by rw [HX.out, HXX.out]; simp)
     have hpr := (Hownr.out.2 p hpm).1
     have HCk := kp (show Calls Tryz.prog 52 #[.agg (factC p), .agg (factC f)] wr.drew _ from HCmp.out p f wr.drew hpl hkk hpr Hfar.out.1)
     have Hback := kp (show 0 < cmpN p.keys f.keys → ∀ wx, FasOwn wx w.heap.size (.slice (some ⟨g, 0, none⟩) n c1) ((P' ++ [p]) ++ st :: (S ++ Z)) → FaAp wx (.slice (some ⟨g, 0, none⟩) n c1) p → FaAp wx (.slice (some ⟨g, 0, none⟩) n c1) f → Box wx gF 78 #[.slice f.A f.keys.length f.c, .int .i64 f.ag.c, .int .i64 f.ag.s0, .int .i64 f.ag.n0, .int .i64 f.ag.x0, .int .i64 f.ag.s1, .int .i64 f.ag.n1, .int .i64 f.ag.x1, .int .i64 f.ag.s2, .int .i64 f.ag.n2, .int .i64 f.ag.x2] → g ≠ gF → Below w.heap.size w wx → ∃ (P2 S2 : List Fa) (st2 : Fa), Value.int .i64 (P'.length : Int) = .int .i64 P2.length ∧ X = P2 ++ S2 ∧ FasOwn (setFact wx g ((P' ++ [p]).length * 11) p) w.heap.size (.slice (some ⟨g, 0, none⟩) n c1) (P2 ++ st2 :: (S2 ++ Z)) ∧ (∀ x ∈ S2, 0 < cmpN x.keys f.keys) ∧ Box (setFact wx g ((P' ++ [p]).length * 11) p) gF 78 #[.slice f.A f.keys.length f.c, .int .i64 f.ag.c, .int .i64 f.ag.s0, .int .i64 f.ag.n0, .int .i64 f.ag.x0, .int .i64 f.ag.s1, .int .i64 f.ag.n1, .int .i64 f.ag.x1, .int .i64 f.ag.s2, .int .i64 f.ag.n2, .int .i64 f.ag.x2] ∧ FaAp (setFact wx g ((P' ++ [p]).length * 11) p) (.slice (some ⟨g, 0, none⟩) n c1) f ∧ Below w.heap.size w (setFact wx g ((P' ++ [p]).length * 11) p) from fun hc wx ho hp hf hbx hne hb => by
      refine ⟨P', p :: S, p, rfl, by rw [HXX.out]; simp, ?_, ?_, (setFact_other (fun hh => hne hh.symm)).trans hbx, hf.setFact, below_setFact p hb hBg⟩
      ·have := ho.set hp
       simpa using this
      ·intro x hx
       rcases List.mem_cons.1 hx with rfl | hx
       ·exact hc
       ·exact HS.out x hx)
     have Ht := kp (fun hle => Htail.out (.inr ⟨P', p, rfl, hle⟩))
     have hlen : (P' ++ [p]).length = P'.length + 1 := by simp
     have hqn : (P'.length : Int) + 1 < (n : Int) := by have := Hll2.out; simp at this; omega
     obtain ⟨p0, p1, p2, p3, p4, p5, p6, p7, p8, p9, p10⟩ := FasOwn.mid (P := P') (s := p) (R := st :: (S ++ Z)) (w := wr.drew) (by have := Hownr.out; rw [List.append_assoc] at this; exact this)
     have Hownd := kp (show FasOwn wr.drew w.heap.size (.slice (some ⟨g, 0, none⟩) n c1) ((P' ++ [p]) ++ st :: (S ++ Z)) from Hownr.out)
     have Hpa := kp (Hownr.out.2 p hpm)
     clear hP0 Htail hpm hpl hpr
     rw [hlen] at Hback Ht ⊢
     have hgd : g < wr.heap.size := (Hownr.out.addr (by simp; omega)).elim (fun g' h => by obtain ⟨e, _, h3⟩ := h; injection e with e; injection e with e1; omega)
     have hFd : gF < wr.heap.size := Hbg.out.lt
     have HlenH := kp hlen
     clear hlen
     have hwq : IntKind.i64.wrap (P'.length : Int) = (P'.length : Int) := IntWalk.i64_in _ (by omega)
     have hq0 : (0 : Int) ≤ (P'.length : Int) := by omega
     have hq1 : (P'.length : Int) < (n : Int) := by omega
     by_cases hV : 0 < cmpN p.keys f.keys
     ·have hVd : decide (0 < cmpN p.keys f.keys) = true := decide_eq_true hV
      have HBk := kp (Hback.out hV)
      clear hV Hback Ht
      generalize cmpN p.keys f.keys = V at *
      generalize hqq : P'.length = q at *
      have HqH := kp hqq
      clear hqq
      go_wp2_with fail
      refine wp_region_noPanic ?_
      refine wp_region_T (t := 99) (S := (fun w' => (w'.cell? ⟨g, q * 11, none⟩ = some (.slice p.A p.keys.length p.c) ∧ w'.cell? ⟨g, q * 11 + 1, none⟩ = some (.int .i64 p.ag.c) ∧ w'.cell? ⟨g, q * 11 + 2, none⟩ = some (.int .i64 p.ag.s0) ∧ w'.cell? ⟨g, q * 11 + 3, none⟩ = some (.int .i64 p.ag.n0) ∧ w'.cell? ⟨g, q * 11 + 4, none⟩ = some (.int .i64 p.ag.x0) ∧ w'.cell? ⟨g, q * 11 + 5, none⟩ = some (.int .i64 p.ag.s1) ∧ w'.cell? ⟨g, q * 11 + 6, none⟩ = some (.int .i64 p.ag.n1) ∧ w'.cell? ⟨g, q * 11 + 7, none⟩ = some (.int .i64 p.ag.x1) ∧ w'.cell? ⟨g, q * 11 + 8, none⟩ = some (.int .i64 p.ag.s2) ∧ w'.cell? ⟨g, q * 11 + 9, none⟩ = some (.int .i64 p.ag.n2) ∧ w'.cell? ⟨g, q * 11 + 10, none⟩ = some (.int .i64 p.ag.x2)) ∧ (w'.cell? ⟨gF, 0, none⟩ = some (.slice f.A f.keys.length f.c) ∧ w'.cell? ⟨gF, 1, none⟩ = some (.int .i64 f.ag.c) ∧ w'.cell? ⟨gF, 2, none⟩ = some (.int .i64 f.ag.s0) ∧ w'.cell? ⟨gF, 3, none⟩ = some (.int .i64 f.ag.n0) ∧ w'.cell? ⟨gF, 4, none⟩ = some (.int .i64 f.ag.x0) ∧ w'.cell? ⟨gF, 5, none⟩ = some (.int .i64 f.ag.s1) ∧ w'.cell? ⟨gF, 6, none⟩ = some (.int .i64 f.ag.n1) ∧ w'.cell? ⟨gF, 7, none⟩ = some (.int .i64 f.ag.x1) ∧ w'.cell? ⟨gF, 8, none⟩ = some (.int .i64 f.ag.s2) ∧ w'.cell? ⟨gF, 9, none⟩ = some (.int .i64 f.ag.n2) ∧ w'.cell? ⟨gF, 10, none⟩ = some (.int .i64 f.ag.x2)))) (by kernel_rfl) ⟨⟨p0, p1, p2, p3, p4, p5, p6, p7, p8, p9, p10⟩, ⟨d0, d1, d2, d3, d4, d5, d6, d7, d8, d9, d10⟩⟩ (fun hHeld => ?_)
      refine tk 0 hHeld ?_
      refine tk 1 hHeld ?_
      refine tk 2 hHeld ?_
      refine tk 3 hHeld ?_
      refine tk 4 hHeld ?_
      refine tk 5 hHeld ?_
      refine tk 6 hHeld ?_
      refine tk 7 hHeld ?_
      refine tk 8 hHeld ?_
      refine wpAnyT_one (i := 9) (o := ?oq9) (by kernel_rfl) ?aq9 (by decide) (fun K hK => ?bq9)
      case aq9 => (simp only [List.getElem?_toArray, List.getElem?_cons_succ, List.getElem?_cons_zero]; exact rfl)
      go_simp
      refine HCk.out.mono ?_
      rintro e wc ⟨rfl, hwc⟩
      have Hwc := kp hwc
      clear hwc
      refine hK.out _ _ ?_ (fun hHeld2 => ?_)
      ·have e1 : ∀ i, wc.cell? ⟨g, i, none⟩ = wr.drew.cell? ⟨g, i, none⟩ := fun i => World.cell?_of_block (a := ⟨g, i, none⟩) (by rw [Hwc.out]; exact (Below.heap_alloc _ _ _ (by simp; omega)).trans (Below.heap_alloc _ _ _ hgd))
       have e2 : ∀ i, wc.cell? ⟨gF, i, none⟩ = wr.drew.cell? ⟨gF, i, none⟩ := fun i => World.cell?_of_block (a := ⟨gF, i, none⟩) (by rw [Hwc.out]; exact (Below.heap_alloc _ _ _ (by simp; omega)).trans (Below.heap_alloc _ _ _ hFd))
       simp only [e1, e2]
       exact ⟨⟨p0, p1, p2, p3, p4, p5, p6, p7, p8, p9, p10⟩, ⟨d0, d1, d2, d3, d4, d5, d6, d7, d8, d9, d10⟩⟩
      clear hK K hHeld
      have hHeld := hHeld2
      clear hHeld2
      try simp only [Act.put, List.setIfInBounds_toArray, List.set_cons_zero, List.set_cons_succ]
      refine tk 10 hHeld ?_
      refine tk 11 hHeld ?_
      refine wpAnyT_done (by kernel_rfl) ?_ _
      try clear hHeld
      refine NoPanic.normal ?_
      have hbc := (show Below wr.drew.heap.size wr.drew wc by rw [Hwc.out]; exact ((Below.refl _ _).alloc (Nat.le_refl _) _).alloc (by simp) _)
      have Hownc := kp (Hownd.out.below hbc)
      have Hpac := kp (FaAp.below (w := wr.drew) Hpa.out hbc)
      have Hfac := kp (FaAp.below (w := wr.drew) Hfar.out hbc)
      have Hboxc := kp (Box.under (w := wr.drew) Hbg.out hbc)
      have Hbec := kp (Hber.out.drew.trans (hbc.mono Hber.out.size))
      clear hbc d0 d1 d2 d3 d4 d5 d6 d7 d8 d9 d10 p0 p1 p2 p3 p4 p5 p6 p7 p8 p9 p10
      obtain ⟨d0, d1, d2, d3, d4, d5, d6, d7, d8, d9, d10⟩ := Box.eleven Hboxc.out
      have hrr := Hownc.out.mid
      have hzz := Hownc.out.frz (q + 1)
      rw [HlenH.out] at hrr
      obtain ⟨r0, r1, r2, r3, r4, r5, r6, r7, r8, r9, r10⟩ := hrr
      obtain ⟨z0, z1, z2, z3, z4, z5, z6, z7, z8, z9, z10⟩ := hzz
      have hpp := FasOwn.mid (P := P') (s := p) (R := st :: (S ++ Z)) (w := wc) (by have := Hownc.out; rw [List.append_assoc] at this; exact this)
      rw [HqH.out] at hpp
      obtain ⟨p0, p1, p2, p3, p4, p5, p6, p7, p8, p9, p10⟩ := hpp
      have Hf := kp (HBk.out wc Hownc.out Hpac.out Hfac.out Hboxc.out HgF.out Hbec.out)
      go_wp2_with fail
      exact ⟨Hf.out, by first | (simp [intOf]; done) | (simp [intOf]; omega)⟩
     ·have hVd : decide (0 < cmpN p.keys f.keys) = false := decide_eq_false hV
      have HBk := kp (Ht.out (by omega))
      clear hV Hback Ht
      generalize cmpN p.keys f.keys = V at *
      generalize hqq : P'.length = q at *
      have HqH := kp hqq
      clear hqq
      go_wp2_with fail
      refine wp_region_noPanic ?_
      refine wp_region_T (t := 99) (S := (fun w' => (w'.cell? ⟨g, q * 11, none⟩ = some (.slice p.A p.keys.length p.c) ∧ w'.cell? ⟨g, q * 11 + 1, none⟩ = some (.int .i64 p.ag.c) ∧ w'.cell? ⟨g, q * 11 + 2, none⟩ = some (.int .i64 p.ag.s0) ∧ w'.cell? ⟨g, q * 11 + 3, none⟩ = some (.int .i64 p.ag.n0) ∧ w'.cell? ⟨g, q * 11 + 4, none⟩ = some (.int .i64 p.ag.x0) ∧ w'.cell? ⟨g, q * 11 + 5, none⟩ = some (.int .i64 p.ag.s1) ∧ w'.cell? ⟨g, q * 11 + 6, none⟩ = some (.int .i64 p.ag.n1) ∧ w'.cell? ⟨g, q * 11 + 7, none⟩ = some (.int .i64 p.ag.x1) ∧ w'.cell? ⟨g, q * 11 + 8, none⟩ = some (.int .i64 p.ag.s2) ∧ w'.cell? ⟨g, q * 11 + 9, none⟩ = some (.int .i64 p.ag.n2) ∧ w'.cell? ⟨g, q * 11 + 10, none⟩ = some (.int .i64 p.ag.x2)) ∧ (w'.cell? ⟨gF, 0, none⟩ = some (.slice f.A f.keys.length f.c) ∧ w'.cell? ⟨gF, 1, none⟩ = some (.int .i64 f.ag.c) ∧ w'.cell? ⟨gF, 2, none⟩ = some (.int .i64 f.ag.s0) ∧ w'.cell? ⟨gF, 3, none⟩ = some (.int .i64 f.ag.n0) ∧ w'.cell? ⟨gF, 4, none⟩ = some (.int .i64 f.ag.x0) ∧ w'.cell? ⟨gF, 5, none⟩ = some (.int .i64 f.ag.s1) ∧ w'.cell? ⟨gF, 6, none⟩ = some (.int .i64 f.ag.n1) ∧ w'.cell? ⟨gF, 7, none⟩ = some (.int .i64 f.ag.x1) ∧ w'.cell? ⟨gF, 8, none⟩ = some (.int .i64 f.ag.s2) ∧ w'.cell? ⟨gF, 9, none⟩ = some (.int .i64 f.ag.n2) ∧ w'.cell? ⟨gF, 10, none⟩ = some (.int .i64 f.ag.x2)))) (by kernel_rfl) ⟨⟨p0, p1, p2, p3, p4, p5, p6, p7, p8, p9, p10⟩, ⟨d0, d1, d2, d3, d4, d5, d6, d7, d8, d9, d10⟩⟩ (fun hHeld => ?_)
      refine tk 0 hHeld ?_
      refine tk 1 hHeld ?_
      refine tk 2 hHeld ?_
      refine tk 3 hHeld ?_
      refine tk 4 hHeld ?_
      refine tk 5 hHeld ?_
      refine tk 6 hHeld ?_
      refine tk 7 hHeld ?_
      refine tk 8 hHeld ?_
      refine wpAnyT_one (i := 9) (o := ?om9) (by kernel_rfl) ?am9 (by decide) (fun K hK => ?bm9)
      case am9 => (simp only [List.getElem?_toArray, List.getElem?_cons_succ, List.getElem?_cons_zero]; exact rfl)
      go_simp
      refine HCk.out.mono ?_
      rintro e wc ⟨rfl, hwc⟩
      have Hwc := kp hwc
      clear hwc
      refine hK.out _ _ ?_ (fun hHeld2 => ?_)
      ·have e1 : ∀ i, wc.cell? ⟨g, i, none⟩ = wr.drew.cell? ⟨g, i, none⟩ := fun i => World.cell?_of_block (a := ⟨g, i, none⟩) (by rw [Hwc.out]; exact (Below.heap_alloc _ _ _ (by simp; omega)).trans (Below.heap_alloc _ _ _ hgd))
       have e2 : ∀ i, wc.cell? ⟨gF, i, none⟩ = wr.drew.cell? ⟨gF, i, none⟩ := fun i => World.cell?_of_block (a := ⟨gF, i, none⟩) (by rw [Hwc.out]; exact (Below.heap_alloc _ _ _ (by simp; omega)).trans (Below.heap_alloc _ _ _ hFd))
       simp only [e1, e2]
       exact ⟨⟨p0, p1, p2, p3, p4, p5, p6, p7, p8, p9, p10⟩, ⟨d0, d1, d2, d3, d4, d5, d6, d7, d8, d9, d10⟩⟩
      clear hK K hHeld
      have hHeld := hHeld2
      clear hHeld2
      try simp only [Act.put, List.setIfInBounds_toArray, List.set_cons_zero, List.set_cons_succ]
      refine tk 10 hHeld ?_
      refine tk 11 hHeld ?_
      refine wpAnyT_done (by kernel_rfl) ?_ _
      try clear hHeld
      refine NoPanic.normal ?_
      have hbc := (show Below wr.drew.heap.size wr.drew wc by rw [Hwc.out]; exact ((Below.refl _ _).alloc (Nat.le_refl _) _).alloc (by simp) _)
      have Hownc := kp (Hownd.out.below hbc)
      have Hpac := kp (FaAp.below (w := wr.drew) Hpa.out hbc)
      have Hfac := kp (FaAp.below (w := wr.drew) Hfar.out hbc)
      have Hboxc := kp (Box.under (w := wr.drew) Hbg.out hbc)
      have Hbec := kp (Hber.out.drew.trans (hbc.mono Hber.out.size))
      clear hbc d0 d1 d2 d3 d4 d5 d6 d7 d8 d9 d10 p0 p1 p2 p3 p4 p5 p6 p7 p8 p9 p10
      obtain ⟨d0, d1, d2, d3, d4, d5, d6, d7, d8, d9, d10⟩ := Box.eleven Hboxc.out
      have hrr := Hownc.out.mid
      have hzz := Hownc.out.frz (q + 1)
      rw [HlenH.out] at hrr
      obtain ⟨r0, r1, r2, r3, r4, r5, r6, r7, r8, r9, r10⟩ := hrr
      obtain ⟨z0, z1, z2, z3, z4, z5, z6, z7, z8, z9, z10⟩ := hzz
      have Hf := kp (HBk.out wc Hownc.out Hfac.out Hbec.out)
      go_wp2_with fail
      exact ⟨Hf.out, by first | (simp [intOf]; done) | (simp [intOf]; omega)⟩
  ·have Hfin := kp (show SortedF l' by have := Hsort.out; rw [List.take_of_length_le (by rw [Hll.out]; omega)] at this; exact this)
   go_wp2_with fail
   exact HYes.out _ l' _ (Hpl1.out l' Hperm.out) Hfin.out Hown.out (fun f hf => Hkf1.out f (Hperm.out.mem_iff.1 hf)) Hbe.out
end Go.Proofs.YthmbgbmcdbdecaaGreat.Tc
