/- Parts of a proof: Layer 26: facts of one tuple folded. -/
import Derived.Test.YthmbgbmcdbdecaaGreatG05
import Derived.Test.YthmbgbmcdbdecaaGreatG11
import Derived.Test.YthmbgbmcdbdecaaGreatG18
import Derived.Maps.Own
import Derived.Maps.OwnOps
import Derived.Maps.OwnSet
import Derived.Maps.Views
namespace Go.Proofs.YthmbgbmcdbdecaaGreat.Tc
open Go.RowKit Base
set_option linter.unusedVariables false
set_option linter.unusedSimpArgs false
section
variable {P : Program} {ops : Array Oper} {Q : Exit → Act → World → Prop} {md : Region.Mode} {S : World → Prop} {t : Nat}
theorem wpAnyT_two {i j : Nat} {o o' : Oper} {fuel : Nat} {listed : Array Bool} {a : Act} {w : World} (hr : Region.ready md ops listed = [i, j]) (ho : ops[i]? = some o) (ho' : ops[j]? = some o') (hit : i ≠ t) (hjt : j ≠ t)
 (h : ∀ K' : Act → World → Prop, Shut (∀ a w, S w → (S w → wpAnyT P md ops Q S t fuel (listed.setIfInBounds i true) a w) → K' a w) → if Region.wanted o (yielded ops a.tmps) = true then Oper.wp P o a w K' Q else K' (a.put o.dst undef) w)
 (h' : ∀ K' : Act → World → Prop, Shut (∀ a w, S w → (S w → wpAnyT P md ops Q S t fuel (listed.setIfInBounds j true) a w) → K' a w) → if Region.wanted o' (yielded ops a.tmps) = true then Oper.wp P o' a w K' Q else K' (a.put o'.dst undef) w) :
 wpAnyT P md ops Q S t (fuel + 1) listed a w := by
 refine ⟨fun h0 => (by rw [hr] at h0; cases h0), fun k hk => ?_⟩
 rw [hr] at hk
 rcases List.mem_cons.1 hk with rfl | hk
 ·exact wpOp_step ho (fun K' hK => h K' (fun a w hS hW => hK a w ⟨fun _ => hS, hW hS⟩))
 ·obtain rfl : k = j := by simpa using hk
  exact wpOp_step ho' (fun K' hK => h' K' (fun a w hS hW => hK a w ⟨fun _ => hS, hW hS⟩))
end
theorem flat_setAg (P R : List Fa) (s : Fa) (a : Ag) : ((((((((((((P ++ s :: R).flatMap factV).set (P.length * 11 + 1) (.int .i64 a.c)).set (P.length * 11 + 2) (.int .i64 a.s0)).set (P.length * 11 + 3) (.int .i64 a.n0)).set (P.length * 11 + 4) (.int .i64 a.x0)).set (P.length * 11 + 5) (.int .i64 a.s1)).set (P.length * 11 + 6) (.int .i64 a.n1)).set (P.length * 11 + 7) (.int .i64 a.x1)).set (P.length * 11 + 8) (.int .i64 a.s2)).set (P.length * 11 + 9) (.int .i64 a.n2)).set (P.length * 11 + 10) (.int .i64 a.x2)) = (P ++ (⟨s.A, s.keys, s.c, a⟩ : Fa) :: R).flatMap factV := by
 have hl : (P.flatMap factV).length = P.length * 11 := flat_len factV_len P
 rw [List.flatMap_append, List.flatMap_append, List.flatMap_cons, List.flatMap_cons, ← hl]
 generalize P.flatMap factV = X
 generalize R.flatMap factV = Y
 simp [factV, List.set_append_right]
abbrev setAg (w : World) (g o : Nat) (a : Ag) : World := ((((((((((w.setCell ⟨g, o + 1, none⟩ (.int .i64 a.c)).setCell ⟨g, o + 2, none⟩ (.int .i64 a.s0)).setCell ⟨g, o + 3, none⟩ (.int .i64 a.n0)).setCell ⟨g, o + 4, none⟩ (.int .i64 a.x0)).setCell ⟨g, o + 5, none⟩ (.int .i64 a.s1)).setCell ⟨g, o + 6, none⟩ (.int .i64 a.n1)).setCell ⟨g, o + 7, none⟩ (.int .i64 a.x1)).setCell ⟨g, o + 8, none⟩ (.int .i64 a.s2)).setCell ⟨g, o + 9, none⟩ (.int .i64 a.n2)).setCell ⟨g, o + 10, none⟩ (.int .i64 a.x2))
theorem own_setAg {w : World} {B : Nat} {e : TypeId} {g n c : Nat} {P R : List Fa} {s : Fa} (h : w.ownsRow B e 11 (.slice (some ⟨g, 0, none⟩) n c) n ((P ++ s :: R).flatMap factV)) (a : Ag) :
 (setAg w g (P.length * 11) a).ownsRow B e 11 (.slice (some ⟨g, 0, none⟩) n c) n ((P ++ (⟨s.A, s.keys, s.c, a⟩ : Fa) :: R).flatMap factV) := by
 have hl := flat_len factV_len (P ++ s :: R)
 simp only [List.length_append, List.length_cons] at hl
 rw [← flat_setAg P R s a]
 refine own_set1 (own_set1 (own_set1 (own_set1 (own_set1 (own_set1 (own_set1 (own_set1 (own_set1 (own_set1 h ?_ _) ?_ _) ?_ _) ?_ _) ?_ _) ?_ _) ?_ _) ?_ _) ?_ _) ?_ _
 all_goals ((try simp only [List.length_set]); omega)
theorem setAg_other {w : World} {g o k : Nat} {a : Ag} (hk : k ≠ g) : (setAg w g o a).heap[k]? = w.heap[k]? := by
 unfold setAg
 repeat rw [Below.heap_setCell _ ⟨g, _, none⟩ _ k hk]
theorem below_setAg {B : Nat} {x w : World} {g o : Nat} (a : Ag) (h : Below B x w) (hg : B ≤ g) : Below B x (setAg w g o a) :=
 ((((((((((h.setCell (p := ⟨g, o + 1, none⟩) hg _).setCell (p := ⟨g, o + 2, none⟩) hg _).setCell (p := ⟨g, o + 3, none⟩) hg _).setCell (p := ⟨g, o + 4, none⟩) hg _).setCell (p := ⟨g, o + 5, none⟩) hg _).setCell (p := ⟨g, o + 6, none⟩) hg _).setCell (p := ⟨g, o + 7, none⟩) hg _).setCell (p := ⟨g, o + 8, none⟩) hg _).setCell (p := ⟨g, o + 9, none⟩) hg _).setCell (p := ⟨g, o + 10, none⟩) hg _)
theorem setAg_size (w : World) (g o : Nat) (a : Ag) : (setAg w g o a).heap.size = w.heap.size := by unfold setAg; simp
theorem FaAp.setAg {w : World} {g o n c : Nat} {f : Fa} {a : Ag} (h : FaAp w (.slice (some ⟨g, 0, none⟩) n c) f) : FaAp (setAg w g o a) (.slice (some ⟨g, 0, none⟩) n c) f := by
 refine ⟨?_, h.2⟩
 rw [setAg_size]
 rcases h.1 with h1 | ⟨b, off, e, hb, hc⟩
 ·exact .inl h1
 ·by_cases h0 : natV f.keys = []
  ·exact .inl h0
  ·refine .inr ⟨b, off, e, hb, fun i v hv => ?_⟩
   have := hc i v hv
   rw [← this]
   exact World.cell?_of_block (a := ⟨b, off + i, none⟩) (setAg_other (fun hh => h.2 b off e h0 (by subst hh; rfl)))
theorem FasOwn.setAg {w : World} {B g n c : Nat} {P R : List Fa} {s : Fa} (h : FasOwn w B (.slice (some ⟨g, 0, none⟩) n c) (P ++ s :: R)) (a : Ag) :
 FasOwn (Tc.setAg w g (P.length * 11) a) B (.slice (some ⟨g, 0, none⟩) n c) (P ++ (⟨s.A, s.keys, s.c, a⟩ : Fa) :: R) := by
 obtain ⟨h1, h2⟩ := h
 obtain ⟨A', c', e⟩ := own_formK h1
 have hn : n = (P ++ s :: R).length := by injection e
 have hl : (P ++ (⟨s.A, s.keys, s.c, a⟩ : Fa) :: R).length = (P ++ s :: R).length := by simp
 refine ⟨?_, fun x hx => ?_⟩
 ·rw [hl]
  rw [← hn] at h1 ⊢
  exact own_setAg h1 a
 ·rcases List.mem_append.1 hx with hx | hx
  ·exact (h2 x (List.mem_append_left _ hx)).setAg
  ·rcases List.mem_cons.1 hx with rfl | hx
   ·exact FaAp.setAg (f := ⟨s.A, s.keys, s.c, a⟩) (h2 s (List.mem_append_right _ List.mem_cons_self))
   ·exact (h2 x (List.mem_append_right _ (List.mem_cons_of_mem _ hx))).setAg
def foldStep (out : List (List Nat × Ag)) (p : List Nat × Ag) : Option (List (List Nat × Ag)) :=
 match out.getLast? with
 | none => some [p]
 | some q => if cmpN q.1 p.1 = 0 then (joinA q.2 p.2).map fun j => out.dropLast ++ [(q.1, j)] else some (out ++ [p])
def foldP : List (List Nat × Ag) → List (List Nat × Ag) → Option (List (List Nat × Ag))
 | out, [] => some out
 | out, p :: ps => (foldStep out p).bind fun o => foldP o ps
theorem joinA_fit {a b j : Ag} (ha : FitAg a) (hb : FitAg b) (h : joinA a b = some j) : FitAg j := by
 unfold joinA at h
 split at h
 ·injection h with h; subst h; exact hb
 ·split at h
  ·injection h with h; subst h; exact ha
  ·split at h
   ·rename_i hs
    injection h with h
    subst h
    obtain ⟨s0, s1, s2, s3⟩ := hs
    unfold FitAg addAg at *
    unfold fit at *
    refine ⟨s0, s1, ?_, ?_, s2, ?_, ?_, s3, ?_, ?_⟩ <;> (dsimp only; omega)
   ·cases h
theorem keep10 {w w' : World} {g o : Nat} {v1 v2 v3 v4 v5 v6 v7 v8 v9 v10 : Value} (hb : w'.heap[g]? = w.heap[g]?)
 (h : w.cell? ⟨g, o + 1, none⟩ = some v1 ∧ w.cell? ⟨g, o + 2, none⟩ = some v2 ∧ w.cell? ⟨g, o + 3, none⟩ = some v3 ∧ w.cell? ⟨g, o + 4, none⟩ = some v4 ∧ w.cell? ⟨g, o + 5, none⟩ = some v5 ∧ w.cell? ⟨g, o + 6, none⟩ = some v6 ∧ w.cell? ⟨g, o + 7, none⟩ = some v7 ∧ w.cell? ⟨g, o + 8, none⟩ = some v8 ∧ w.cell? ⟨g, o + 9, none⟩ = some v9 ∧ w.cell? ⟨g, o + 10, none⟩ = some v10) : w'.cell? ⟨g, o + 1, none⟩ = some v1 ∧ w'.cell? ⟨g, o + 2, none⟩ = some v2 ∧ w'.cell? ⟨g, o + 3, none⟩ = some v3 ∧ w'.cell? ⟨g, o + 4, none⟩ = some v4 ∧ w'.cell? ⟨g, o + 5, none⟩ = some v5 ∧ w'.cell? ⟨g, o + 6, none⟩ = some v6 ∧ w'.cell? ⟨g, o + 7, none⟩ = some v7 ∧ w'.cell? ⟨g, o + 8, none⟩ = some v8 ∧ w'.cell? ⟨g, o + 9, none⟩ = some v9 ∧ w'.cell? ⟨g, o + 10, none⟩ = some v10 := by
 obtain ⟨h1, h2, h3, h4, h5, h6, h7, h8, h9, h10⟩ := h
 have e : ∀ i, w'.cell? ⟨g, i, none⟩ = w.cell? ⟨g, i, none⟩ := fun i => World.cell?_of_block (a := ⟨g, i, none⟩) hb
 simp only [e]
 exact ⟨h1, h2, h3, h4, h5, h6, h7, h8, h9, h10⟩
theorem ten_other {w : World} {g k : Nat} {v0 v1 v2 v3 v4 v5 v6 v7 v8 v9 : Value} (hk : k ≠ g) : ((((((((((w.setCell ⟨g, 0, none⟩ v0).setCell ⟨g, 1, none⟩ v1).setCell ⟨g, 2, none⟩ v2).setCell ⟨g, 3, none⟩ v3).setCell ⟨g, 4, none⟩ v4).setCell ⟨g, 5, none⟩ v5).setCell ⟨g, 6, none⟩ v6).setCell ⟨g, 7, none⟩ v7).setCell ⟨g, 8, none⟩ v8).setCell ⟨g, 9, none⟩ v9).heap[k]? = w.heap[k]? := by
 repeat rw [Below.heap_setCell _ ⟨g, _, none⟩ _ k hk]
theorem foldStep_nil (p : List Nat × Ag) : foldStep [] p = some [p] := rfl
theorem foldStep_snoc (P : List (List Nat × Ag)) (q p : List Nat × Ag) : foldStep (P ++ [q]) p = if cmpN q.1 p.1 = 0 then (joinA q.2 p.2).map fun j => P ++ [(q.1, j)] else some (P ++ [q] ++ [p]) := by
 unfold foldStep
 simp
def FoldRet (ps : List (List Nat × Ag)) (w : World) (e : Ending) (w' : World) : Prop :=
 match foldP [] ps with
 | none => e = .returned (.tuple #[.slice none 0 0, .int .i64 12]) ∧ Below w.heap.size w w'
 | some qs => ∃ (v : Value) (l : List Fa), e = .returned (.tuple #[v, .int .i64 0]) ∧ l.map pl = qs ∧ FasOwn w' w.heap.size v l ∧ KeysFrom w.heap.size l ∧ Below w.heap.size w w'
theorem FoldRet.no {ps : List (List Nat × Ag)} {w w' : World} (h : foldP [] ps = none) (hb : Below w.heap.size w w') : FoldRet ps w (.returned (.tuple #[.slice none 0 0, .int .i64 12])) w' := by
 unfold FoldRet; rw [h]; exact ⟨rfl, hb⟩
theorem FoldRet.yes {ps qs : List (List Nat × Ag)} {w w' : World} {v : Value} {l : List Fa} (h : foldP [] ps = some qs) (h1 : l.map pl = qs) (h2 : FasOwn w' w.heap.size v l) (h3 : KeysFrom w.heap.size l) (hb : Below w.heap.size w w') : FoldRet ps w (.returned (.tuple #[v, .int .i64 0])) w' := by
 unfold FoldRet; rw [h]; exact ⟨v, l, rfl, h1, h2, h3, hb⟩
set_option maxRecDepth 100000 in
set_option maxHeartbeats 4000000 in
theorem fold_any (A : Option Addr) (l : List Fa) (c : Nat) (w : World) (hn : l.length ≤ 1000000) (hk : ∀ f ∈ l, f.keys.length ≤ 1000000) (hfit : ∀ f ∈ l, FitAg f.ag) (hr : FasAt w w.heap.size A l) :
 Calls Tryz.prog 22 #[.slice A l.length c] w (FoldRet (l.map pl) w) := by
 have HNo := kp (show foldP [] (l.map pl) = none → ∀ w', Below w.heap.size w w' → FoldRet (l.map pl) w (.returned (.tuple #[.slice none 0 0, .int .i64 12])) w' from fun h w' hb => FoldRet.no h hb)
 have HYes := kp (show ∀ v l' w', foldP [] (l.map pl) = some (l'.map pl) → FasOwn w' w.heap.size v l' → KeysFrom w.heap.size l' → Below w.heap.size w w' → FoldRet (l.map pl) w (.returned (.tuple #[v, .int .i64 0])) w' from fun v l' w' h h2 h3 hb => FoldRet.yes h rfl h2 h3 hb)
 have Hr := kp hr
 have Hk := kp hk
 have Hfit := kp hfit
 have HC := kp factclone_any
 have HCmp := kp factcmp_any
 have HJ := kp join_any
 obtain ⟨i0, ti0, tz0, tz1, tz2⟩ := info_parts info_fact
 clear hr hk hfit
 generalize hQ : FoldRet (l.map pl) w = Q at *
 clear hQ
 obtain ⟨n, hN⟩ : ∃ n, l.length = n := ⟨_, rfl⟩
 rw [hN] at hn ⊢
 have Hn := kp hN
 clear hN
 go_enter Tryz.func22, Tryz.ntmps22
 go_wp2_with fail
 go_loopw [4, 12] (fun v4 v12 wr => ∃ (k : Nat) (out : List Fa) (A' : Option Addr) (c' : Nat), k ≤ n ∧ v12 = .int .i64 k ∧ v4 = .slice A' out.length c' ∧ out.length ≤ k ∧ foldP [] (l.map pl) = foldP (out.map pl) ((l.drop k).map pl) ∧ (∀ f ∈ out, FitAg f.ag) ∧ (∀ f ∈ out, f.keys.length ≤ 1000000) ∧ FasOwn wr w.heap.size (.slice A' out.length c') out ∧ Below w.heap.size w wr) (fun _ v12 _ => n - (intOf v12).toNat)
 case atStart => exact ⟨0, [], none, 0, Nat.zero_le _, rfl, rfl, Nat.le_refl _, rfl, (fun f hf => by cases hf), (fun f hf => by cases hf), ⟨own_nil _ _ _ _, (fun f hf => by cases hf)⟩, Below.refl _ _⟩
 case round =>
  obtain ⟨k, out, A', c', hk, rfl, rfl, hol, hfo, hof, hok, hown, hbe⟩ := hrel
  have Hfo := kp hfo
  have Hof := kp hof
  have Hok := kp hok
  have Hown := kp hown
  have Hbe := kp hbe
  clear hfo hof hok hown hbe
  by_cases hlt : k < n
  ·have hkl : k < l.length := by rw [Hn.out]; exact hlt
   have hfs := (Hr.out.below Hbe.out).more Hbe.out.size
   obtain ⟨b, off, rfl, hb, c0, c1, c2, c3, c4, c5, c6, c7, c8, c9, c10⟩ := hfs.cells k hkl
   have hf := hfs.keys _ (List.getElem_mem hkl)
   have Hkb := kp (show ∀ b off, (l[k]'hkl).A = some ⟨b, off, none⟩ → natV (l[k]'hkl).keys ≠ [] → b < w.heap.size from fun b off e hne => by
    rcases Hr.out.keys _ (List.getElem_mem hkl) with h | ⟨b', off', e', hb', _⟩
    ·exact absurd h hne
    ·rw [e] at e'; injection e' with e'; injection e' with e1; omega)
   have Hdr := kp (show (l.drop k).map pl = pl (l[k]'hkl) :: (l.drop (k + 1)).map pl by rw [List.drop_eq_getElem_cons hkl]; rfl)
   have hkk := Hk.out _ (List.getElem_mem hkl)
   have Hff := kp (Hfit.out _ (List.getElem_mem hkl))
   generalize (l[k]'hkl) = f at *
   have hbG := (Below.refl wr.heap.size wr).alloc (Nat.le_refl _) (.cells (factC f) 78)
   have HBg := kp (Box.new wr 78 (factC f))
   have Hb2 := kp (Hbe.out.trans (hbG.mono Hbe.out.size))
   have Hown2 := kp (Hown.out.below hbG)
   have Hf := kp ((hf.below hbG).more hbG.size)
   clear hfs hf hbG
   have hi0 : (0 : Int) ≤ (k : Int) := by omega
   have hi1 : (k : Int) < (n : Int) := by omega
   go_upto_region 5 with fail
   clear c0 c1 c2 c3 c4 c5 c6 c7 c8 c9 c10
   generalize hgF : wr.heap.size = gF at *
   have HgF := kp hgF
   clear hgF
   generalize wr.alloc (.cells (factC f) 78) = W2 at *
   obtain ⟨a0, a1, a2, a3, a4, a5, a6, a7, a8, a9, a10⟩ := Box.eleven HBg.out
   have HapfF := kp (show FaAp W2 (.slice A' out.length c') f from ⟨Hf.out, fun b off e hne ho => by have h1 := (Hown2.out.1.lt b ho).1; have h2 := Hkb.out b off e hne; omega⟩)
   have Hown2a := kp Hown2.out.1
   have Hap2 := kp Hown2.out.2
   have HNx := kp (show ∀ o : List Fa, foldStep (out.map pl) (pl f) = some (o.map pl) → foldP [] (l.map pl) = foldP (o.map pl) ((l.drop (k + 1)).map pl) from fun o h => by rw [Hfo.out, Hdr.out, foldP, h]; rfl)
   have HNn := kp (show foldStep (out.map pl) (pl f) = none → foldP [] (l.map pl) = none from fun h => by rw [Hfo.out, Hdr.out, foldP, h]; rfl)
   have Hkk := kp hkk
   obtain ⟨m, hm⟩ : ∃ m, out.length = m := ⟨_, rfl⟩
   have Hm := kp hm
   rw [hm] at hol HapfF Hown2a Hap2 Hown ⊢
   have hm1 : m + 1 < 1048576 * 64 := by omega
   clear hm
   by_cases h0 : out = []
   ·have hm0 : m = 0 := by have := Hm.out; rw [h0] at this; exact this.symm
    have Hst := kp (show foldStep (out.map pl) (pl f) = some ((out ++ [f]).map pl) by rw [h0]; rfl)
    have hmi : ((m : Int) == 0) = true := by rw [hm0]; rfl
    clear hm0 h0
    go_wp2_with fail
    refine wp_region_noPanic ?_
    refine wp_region_T (t := 99) (S := (fun _ => True)) (by kernel_rfl) trivial (fun hHeld => ?_)
    refine tk 0 hHeld ?_
    refine tk 1 hHeld ?_
    refine tk 2 hHeld ?_
    refine sk 3 hHeld ?_
    refine sk 4 hHeld ?_
    refine sk 5 hHeld ?_
    refine sk 6 hHeld ?_
    refine sk 7 hHeld ?_
    refine sk 8 hHeld ?_
    refine sk 9 hHeld ?_
    refine sk 10 hHeld ?_
    refine tk 11 hHeld ?_
    refine wpAnyT_done (by kernel_rfl) ?_ _
    try clear hHeld
    refine NoPanic.normal ?_
    have Hown3 := kp (show W2.drew.ownsRow w.heap.size 78 11 (.slice A' m c') m (out.flatMap factV) from Hown2a.out)
    have Hap3 := kp (show ∀ x ∈ out, FaAp W2.drew (.slice A' m c') x from fun x hx => Hap2.out x hx)
    have Hap3f := kp (show FaAp W2.drew (.slice A' m c') f from HapfF.out)
    have Hbe3 := kp Hb2.out.drew
    obtain ⟨d0, d1, d2, d3, d4, d5, d6, d7, d8, d9, d10⟩ := Box.eleven (show Box W2.drew gF _ _ from HBg.out)
    generalize W2.drew = wx at *
    go_wp2_with (at_builtin; refine wpList_appK rfl (.tmp 30) (.tmp 32) 32 rfl w.heap.size 78 i0 _ 11 104 Tryz.underlying32 ti0 tz0 tz1 tz2 rfl (by decide) wx (factC f) rfl (fact_one _) (.slice A' m c') m (out.flatMap factV) rfl Hown3.out rfl hm1 (by decide) Hbe3.out.size ?_; intro v5 w5 hown5 happ5; obtain ⟨A5, c5, h5⟩ := own_formK hown5; subst h5; have Hown5 := kp hown5; have Hb5 := kp (happ5.belowK Hbe3.out Hown3.out (Nat.le_refl _) Hbe3.out.size); have Hap5 := kp (show ∀ x ∈ out ++ [f], FaAp w5 (.slice A5 (m + 1) c5) x from fun x hx => by (rcases List.mem_append.1 hx with hx | hx; exact (Hap3.out x hx).app happ5; rw [List.mem_singleton.1 hx]; exact Hap3f.out.app happ5)); clear hown5 happ5)
    refine ⟨⟨k + 1, out ++ [f], A5, c5, by omega, by go_num, by rw [List.length_append, Hm.out]; rfl, by rw [List.length_append, Hm.out]; simp; omega, HNx.out _ Hst.out, ?_, ?_, ⟨?_, ?_⟩, Hb5.out⟩, by simp [intOf]; omega⟩
    ·intro x hx
     rcases List.mem_append.1 hx with hx | hx
     ·exact Hof.out x hx
     ·rw [List.mem_singleton.1 hx]; exact Hff.out
    ·intro x hx
     rcases List.mem_append.1 hx with hx | hx
     ·exact Hok.out x hx
     ·rw [List.mem_singleton.1 hx]; exact Hkk.out
    ·rw [List.length_append, Hm.out, List.flatMap_append]
     exact Hown5.out
    ·rw [List.length_append, Hm.out]
     exact Hap5.out
   ·obtain ⟨P, p, rfl⟩ : ∃ P p, out = P ++ [p] := ⟨out.dropLast, out.getLast h0, (List.dropLast_concat_getLast h0).symm⟩
    clear h0
    obtain ⟨g, rfl, hBg, hgl⟩ := Hown.out.addr (by simp)
    have hpr := (Hap2.out p (by simp)).1
    have HCk := kp (show Calls Tryz.prog 52 #[.agg (factC p), .agg (factC f)] W2.drew _ from HCmp.out p f W2.drew (Hok.out p (by simp)) Hkk.out hpr Hf.out)
    have hSn := foldStep_snoc (P.map pl) (pl p) (pl f)
    have hgd : g < W2.heap.size := (Hown2a.out.lt g rfl).2
    have hFd : gF < W2.heap.size := HBg.out.lt
    have hmq : m = P.length + 1 := by rw [← Hm.out]; simp
    have Hw2 := kp (show FasOwn W2 w.heap.size (.slice (some ⟨g, 0, none⟩) m c') (P ++ [p]) from ⟨by rw [Hm.out]; exact Hown2a.out, Hap2.out⟩)
    obtain ⟨p0, p1, p2, p3, p4, p5, p6, p7, p8, p9, p10⟩ := FasOwn.mid (P := P) (s := p) (R := []) (w := W2.drew) Hw2.out
    obtain ⟨q, hq⟩ : ∃ q, P.length = q := ⟨_, rfl⟩
    rw [hq] at p0 p1 p2 p3 p4 p5 p6 p7 p8 p9 p10 hmq
    have Hq := kp hq
    subst hmq
    clear hq hpr Hown
    have hwq : IntKind.i64.wrap (q : Int) = (q : Int) := IntWalk.i64_in _ (by omega)
    have hq0 : (0 : Int) ≤ (q : Int) := by omega
    have hq1 : (q : Int) < (q : Int) + 1 := by omega
    have hmi : ((((q + 1 : Nat)) : Int) == 0) = false := by simp; omega
    have hmi2 : (((q : Int) + 1) == 0) = false := by simp; omega
    by_cases hV : cmpN p.keys f.keys = 0
    ·have hVd : (cmpN p.keys f.keys == 0) = true := by rw [hV]; rfl
     have HSt := kp (show foldStep ((P ++ [p]).map pl) (pl f) = (joinA p.ag f.ag).map fun j => P.map pl ++ [(p.keys, j)] by rw [List.map_append]; exact hSn.trans (if_pos hV))
     clear hV hSn
     generalize cmpN p.keys f.keys = V at *
     go_wp2_with fail
     refine wp_region_noPanic ?_
     refine wp_region_T (t := 99) (S := (fun w' => (w'.cell? ⟨g, q * 11, none⟩ = some (.slice p.A p.keys.length p.c) ∧ w'.cell? ⟨g, q * 11 + 1, none⟩ = some (.int .i64 p.ag.c) ∧ w'.cell? ⟨g, q * 11 + 2, none⟩ = some (.int .i64 p.ag.s0) ∧ w'.cell? ⟨g, q * 11 + 3, none⟩ = some (.int .i64 p.ag.n0) ∧ w'.cell? ⟨g, q * 11 + 4, none⟩ = some (.int .i64 p.ag.x0) ∧ w'.cell? ⟨g, q * 11 + 5, none⟩ = some (.int .i64 p.ag.s1) ∧ w'.cell? ⟨g, q * 11 + 6, none⟩ = some (.int .i64 p.ag.n1) ∧ w'.cell? ⟨g, q * 11 + 7, none⟩ = some (.int .i64 p.ag.x1) ∧ w'.cell? ⟨g, q * 11 + 8, none⟩ = some (.int .i64 p.ag.s2) ∧ w'.cell? ⟨g, q * 11 + 9, none⟩ = some (.int .i64 p.ag.n2) ∧ w'.cell? ⟨g, q * 11 + 10, none⟩ = some (.int .i64 p.ag.x2)) ∧ (w'.cell? ⟨gF, 0, none⟩ = some (.slice f.A f.keys.length f.c) ∧ w'.cell? ⟨gF, 1, none⟩ = some (.int .i64 f.ag.c) ∧ w'.cell? ⟨gF, 2, none⟩ = some (.int .i64 f.ag.s0) ∧ w'.cell? ⟨gF, 3, none⟩ = some (.int .i64 f.ag.n0) ∧ w'.cell? ⟨gF, 4, none⟩ = some (.int .i64 f.ag.x0) ∧ w'.cell? ⟨gF, 5, none⟩ = some (.int .i64 f.ag.s1) ∧ w'.cell? ⟨gF, 6, none⟩ = some (.int .i64 f.ag.n1) ∧ w'.cell? ⟨gF, 7, none⟩ = some (.int .i64 f.ag.x1) ∧ w'.cell? ⟨gF, 8, none⟩ = some (.int .i64 f.ag.s2) ∧ w'.cell? ⟨gF, 9, none⟩ = some (.int .i64 f.ag.n2) ∧ w'.cell? ⟨gF, 10, none⟩ = some (.int .i64 f.ag.x2)))) (by kernel_rfl) ⟨⟨p0, p1, p2, p3, p4, p5, p6, p7, p8, p9, p10⟩, ⟨a0, a1, a2, a3, a4, a5, a6, a7, a8, a9, a10⟩⟩ (fun hHeld => ?_)
     refine tk 0 hHeld ?_
     refine tk 1 hHeld ?_
     refine tk 2 hHeld ?_
     refine tk 3 hHeld ?_
     refine tk 4 hHeld ?_
     refine tk 5 hHeld ?_
     refine tk 6 hHeld ?_
     refine tk 7 hHeld ?_
     refine tk 8 hHeld ?_
     refine wpAnyT_one (i := 9) (o := ?oq9) (by kernel_rfl) ?aq9 (by decide) (fun K hK => ?bq9)
     case aq9 => (simp only [List.getElem?_toArray, List.getElem?_cons_succ, List.getElem?_cons_zero]; exact rfl)
     go_simp
     refine HCk.out.mono ?_
     rintro e wc ⟨rfl, hwc⟩
     have Hwc := kp hwc
     clear hwc
     refine hK.out _ _ ?_ (fun hHeld2 => ?_)
     ·have e1 : ∀ i, wc.cell? ⟨g, i, none⟩ = W2.drew.cell? ⟨g, i, none⟩ := fun i => World.cell?_of_block (a := ⟨g, i, none⟩) (by rw [Hwc.out]; exact (Below.heap_alloc _ _ _ (by simp; omega)).trans (Below.heap_alloc _ _ _ hgd))
      have e2 : ∀ i, wc.cell? ⟨gF, i, none⟩ = W2.drew.cell? ⟨gF, i, none⟩ := fun i => World.cell?_of_block (a := ⟨gF, i, none⟩) (by rw [Hwc.out]; exact (Below.heap_alloc _ _ _ (by simp; omega)).trans (Below.heap_alloc _ _ _ hFd))
      simp only [e1, e2]
      exact ⟨⟨p0, p1, p2, p3, p4, p5, p6, p7, p8, p9, p10⟩, ⟨a0, a1, a2, a3, a4, a5, a6, a7, a8, a9, a10⟩⟩
     clear hK K hHeld
     have hHeld := hHeld2
     clear hHeld2
     try simp only [Act.put, List.setIfInBounds_toArray, List.set_cons_zero, List.set_cons_succ]
     refine tk 10 hHeld ?_
     refine tk 11 hHeld ?_
     refine wpAnyT_done (by kernel_rfl) ?_ _
     try clear hHeld
     refine NoPanic.normal ?_
     have hbc := (show Below W2.drew.heap.size W2.drew wc by rw [Hwc.out]; exact ((Below.refl _ _).alloc (Nat.le_refl _) _).alloc (by simp) _)
     have Hownc := kp (show wc.ownsRow w.heap.size 78 11 (.slice (some ⟨g, 0, none⟩) (q + 1) c') (q + 1) ((P ++ [p]).flatMap factV) from own_below (w := W2.drew) Hown2a.out hbc)
     have Hapc := kp (show ∀ x ∈ P ++ [p], FaAp wc (.slice (some ⟨g, 0, none⟩) (q + 1) c') x from fun x hx => FaAp.below (w := W2.drew) (Hap2.out x hx) hbc)
     have Hapcf := kp (show FaAp wc (.slice (some ⟨g, 0, none⟩) (q + 1) c') f from FaAp.below (w := W2.drew) HapfF.out hbc)
     have Hboxc := kp (Box.under (w := W2.drew) HBg.out hbc)
     have Hbec := kp (Hb2.out.drew.trans (hbc.mono Hb2.out.size))
     clear hbc p0 p1 p2 p3 p4 p5 p6 p7 p8 p9 p10 a0 a1 a2 a3 a4 a5 a6 a7 a8 a9 a10
     obtain ⟨a0, a1, a2, a3, a4, a5, a6, a7, a8, a9, a10⟩ := Box.eleven Hboxc.out
     go_wp2_with fail
     have Hwc := kp (show FasOwn wc w.heap.size (.slice (some ⟨g, 0, none⟩) (q + 1) c') (P ++ [p]) from ⟨by have := Hownc.out; rw [show (P ++ [p]).length = q + 1 by rw [← Hq.out]; simp]; exact this, Hapc.out⟩)
     have hgdc : g < wc.heap.size := (Hownc.out.lt g rfl).2
     have hFdc : gF < wc.heap.size := Hboxc.out.lt
     obtain ⟨p0, p1, p2, p3, p4, p5, p6, p7, p8, p9, p10⟩ := FasOwn.mid (P := P) (s := p) (R := []) (w := wc) Hwc.out
     rw [Hq.out] at p0 p1 p2 p3 p4 p5 p6 p7 p8 p9 p10
     have HJk := kp (show ∀ w, Calls Tryz.prog 53 #[.agg (agC p.ag), .agg (agC f.ag)] w (fun e w' => e = .returned (.tuple #[.agg (agC ((joinA p.ag f.ag).getD agZero)), .bool (joinA p.ag f.ag).isSome]) ∧ Below w.heap.size w w') from fun w => HJ.out p.ag f.ag w (Hof.out p (by simp)) Hff.out)
     have Hjf := kp (fun j (h : joinA p.ag f.ag = some j) => joinA_fit (Hof.out p (by simp)) Hff.out h)
     generalize joinA p.ag f.ag = o at *
     go_wp2_with fail
     refine wp_region_noPanic ?_
     refine wp_region_T (t := 99) (S := (fun w' => (w'.cell? ⟨g, q * 11 + 1, none⟩ = some (.int .i64 p.ag.c) ∧ w'.cell? ⟨g, q * 11 + 2, none⟩ = some (.int .i64 p.ag.s0) ∧ w'.cell? ⟨g, q * 11 + 3, none⟩ = some (.int .i64 p.ag.n0) ∧ w'.cell? ⟨g, q * 11 + 4, none⟩ = some (.int .i64 p.ag.x0) ∧ w'.cell? ⟨g, q * 11 + 5, none⟩ = some (.int .i64 p.ag.s1) ∧ w'.cell? ⟨g, q * 11 + 6, none⟩ = some (.int .i64 p.ag.n1) ∧ w'.cell? ⟨g, q * 11 + 7, none⟩ = some (.int .i64 p.ag.x1) ∧ w'.cell? ⟨g, q * 11 + 8, none⟩ = some (.int .i64 p.ag.s2) ∧ w'.cell? ⟨g, q * 11 + 9, none⟩ = some (.int .i64 p.ag.n2) ∧ w'.cell? ⟨g, q * 11 + 10, none⟩ = some (.int .i64 p.ag.x2)) ∧ (w'.cell? ⟨gF, 1, none⟩ = some (.int .i64 f.ag.c) ∧ w'.cell? ⟨gF, 2, none⟩ = some (.int .i64 f.ag.s0) ∧ w'.cell? ⟨gF, 3, none⟩ = some (.int .i64 f.ag.n0) ∧ w'.cell? ⟨gF, 4, none⟩ = some (.int .i64 f.ag.x0) ∧ w'.cell? ⟨gF, 5, none⟩ = some (.int .i64 f.ag.s1) ∧ w'.cell? ⟨gF, 6, none⟩ = some (.int .i64 f.ag.n1) ∧ w'.cell? ⟨gF, 7, none⟩ = some (.int .i64 f.ag.x1) ∧ w'.cell? ⟨gF, 8, none⟩ = some (.int .i64 f.ag.s2) ∧ w'.cell? ⟨gF, 9, none⟩ = some (.int .i64 f.ag.n2) ∧ w'.cell? ⟨gF, 10, none⟩ = some (.int .i64 f.ag.x2)))) (by kernel_rfl) ⟨⟨p1, p2, p3, p4, p5, p6, p7, p8, p9, p10⟩, ⟨a1, a2, a3, a4, a5, a6, a7, a8, a9, a10⟩⟩ (fun hHeld => ?_)
     refine tk 0 hHeld ?_
     refine tk 1 hHeld ?_
     refine tk 2 hHeld ?_
     refine tk 3 hHeld ?_
     refine tk 4 hHeld ?_
     refine tk 5 hHeld ?_
     refine tk 6 hHeld ?_
     refine tk 7 hHeld ?_
     refine wpAnyT_two (i := 8) (j := 12) (o := ?os8) (o' := ?os12) (by kernel_rfl) ?as8 ?as12 (by decide) (by decide) (fun K hK => ?bs8) (fun K hK => ?bs12)
     case as8 => (simp only [List.getElem?_toArray, List.getElem?_cons_succ, List.getElem?_cons_zero]; exact rfl)
     case as12 => (simp only [List.getElem?_toArray, List.getElem?_cons_succ, List.getElem?_cons_zero]; exact rfl)
     case bs8 =>
      go_simp
      refine (HJk.out _).mono ?_
      rintro e w3 ⟨rfl, hb3⟩
      have Hb3 := kp hb3
      clear hb3
      refine hK.out _ _ ?_ (fun hHeld2 => ?_)
      ·exact ⟨keep10 (Hb3.out.block g hgdc) hHeld.1, keep10 (o := 0) (Hb3.out.block gF hFdc) hHeld.2⟩
      clear hK K hHeld
      have hHeld := hHeld2
      clear hHeld2
      try simp only [Act.put, List.setIfInBounds_toArray, List.set_cons_zero, List.set_cons_succ]
      have hgd3 : g < w3.heap.size := Nat.lt_of_lt_of_le hgdc Hb3.out.size
      have hFd3 : gF < w3.heap.size := Nat.lt_of_lt_of_le hFdc Hb3.out.size
      refine tk 9 hHeld ?_
      refine tk 10 hHeld ?_
      refine tk 11 hHeld ?_
      refine wpAnyT_one (i := 12) (o := ?ou12) (by kernel_rfl) ?au12 (by decide) (fun K hK => ?bu12)
      case au12 => (simp only [List.getElem?_toArray, List.getElem?_cons_succ, List.getElem?_cons_zero]; exact rfl)
      go_simp
      refine hK.out _ _ ?_ (fun hHeld2 => ?_)
      ·exact ⟨keep10 (Below.heap_alloc _ _ _ hgd3) hHeld.1, keep10 (o := 0) (Below.heap_alloc _ _ _ hFd3) hHeld.2⟩
      clear hK K hHeld
      have hHeld := hHeld2
      clear hHeld2
      try simp only [Act.put, List.setIfInBounds_toArray, List.set_cons_zero, List.set_cons_succ]
      have hx : _ ∧ _ := ⟨keep10 (Hb3.out.block g hgdc) ⟨p1, p2, p3, p4, p5, p6, p7, p8, p9, p10⟩, keep10 (o := 0) (Hb3.out.block gF hFdc) ⟨a1, a2, a3, a4, a5, a6, a7, a8, a9, a10⟩⟩
      refine wpAnyT_one (i := 13) (o := ?ou13) (by kernel_rfl) ?au13 (by decide) (fun K hK => ?bu13)
      case au13 => (simp only [List.getElem?_toArray, List.getElem?_cons_succ, List.getElem?_cons_zero]; exact rfl)
      go_simp
      refine hK.out _ _ ?_ (fun hHeld2 => ?_)
      ·exact ⟨keep10 (Below.heap_alloc _ _ _ hgd3) hx.1, keep10 (o := 0) (Below.heap_alloc _ _ _ hFd3) hx.2⟩
      clear hK K hHeld
      have hHeld := hHeld2
      clear hHeld2
      try simp only [Act.put, List.setIfInBounds_toArray, List.set_cons_zero, List.set_cons_succ]
      refine tk 14 hHeld ?_
      refine wpAnyT_done (by kernel_rfl) ?_ _
      try clear hHeld
      refine NoPanic.normal ?_
      have hb4 := (Below.refl w3.heap.size w3).alloc (Nat.le_refl _) (.cells (agC (o.getD agZero)) 47)
      have HB8 := kp (Box.new w3 47 (agC (o.getD agZero)))
      have Hw4 := kp ((FasOwn.below (w := wc.drew) Hwc.out Hb3.out).below hb4)
      have Hbe4 := kp (Hbec.out.drew.trans ((Hb3.out.mono Hbec.out.size).trans (hb4.mono (Nat.le_trans Hbec.out.size Hb3.out.size))))
      clear hb4 Hb3 hgd3 hFd3
      generalize w3.heap.size = g8 at *
      generalize w3.alloc (.cells (agC (o.getD agZero)) 47) = w4 at *
      clear Hownc Hapc Hboxc Hbec Hwc hgdc hFdc p0 p1 p2 p3 p4 p5 p6 p7 p8 p9 p10 a0 a1 a2 a3 a4 a5 a6 a7 a8 a9 a10
      rcases o with _ | jj
      ·have Hno := kp (HNo.out (HNn.out HSt.out) w4 Hbe4.out)
       simp only [Option.getD_none, Option.isSome_none]
       go_wp2_with fail
       exact Hno.out
      ·have Hst := kp (show foldStep ((P ++ [p]).map pl) (pl f) = some ((P ++ [(⟨p.A, p.keys, p.c, jj⟩ : Fa)]).map pl) by rw [HSt.out, List.map_append]; rfl)
       have Hgo := kp (FasOwn.setAg (P := P) (s := p) (R := []) Hw4.out jj)
       have Hbe5 := kp (below_setAg (o := P.length * 11) jj Hbe4.out hBg)
       rw [Hq.out] at Hgo Hbe5
       obtain ⟨p0, p1, p2, p3, p4, p5, p6, p7, p8, p9, p10⟩ := FasOwn.mid (P := P) (s := p) (R := []) (w := w4) Hw4.out
       rw [Hq.out] at p0 p1 p2 p3 p4 p5 p6 p7 p8 p9 p10
       obtain ⟨z0, z1, z2, z3, z4, z5, z6, z7, z8, z9, z10⟩ := Hw4.out.frz q
       obtain ⟨⟨j0, j1, j2, j3, j4, j5, j6, j7, j8, j9⟩, _⟩ := Box.ten (show Box w4 g8 47 (agC jj) from HB8.out)
       simp only [Option.getD_some, Option.isSome_some]
       go_wp2_with fail
       refine ⟨⟨k + 1, P ++ [(⟨p.A, p.keys, p.c, jj⟩ : Fa)], some ⟨g, 0, none⟩, c', by omega, by go_num, by rw [List.length_append, Hq.out]; rfl, by rw [List.length_append, Hq.out]; simp; omega, HNx.out _ Hst.out, ?_, ?_, ?_, Hbe5.out⟩, by simp [intOf]; omega⟩
       ·intro x hx
        rcases List.mem_append.1 hx with hx | hx
        ·exact Hof.out x (List.mem_append_left _ hx)
        ·rw [List.mem_singleton.1 hx]; exact Hjf.out jj rfl
       ·intro x hx
        rcases List.mem_append.1 hx with hx | hx
        ·exact Hok.out x (List.mem_append_left _ hx)
        ·rw [List.mem_singleton.1 hx]; exact Hok.out p (List.mem_append_right _ List.mem_cons_self)
       ·have := Hgo.out
        rw [show (P ++ [(⟨p.A, p.keys, p.c, jj⟩ : Fa)]).length = q + 1 by rw [← Hq.out]; simp]
        exact this
     case bs12 =>
      go_simp
      refine hK.out _ _ ?_ (fun hHeld2 => ?_)
      ·exact ⟨keep10 (Below.heap_alloc _ _ _ hgdc) hHeld.1, keep10 (o := 0) (Below.heap_alloc _ _ _ hFdc) hHeld.2⟩
      clear hK K hHeld
      have hHeld := hHeld2
      clear hHeld2
      try simp only [Act.put, List.setIfInBounds_toArray, List.set_cons_zero, List.set_cons_succ]
      have hsz : wc.drew.heap.size = wc.heap.size := rfl
      have hba := (Below.refl wc.drew.heap.size wc.drew).alloc (Nat.le_refl _) (.cells (agC agZero) 47)
      have HBa := kp (Box.new wc.drew 47 (agC agZero))
      have Hba := kp hba
      clear hba
      have hgda : g < (wc.drew.alloc (.cells (agC agZero) 47)).heap.size := by simp; omega
      have hFda : gF < (wc.drew.alloc (.cells (agC agZero) 47)).heap.size := by simp; omega
      refine wpAnyT_one (i := 8) (o := ?ov8) (by kernel_rfl) ?av8 (by decide) (fun K hK => ?bv8)
      case av8 => (simp only [List.getElem?_toArray, List.getElem?_cons_succ, List.getElem?_cons_zero]; exact rfl)
      go_simp
      refine (HJk.out _).mono ?_
      rintro e w3 ⟨rfl, hb3⟩
      have Hb3 := kp (show Below (wc.drew.alloc (.cells (agC agZero) 47)).heap.size (wc.drew.alloc (.cells (agC agZero) 47)) w3 from hb3)
      clear hb3
      refine hK.out _ _ ?_ (fun hHeld2 => ?_)
      ·exact ⟨keep10 (Hb3.out.block g hgda) hHeld.1, keep10 (o := 0) (Hb3.out.block gF hFda) hHeld.2⟩
      clear hK K hHeld
      have hHeld := hHeld2
      clear hHeld2
      try simp only [Act.put, List.setIfInBounds_toArray, List.set_cons_zero, List.set_cons_succ]
      have HB3 := kp (HBa.out.under Hb3.out)
      have Hb03 := kp (Hba.out.trans (Hb3.out.mono (by simp)))
      have hg8 : w.heap.size ≤ wc.drew.heap.size := Hbec.out.size
      have hx := hHeld
      have hg8d : g ≠ wc.drew.heap.size := by omega
      have hF8d : gF ≠ wc.drew.heap.size := by omega
      obtain ⟨⟨y0, y1, y2, y3, y4, y5, y6, y7, y8, y9⟩, ⟨f0, f1, f2, f3, f4, f5, f6, f7, f8, f9⟩⟩ := Box.ten HB3.out
      have hy : wc.drew.heap.size = wc.heap.size := rfl
      rw [hy] at y0 y1 y2 y3 y4 y5 y6 y7 y8 y9 f0 f1 f2 f3 f4 f5 f6 f7 f8 f9
      refine tk 9 hHeld ?_
      refine tk 10 hHeld ?_
      refine tk 11 hHeld ?_
      refine wpAnyT_one (i := 13) (o := ?ov13) (by kernel_rfl) ?av13 (by decide) (fun K hK => ?bv13)
      case av13 => (simp only [List.getElem?_toArray, List.getElem?_cons_succ, List.getElem?_cons_zero]; exact rfl)
      go_simp
      refine hK.out _ _ ?_ (fun hHeld2 => ?_)
      ·exact ⟨keep10 (ten_other hg8d) hx.1, keep10 (o := 0) (ten_other hF8d) hx.2⟩
      clear hK K hHeld
      have hHeld := hHeld2
      clear hHeld2
      try simp only [Act.put, List.setIfInBounds_toArray, List.set_cons_zero, List.set_cons_succ]
      refine tk 14 hHeld ?_
      refine wpAnyT_done (by kernel_rfl) ?_ _
      try clear hHeld
      refine NoPanic.normal ?_
      have hb4 : Below wc.drew.heap.size wc.drew _ := Below.ten_set (.int .i64 (o.getD agZero).c) (.int .i64 (o.getD agZero).s0) (.int .i64 (o.getD agZero).n0) (.int .i64 (o.getD agZero).x0) (.int .i64 (o.getD agZero).s1) (.int .i64 (o.getD agZero).n1) (.int .i64 (o.getD agZero).x1) (.int .i64 (o.getD agZero).s2) (.int .i64 (o.getD agZero).n2) (.int .i64 (o.getD agZero).x2) Hb03.out (Nat.le_refl wc.drew.heap.size)
      have HB8 := kp (show Box _ wc.heap.size 47 (agC (o.getD agZero)) from Box.ten_set (.int .i64 (o.getD agZero).c) (.int .i64 (o.getD agZero).s0) (.int .i64 (o.getD agZero).n0) (.int .i64 (o.getD agZero).x0) (.int .i64 (o.getD agZero).s1) (.int .i64 (o.getD agZero).n1) (.int .i64 (o.getD agZero).x1) (.int .i64 (o.getD agZero).s2) (.int .i64 (o.getD agZero).n2) (.int .i64 (o.getD agZero).x2) HB3.out)
      have Hw4 := kp (FasOwn.below (w := wc.drew) Hwc.out hb4)
      have Hbe4 := kp (Hbec.out.drew.trans (hb4.mono Hbec.out.size))
      clear hb4 Hb3 hgda hFda Hba HBa HB3 Hb03 hg8 hx hg8d hF8d y0 y1 y2 y3 y4 y5 y6 y7 y8 y9 f0 f1 f2 f3 f4 f5 f6 f7 f8 f9 hy hsz
      have hy : wc.drew.heap.size = wc.heap.size := rfl
      rw [hy] at Hw4 Hbe4
      clear hy
      generalize hg8 : wc.heap.size = g8 at *
      clear hg8
      generalize ((((((((((w3.setCell ⟨g8, 0, none⟩ (.int .i64 (o.getD agZero).c)).setCell ⟨g8, 1, none⟩ (.int .i64 (o.getD agZero).s0)).setCell ⟨g8, 2, none⟩ (.int .i64 (o.getD agZero).n0)).setCell ⟨g8, 3, none⟩ (.int .i64 (o.getD agZero).x0)).setCell ⟨g8, 4, none⟩ (.int .i64 (o.getD agZero).s1)).setCell ⟨g8, 5, none⟩ (.int .i64 (o.getD agZero).n1)).setCell ⟨g8, 6, none⟩ (.int .i64 (o.getD agZero).x1)).setCell ⟨g8, 7, none⟩ (.int .i64 (o.getD agZero).s2)).setCell ⟨g8, 8, none⟩ (.int .i64 (o.getD agZero).n2)).setCell ⟨g8, 9, none⟩ (.int .i64 (o.getD agZero).x2)) = w4 at *
      clear Hownc Hapc Hboxc Hbec Hwc hgdc hFdc p0 p1 p2 p3 p4 p5 p6 p7 p8 p9 p10 a0 a1 a2 a3 a4 a5 a6 a7 a8 a9 a10
      rcases o with _ | jj
      ·have Hno := kp (HNo.out (HNn.out HSt.out) w4 Hbe4.out)
       simp only [Option.getD_none, Option.isSome_none]
       go_wp2_with fail
       exact Hno.out
      ·have Hst := kp (show foldStep ((P ++ [p]).map pl) (pl f) = some ((P ++ [(⟨p.A, p.keys, p.c, jj⟩ : Fa)]).map pl) by rw [HSt.out, List.map_append]; rfl)
       have Hgo := kp (FasOwn.setAg (P := P) (s := p) (R := []) Hw4.out jj)
       have Hbe5 := kp (below_setAg (o := P.length * 11) jj Hbe4.out hBg)
       rw [Hq.out] at Hgo Hbe5
       obtain ⟨p0, p1, p2, p3, p4, p5, p6, p7, p8, p9, p10⟩ := FasOwn.mid (P := P) (s := p) (R := []) (w := w4) Hw4.out
       rw [Hq.out] at p0 p1 p2 p3 p4 p5 p6 p7 p8 p9 p10
       obtain ⟨z0, z1, z2, z3, z4, z5, z6, z7, z8, z9, z10⟩ := Hw4.out.frz q
       obtain ⟨⟨j0, j1, j2, j3, j4, j5, j6, j7, j8, j9⟩, _⟩ := Box.ten (show Box w4 g8 47 (agC jj) from HB8.out)
       simp only [Option.getD_some, Option.isSome_some]
       go_wp2_with fail
       refine ⟨⟨k + 1, P ++ [(⟨p.A, p.keys, p.c, jj⟩ : Fa)], some ⟨g, 0, none⟩, c', by omega, by go_num, by rw [List.length_append, Hq.out]; rfl, by rw [List.length_append, Hq.out]; simp; omega, HNx.out _ Hst.out, ?_, ?_, ?_, Hbe5.out⟩, by simp [intOf]; omega⟩
       ·intro x hx
        rcases List.mem_append.1 hx with hx | hx
        ·exact Hof.out x (List.mem_append_left _ hx)
        ·rw [List.mem_singleton.1 hx]; exact Hjf.out jj rfl
       ·intro x hx
        rcases List.mem_append.1 hx with hx | hx
        ·exact Hok.out x (List.mem_append_left _ hx)
        ·rw [List.mem_singleton.1 hx]; exact Hok.out p (List.mem_append_right _ List.mem_cons_self)
       ·have := Hgo.out
        rw [show (P ++ [(⟨p.A, p.keys, p.c, jj⟩ : Fa)]).length = q + 1 by rw [← Hq.out]; simp]
        exact this
    ·have hVd : (cmpN p.keys f.keys == 0) = false := by simp; exact hV
     have Hst := kp (show foldStep ((P ++ [p]).map pl) (pl f) = some ((P ++ [p] ++ [f]).map pl) by rw [List.map_append, List.map_append, List.map_append]; exact hSn.trans (if_neg hV))
     clear hV hSn
     generalize cmpN p.keys f.keys = V at *
     go_wp2_with fail
     refine wp_region_noPanic ?_
     refine wp_region_T (t := 99) (S := (fun w' => (w'.cell? ⟨g, q * 11, none⟩ = some (.slice p.A p.keys.length p.c) ∧ w'.cell? ⟨g, q * 11 + 1, none⟩ = some (.int .i64 p.ag.c) ∧ w'.cell? ⟨g, q * 11 + 2, none⟩ = some (.int .i64 p.ag.s0) ∧ w'.cell? ⟨g, q * 11 + 3, none⟩ = some (.int .i64 p.ag.n0) ∧ w'.cell? ⟨g, q * 11 + 4, none⟩ = some (.int .i64 p.ag.x0) ∧ w'.cell? ⟨g, q * 11 + 5, none⟩ = some (.int .i64 p.ag.s1) ∧ w'.cell? ⟨g, q * 11 + 6, none⟩ = some (.int .i64 p.ag.n1) ∧ w'.cell? ⟨g, q * 11 + 7, none⟩ = some (.int .i64 p.ag.x1) ∧ w'.cell? ⟨g, q * 11 + 8, none⟩ = some (.int .i64 p.ag.s2) ∧ w'.cell? ⟨g, q * 11 + 9, none⟩ = some (.int .i64 p.ag.n2) ∧ w'.cell? ⟨g, q * 11 + 10, none⟩ = some (.int .i64 p.ag.x2)) ∧ (w'.cell? ⟨gF, 0, none⟩ = some (.slice f.A f.keys.length f.c) ∧ w'.cell? ⟨gF, 1, none⟩ = some (.int .i64 f.ag.c) ∧ w'.cell? ⟨gF, 2, none⟩ = some (.int .i64 f.ag.s0) ∧ w'.cell? ⟨gF, 3, none⟩ = some (.int .i64 f.ag.n0) ∧ w'.cell? ⟨gF, 4, none⟩ = some (.int .i64 f.ag.x0) ∧ w'.cell? ⟨gF, 5, none⟩ = some (.int .i64 f.ag.s1) ∧ w'.cell? ⟨gF, 6, none⟩ = some (.int .i64 f.ag.n1) ∧ w'.cell? ⟨gF, 7, none⟩ = some (.int .i64 f.ag.x1) ∧ w'.cell? ⟨gF, 8, none⟩ = some (.int .i64 f.ag.s2) ∧ w'.cell? ⟨gF, 9, none⟩ = some (.int .i64 f.ag.n2) ∧ w'.cell? ⟨gF, 10, none⟩ = some (.int .i64 f.ag.x2)))) (by kernel_rfl) ⟨⟨p0, p1, p2, p3, p4, p5, p6, p7, p8, p9, p10⟩, ⟨a0, a1, a2, a3, a4, a5, a6, a7, a8, a9, a10⟩⟩ (fun hHeld => ?_)
     refine tk 0 hHeld ?_
     refine tk 1 hHeld ?_
     refine tk 2 hHeld ?_
     refine tk 3 hHeld ?_
     refine tk 4 hHeld ?_
     refine tk 5 hHeld ?_
     refine tk 6 hHeld ?_
     refine tk 7 hHeld ?_
     refine tk 8 hHeld ?_
     refine wpAnyT_one (i := 9) (o := ?or9) (by kernel_rfl) ?ar9 (by decide) (fun K hK => ?br9)
     case ar9 => (simp only [List.getElem?_toArray, List.getElem?_cons_succ, List.getElem?_cons_zero]; exact rfl)
     go_simp
     refine HCk.out.mono ?_
     rintro e wc ⟨rfl, hwc⟩
     have Hwc := kp hwc
     clear hwc
     refine hK.out _ _ ?_ (fun hHeld2 => ?_)
     ·have e1 : ∀ i, wc.cell? ⟨g, i, none⟩ = W2.drew.cell? ⟨g, i, none⟩ := fun i => World.cell?_of_block (a := ⟨g, i, none⟩) (by rw [Hwc.out]; exact (Below.heap_alloc _ _ _ (by simp; omega)).trans (Below.heap_alloc _ _ _ hgd))
      have e2 : ∀ i, wc.cell? ⟨gF, i, none⟩ = W2.drew.cell? ⟨gF, i, none⟩ := fun i => World.cell?_of_block (a := ⟨gF, i, none⟩) (by rw [Hwc.out]; exact (Below.heap_alloc _ _ _ (by simp; omega)).trans (Below.heap_alloc _ _ _ hFd))
      simp only [e1, e2]
      exact ⟨⟨p0, p1, p2, p3, p4, p5, p6, p7, p8, p9, p10⟩, ⟨a0, a1, a2, a3, a4, a5, a6, a7, a8, a9, a10⟩⟩
     clear hK K hHeld
     have hHeld := hHeld2
     clear hHeld2
     try simp only [Act.put, List.setIfInBounds_toArray, List.set_cons_zero, List.set_cons_succ]
     refine tk 10 hHeld ?_
     refine tk 11 hHeld ?_
     refine wpAnyT_done (by kernel_rfl) ?_ _
     try clear hHeld
     refine NoPanic.normal ?_
     have hbc := (show Below W2.drew.heap.size W2.drew wc by rw [Hwc.out]; exact ((Below.refl _ _).alloc (Nat.le_refl _) _).alloc (by simp) _)
     have Hownc := kp (show wc.ownsRow w.heap.size 78 11 (.slice (some ⟨g, 0, none⟩) (q + 1) c') (q + 1) ((P ++ [p]).flatMap factV) from own_below (w := W2.drew) Hown2a.out hbc)
     have Hapc := kp (show ∀ x ∈ P ++ [p], FaAp wc (.slice (some ⟨g, 0, none⟩) (q + 1) c') x from fun x hx => FaAp.below (w := W2.drew) (Hap2.out x hx) hbc)
     have Hapcf := kp (show FaAp wc (.slice (some ⟨g, 0, none⟩) (q + 1) c') f from FaAp.below (w := W2.drew) HapfF.out hbc)
     have Hboxc := kp (Box.under (w := W2.drew) HBg.out hbc)
     have Hbec := kp (Hb2.out.drew.trans (hbc.mono Hb2.out.size))
     clear hbc p0 p1 p2 p3 p4 p5 p6 p7 p8 p9 p10 a0 a1 a2 a3 a4 a5 a6 a7 a8 a9 a10
     obtain ⟨a0, a1, a2, a3, a4, a5, a6, a7, a8, a9, a10⟩ := Box.eleven Hboxc.out
     go_wp2_with (at_builtin; refine wpList_appK rfl (.tmp 30) (.tmp 32) 32 rfl w.heap.size 78 i0 _ 11 104 Tryz.underlying32 ti0 tz0 tz1 tz2 rfl (by decide) wc (factC f) rfl (fact_one _) (.slice (some ⟨g, 0, none⟩) (q + 1) c') (q + 1) ((P ++ [p]).flatMap factV) rfl Hownc.out rfl hm1 (by decide) Hbec.out.size ?_; intro v5 w5 hown5 happ5; obtain ⟨A5, c5, h5⟩ := own_formK hown5; subst h5; have Hown5 := kp hown5; have Hb5 := kp (happ5.belowK Hbec.out Hownc.out (Nat.le_refl _) Hbec.out.size); have Hap5 := kp (show ∀ x ∈ P ++ [p] ++ [f], FaAp w5 (.slice A5 (q + 1 + 1) c5) x from fun x hx => by (rcases List.mem_append.1 hx with hx | hx; exact (Hapc.out x hx).app happ5; rw [List.mem_singleton.1 hx]; exact Hapcf.out.app happ5)); clear hown5 happ5)
     refine ⟨⟨k + 1, P ++ [p] ++ [f], A5, c5, by omega, by go_num, by rw [List.length_append, Hm.out]; rfl, by rw [List.length_append, Hm.out]; simp; omega, HNx.out _ Hst.out, ?_, ?_, ⟨?_, ?_⟩, Hb5.out⟩, by simp [intOf]; omega⟩
     ·intro x hx
      rcases List.mem_append.1 hx with hx | hx
      ·exact Hof.out x hx
      ·rw [List.mem_singleton.1 hx]; exact Hff.out
     ·intro x hx
      rcases List.mem_append.1 hx with hx | hx
      ·exact Hok.out x hx
      ·rw [List.mem_singleton.1 hx]; exact Hkk.out
     ·rw [List.length_append, Hm.out, List.flatMap_append]
      exact Hown5.out
     ·rw [List.length_append, Hm.out]
      exact Hap5.out
  ·obtain rfl : k = n := by omega
   have Hfin := kp (show foldP [] (l.map pl) = some (out.map pl) by rw [Hfo.out, List.drop_of_length_le (by rw [Hn.out]; exact Nat.le_refl _)]; rfl)
   have HCk := kp (HC.out A' out c' wr (by omega) Hok.out Hown.out.fas)
   obtain ⟨m, hm⟩ : ∃ m, out.length = m := ⟨_, rfl⟩
   rw [hm] at HCk ⊢
   clear hm Hown
   go_wp2_with fail
   refine HCk.out.mono ?_
   rintro e w2 ⟨v2, l2, rfl, hpl2, hown2, hkf2, hb2⟩
   have Hq := kp (HYes.out v2 l2 w2 (by rw [hpl2]; exact Hfin.out) ⟨own_base hown2.1 Hbe.out.size, hown2.2⟩ (fun f hf b off h1 h2 => Nat.le_trans Hbe.out.size (hkf2 f hf b off h1 h2)) (Hbe.out.trans (hb2.mono Hbe.out.size)))
   clear hpl2 hown2 hkf2 hb2
   go_wp2_with fail
   exact Hq.out
end Go.Proofs.YthmbgbmcdbdecaaGreat.Tc
