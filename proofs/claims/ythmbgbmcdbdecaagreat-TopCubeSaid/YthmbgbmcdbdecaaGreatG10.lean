/- Parts of a proof: Layer 19: copies of facts; which of two stands first. -/
import Derived.Test.YthmbgbmcdbdecaaGreatG05
import Derived.Test.YthmbgbmcdbdecaaGreatG07
import Derived.Maps.Own
import Derived.Maps.OwnOps
import Derived.Maps.OwnSet
import Derived.Maps.Views
import Derived.Lib.SliceRun
import Derived.Deep.LoopGhost
namespace Go.Proofs.YthmbgbmcdbdecaaGreat.Tc
open Go.RowKit Base
set_option linter.unusedVariables false
set_option linter.unusedSimpArgs false
def Cloned (t : TypeId) (size n : Nat) (vs : List Value) (w : World) (e : Ending) (w' : World) : Prop := ∃ v', e = .returned v' ∧ w'.ownsRow w.heap.size t size v' n vs ∧ Below w.heap.size w w'
set_option maxHeartbeats 1000000 in
theorem cloneInts_some (a : Addr) (n c : Nat) (vs : List Value) (w : World) (hn : n ≤ 1000000) (hv : vs.length = n * 1) (hc : ∀ j u, vs[j]? = some u → w.cell? (a.add j) = some u) (h1 : ∀ u ∈ vs, u.oneCell' = true) :
 Calls Tryz.prog 62 #[.slice (some a) n c] w (Cloned 3 1 n vs w) := by
 have q : ∀ (w : World) (a : Option Addr) (n c n' c' : Nat), (binOp .eql 41 (.slice a n c) (.slice none n' c')).run Tryz.prog w = .ok (.bool a.isNone) w := fun w a n c n' c' => Lib.run_eql_slice_nil w _ _ a n c n' c' Tryz.underlying41
 obtain ⟨i0, ti0, tz0, tz1, tz2⟩ := info_parts info_int
 have Hc := kp hc
 have Hv := kp hv
 have H1 := kp h1
 have Hn := kp hn
 have HQ := kp (show ∀ v' w', w'.ownsRow w.heap.size 3 1 v' n vs → Below w.heap.size w w' → Cloned 3 1 n vs w (.returned v') w' from fun v' w' a b => ⟨v', rfl, a, b⟩)
 clear hc hv h1 hn
 generalize hQ : Cloned 3 1 n vs w = Q at *
 clear hQ
 go_enter Tryz.func62, Tryz.ntmps62
 go_wp2_with (at_builtin; refine wpList_append_own _ rfl _ _ 41 rfl w.heap.size 3 i0 (.int .i64 0) 1 8 Tryz.underlying41 ti0 tz0 tz1 tz2 rfl (by decide) _ _ _ rfl (World.ownsRow_made w #[] 0 (Nat.le_refl _) (Nat.zero_le _) rfl) a n c vs rfl ?qc1 ?qc2 ?qc3 ?qc4 ?qc5 ?qc6 ?_)
 case qc1 => exact Hv.out
 case qc2 =>
  intro j u hj
  exact Lib.cell?_alloc_some _ (Hc.out j u hj)
 case qc3 => exact H1.out
 case qc4 => have := Hn.out; rw [Nat.zero_add]; unfold maxLen; omega
 case qc5 => have := Hn.out; rw [Nat.zero_add]; omega
 case qc6 => simp
 intro v' w1 hown hgrow hnil
 have Hown := kp hown
 have Hgr := kp hgrow
 clear hown hgrow hnil
 go_wp2_with fail
 exact HQ.out _ _ (by simpa using Hown.out) (((Below.refl _ w).alloc (Nat.le_refl _) _).grown Hgr.out (by simp) (by intro k hk; simp [Value.ownBlock] at hk; omega))
set_option maxHeartbeats 1000000 in
theorem cloneInts_nil (n c : Nat) (w : World) : Calls Tryz.prog 62 #[.slice none n c] w (Cloned 3 1 0 [] w) := by
 have q : ∀ (w : World) (a : Option Addr) (n c n' c' : Nat), (binOp .eql 41 (.slice a n c) (.slice none n' c')).run Tryz.prog w = .ok (.bool a.isNone) w := fun w a n c n' c' => Lib.run_eql_slice_nil w _ _ a n c n' c' Tryz.underlying41
 go_enter Tryz.func62, Tryz.ntmps62
 go_wp2_with fail
 go_ret
 exact ⟨_, rfl, own_nil _ _ _ _, Below.refl _ _⟩
theorem cells_of_row {w : World} {B : Nat} {a : Addr} {vs : List Value} (hr : Row w B (some a) vs) : ∀ j u, vs[j]? = some u → w.cell? (a.add j) = some u := by
 intro j u hj
 rcases hr with rfl | ⟨b, off, e, _, hc⟩
 ·simp at hj
 ·injection e with e
  subst e
  rw [add_at]
  exact hc j u hj
theorem cloneInts_any (A : Option Addr) (c : Nat) (l : List Nat) (w : World) (hn : l.length ≤ 1000000) (hr : Row w w.heap.size A (natV l)) :
 Calls Tryz.prog 62 #[.slice A l.length c] w (Cloned 3 1 l.length (natV l) w) := by
 rcases A with _ | a
 ·have h0 : natV l = [] := by
   rcases hr with h | ⟨b, off, h, _⟩
   ·exact h
   ·cases h
  have h1 : l.length = 0 := by rw [← natV_len, h0]; rfl
  rw [h0, h1]
  exact cloneInts_nil _ _ _
 ·exact cloneInts_some a l.length c (natV l) w hn (by rw [natV_len, Nat.mul_one]) (cells_of_row hr) (fun u hu => by unfold natV at hu; obtain ⟨k, _, rfl⟩ := List.mem_map.1 hu; rfl)
def pl (f : Fa) : List Nat × Ag := (f.keys, f.ag)
def FasOwn (w : World) (B : Nat) (v : Value) (l : List Fa) : Prop := w.ownsRow B 78 11 v l.length (l.flatMap factV) ∧ ∀ f ∈ l, FaAp w v f
def KeysFrom (B : Nat) (l : List Fa) : Prop := ∀ f ∈ l, ∀ b off, f.A = some ⟨b, off, none⟩ → natV f.keys ≠ [] → B ≤ b
def FasNew (ps : List (List Nat × Ag)) (w : World) (e : Ending) (w' : World) : Prop := ∃ (v : Value) (l : List Fa), e = .returned v ∧ l.map pl = ps ∧ FasOwn w' w.heap.size v l ∧ KeysFrom w.heap.size l ∧ Below w.heap.size w w'
theorem FasOwn.form {w : World} {B : Nat} {v : Value} {l : List Fa} (h : FasOwn w B v l) : ∃ A c, v = .slice A l.length c := own_formK h.1
theorem FasOwn.fas {w : World} {B : Nat} {A : Option Addr} {n c : Nat} {l : List Fa} (h : FasOwn w B (.slice A n c) l) : FasAt w w.heap.size A l := by
 obtain ⟨A', c', e⟩ := own_formK h.1
 injection e with e1 e2 e3
 subst e1 e2 e3
 exact ⟨row_ownK h.1, fun f hf => (h.2 f hf).1⟩
theorem FasOwn.below {w w' : World} {B : Nat} {v : Value} {l : List Fa} (h : FasOwn w B v l) (hb : Below w.heap.size w w') : FasOwn w' B v l := ⟨own_below h.1 hb, fun f hf => (h.2 f hf).below hb⟩
theorem FasAt.cells {w : World} {B : Nat} {A : Option Addr} {l : List Fa} (h : FasAt w B A l) (k : Nat) (hk : k < l.length) :
 ∃ b off, A = some ⟨b, off, none⟩ ∧ b < B ∧ w.cell? ⟨b, off + k * 11, none⟩ = some (.slice l[k].A l[k].keys.length l[k].c) ∧ w.cell? ⟨b, off + k * 11 + 1, none⟩ = some (.int .i64 l[k].ag.c) ∧ w.cell? ⟨b, off + k * 11 + 2, none⟩ = some (.int .i64 l[k].ag.s0) ∧ w.cell? ⟨b, off + k * 11 + 3, none⟩ = some (.int .i64 l[k].ag.n0) ∧ w.cell? ⟨b, off + k * 11 + 4, none⟩ = some (.int .i64 l[k].ag.x0) ∧ w.cell? ⟨b, off + k * 11 + 5, none⟩ = some (.int .i64 l[k].ag.s1) ∧ w.cell? ⟨b, off + k * 11 + 6, none⟩ = some (.int .i64 l[k].ag.n1) ∧ w.cell? ⟨b, off + k * 11 + 7, none⟩ = some (.int .i64 l[k].ag.x1) ∧ w.cell? ⟨b, off + k * 11 + 8, none⟩ = some (.int .i64 l[k].ag.s2) ∧ w.cell? ⟨b, off + k * 11 + 9, none⟩ = some (.int .i64 l[k].ag.n2) ∧ w.cell? ⟨b, off + k * 11 + 10, none⟩ = some (.int .i64 l[k].ag.x2) := by
 obtain ⟨b, off, e, hb, hc⟩ := Row.rec factV_len h.row (by omega) k hk
 exact ⟨b, off, e, hb, hc 0 _ rfl, hc 1 _ rfl, hc 2 _ rfl, hc 3 _ rfl, hc 4 _ rfl, hc 5 _ rfl, hc 6 _ rfl, hc 7 _ rfl, hc 8 _ rfl, hc 9 _ rfl, hc 10 _ rfl⟩
theorem Box.eleven {w : World} {g : Nat} {t : TypeId} {a0 a1 a2 a3 a4 a5 a6 a7 a8 a9 a10 : Value} (h : Box w g t #[a0, a1, a2, a3, a4, a5, a6, a7, a8, a9, a10]) :
 w.cell? ⟨g, 0, none⟩ = some a0 ∧ w.cell? ⟨g, 1, none⟩ = some a1 ∧ w.cell? ⟨g, 2, none⟩ = some a2 ∧ w.cell? ⟨g, 3, none⟩ = some a3 ∧ w.cell? ⟨g, 4, none⟩ = some a4 ∧ w.cell? ⟨g, 5, none⟩ = some a5 ∧ w.cell? ⟨g, 6, none⟩ = some a6 ∧ w.cell? ⟨g, 7, none⟩ = some a7 ∧ w.cell? ⟨g, 8, none⟩ = some a8 ∧ w.cell? ⟨g, 9, none⟩ = some a9 ∧ w.cell? ⟨g, 10, none⟩ = some a10 :=
 ⟨h.cell 0, h.cell 1, h.cell 2, h.cell 3, h.cell 4, h.cell 5, h.cell 6, h.cell 7, h.cell 8, h.cell 9, h.cell 10⟩
theorem keep11 {w w' : World} {g : Nat} {v0 v1 v2 v3 v4 v5 v6 v7 v8 v9 v10 : Value} (hb : w'.heap[g]? = w.heap[g]?)
 (h : w.cell? ⟨g, 0, none⟩ = some v0 ∧ w.cell? ⟨g, 1, none⟩ = some v1 ∧ w.cell? ⟨g, 2, none⟩ = some v2 ∧ w.cell? ⟨g, 3, none⟩ = some v3 ∧ w.cell? ⟨g, 4, none⟩ = some v4 ∧ w.cell? ⟨g, 5, none⟩ = some v5 ∧ w.cell? ⟨g, 6, none⟩ = some v6 ∧ w.cell? ⟨g, 7, none⟩ = some v7 ∧ w.cell? ⟨g, 8, none⟩ = some v8 ∧ w.cell? ⟨g, 9, none⟩ = some v9 ∧ w.cell? ⟨g, 10, none⟩ = some v10) : w'.cell? ⟨g, 0, none⟩ = some v0 ∧ w'.cell? ⟨g, 1, none⟩ = some v1 ∧ w'.cell? ⟨g, 2, none⟩ = some v2 ∧ w'.cell? ⟨g, 3, none⟩ = some v3 ∧ w'.cell? ⟨g, 4, none⟩ = some v4 ∧ w'.cell? ⟨g, 5, none⟩ = some v5 ∧ w'.cell? ⟨g, 6, none⟩ = some v6 ∧ w'.cell? ⟨g, 7, none⟩ = some v7 ∧ w'.cell? ⟨g, 8, none⟩ = some v8 ∧ w'.cell? ⟨g, 9, none⟩ = some v9 ∧ w'.cell? ⟨g, 10, none⟩ = some v10 := by
 obtain ⟨h0, h1, h2, h3, h4, h5, h6, h7, h8, h9, h10⟩ := h
 have e : ∀ i, w'.cell? ⟨g, i, none⟩ = w.cell? ⟨g, i, none⟩ := fun i => World.cell?_of_block (a := ⟨g, i, none⟩) hb
 simp only [e]
 exact ⟨h0, h1, h2, h3, h4, h5, h6, h7, h8, h9, h10⟩
set_option maxRecDepth 100000 in
set_option maxHeartbeats 2000000 in
theorem factclone_any (A : Option Addr) (l : List Fa) (c : Nat) (w : World) (hn : l.length ≤ 1000000) (hk : ∀ f ∈ l, f.keys.length ≤ 1000000) (hr : FasAt w w.heap.size A l) :
 Calls Tryz.prog 54 #[.slice A l.length c] w (FasNew (l.map pl) w) := by
 have HYes := kp (show ∀ v l' w', l'.map pl = l.map pl → FasOwn w' w.heap.size v l' → KeysFrom w.heap.size l' → Below w.heap.size w w' → FasNew (l.map pl) w (.returned v) w' from fun v l' w' h1 h2 h3 hb => ⟨v, l', rfl, h1, h2, h3, hb⟩)
 have Hr := kp hr
 have Hk := kp hk
 have HC := kp cloneInts_any
 obtain ⟨i0, ti0, tz0, tz1, tz2⟩ := info_parts info_fact
 clear hr hk
 generalize hQ : FasNew (l.map pl) w = Q at *
 clear hQ
 generalize hN : l.length = n at *
 have Hn := kp hN
 clear hN
 go_enter Tryz.func54, Tryz.ntmps54
 go_wp2_with fail
 go_loopw [3, 8] (fun v3 v8 wr => ∃ (k : Nat) (l' : List Fa) (A' : Option Addr) (c' : Nat), k ≤ n ∧ v8 = .int .i64 k ∧ v3 = .slice A' k c' ∧ l'.length = k ∧ l'.map pl = (l.take k).map pl ∧ wr.ownsRow w.heap.size 78 11 (.slice A' k c') k (l'.flatMap factV) ∧ (∀ f ∈ l', FaAp wr (.slice A' k c') f) ∧ KeysFrom w.heap.size l' ∧ Below w.heap.size w wr) (fun _ v8 _ => n - (intOf v8).toNat)
 case atStart => exact ⟨0, [], none, 0, Nat.zero_le _, rfl, rfl, rfl, rfl, own_nil _ _ _ _, (fun f hf => by cases hf), (fun f hf => by cases hf), Below.refl _ _⟩
 case round =>
  obtain ⟨k, l', A', c', hk, rfl, rfl, hll, hto, hown, hap, hkf, hbe⟩ := hrel
  have Hkf := kp hkf
  clear hkf
  have Hto := kp hto
  have Hll := kp hll
  have Hown := kp hown
  have Hap := kp hap
  have Hbe := kp hbe
  clear hto hown hap hbe hll
  by_cases hlt : k < n
  ·have hkl : k < l.length := by rw [Hn.out]; exact hlt
   have hfs := (Hr.out.below Hbe.out).more Hbe.out.size
   obtain ⟨b, off, rfl, hb, c0, c1, c2, c3, c4, c5, c6, c7, c8, c9, c10⟩ := hfs.cells k hkl
   have hf := hfs.keys _ (List.getElem_mem hkl)
   have Hpl := kp (show (l.take (k + 1)).map pl = (l.take k).map pl ++ [pl (l[k]'hkl)] by rw [List.take_succ_eq_append_getElem hkl, List.map_append]; rfl)
   have hkk := Hk.out _ (List.getElem_mem hkl)
   generalize (l[k]'hkl) = f at *
   obtain ⟨fA, keys, fc, ag⟩ := f
   obtain ⟨ac, s0, n0, x0, s1, n1, x1, s2, n2, x2⟩ := ag
   dsimp only at c0 c1 c2 c3 c4 c5 c6 c7 c8 c9 c10
   have hbG := (Below.refl wr.heap.size wr).alloc (Nat.le_refl _) (.cells #[.slice fA keys.length fc, .int .i64 ac, .int .i64 s0, .int .i64 n0, .int .i64 x0, .int .i64 s1, .int .i64 n1, .int .i64 x1, .int .i64 s2, .int .i64 n2, .int .i64 x2] 78)
   have HBg := kp (Box.new wr 78 #[.slice fA keys.length fc, .int .i64 ac, .int .i64 s0, .int .i64 n0, .int .i64 x0, .int .i64 s1, .int .i64 n1, .int .i64 x1, .int .i64 s2, .int .i64 n2, .int .i64 x2])
   have HbG := kp hbG
   have Hf := kp ((hf.below hbG).more hbG.size)
   clear hfs hf hbG
   have hi0 : (0 : Int) ≤ (k : Int) := by omega
   have hi1 : (k : Int) < (n : Int) := by omega
   go_upto_region 5 with fail
   clear c0 c1 c2 c3 c4 c5 c6 c7 c8 c9 c10
   generalize wr.alloc (.cells #[.slice fA keys.length fc, .int .i64 ac, .int .i64 s0, .int .i64 n0, .int .i64 x0, .int .i64 s1, .int .i64 n1, .int .i64 x1, .int .i64 s2, .int .i64 n2, .int .i64 x2] 78) = W2 at *
   generalize hgF : wr.heap.size = gF at *
   have HgF := kp hgF
   clear hgF
   have HCk := kp (HC.out fA fc keys W2 hkk Hf.out)
   obtain ⟨a0, a1, a2, a3, a4, a5, a6, a7, a8, a9, a10⟩ := Box.eleven HBg.out
   refine wp_region_noPanic ?_
   refine wp_region_T (t := 99) (S := (fun w' => w'.cell? ⟨gF, 0, none⟩ = some (.slice fA keys.length fc) ∧ w'.cell? ⟨gF, 1, none⟩ = some (.int .i64 ac) ∧ w'.cell? ⟨gF, 2, none⟩ = some (.int .i64 s0) ∧ w'.cell? ⟨gF, 3, none⟩ = some (.int .i64 n0) ∧ w'.cell? ⟨gF, 4, none⟩ = some (.int .i64 x0) ∧ w'.cell? ⟨gF, 5, none⟩ = some (.int .i64 s1) ∧ w'.cell? ⟨gF, 6, none⟩ = some (.int .i64 n1) ∧ w'.cell? ⟨gF, 7, none⟩ = some (.int .i64 x1) ∧ w'.cell? ⟨gF, 8, none⟩ = some (.int .i64 s2) ∧ w'.cell? ⟨gF, 9, none⟩ = some (.int .i64 n2) ∧ w'.cell? ⟨gF, 10, none⟩ = some (.int .i64 x2))) (by kernel_rfl) ⟨a0, a1, a2, a3, a4, a5, a6, a7, a8, a9, a10⟩ (fun hHeld => ?_)
   refine tk 0 hHeld ?_
   refine tk 1 hHeld ?_
   refine tk 2 hHeld ?_
   refine tk 4 hHeld ?_
   refine tk 5 hHeld ?_
   have hltW : gF < W2.heap.size := HBg.out.lt
   refine wpAnyT_one (i := 3) (o := ?op3) (by kernel_rfl) ?ap3 (by decide) (fun K hK => ?bp3)
   case ap3 => (simp only [List.getElem?_toArray, List.getElem?_cons_succ, List.getElem?_cons_zero]; exact rfl)
   go_simp
   refine (HC.out fA fc keys W2.drew hkk Hf.out).mono ?_
   rintro e w3 ⟨vk, rfl, hownk, hb3⟩
   obtain ⟨Ak, ck, rfl⟩ := own_formK hownk
   have Hownk := kp hownk
   have Hb3 := kp hb3
   clear hownk hb3
   refine hK.out _ _ ?_ (fun hHeld2 => ?_)
   ·exact keep11 (Hb3.out.block gF hltW) ⟨a0, a1, a2, a3, a4, a5, a6, a7, a8, a9, a10⟩
   clear hK K hHeld
   have hHeld := hHeld2
   clear hHeld2
   try simp only [Act.put, List.setIfInBounds_toArray, List.set_cons_zero, List.set_cons_succ]
   clear a0 a1 a2 a3 a4 a5 a6 a7 a8 a9 a10
   have Hb3' := kp (show Below gF wr w3 from HbG.out.trans ((show Below W2.heap.size W2 w3 from (Below.refl _ _).drew.trans Hb3.out).mono (by have := HbG.out.size; omega)))
   have Hown3 := kp (own_below Hown.out (by rw [HgF.out]; exact Hb3'.out))
   have Hap3 := kp (fun f hf => (Hap.out f hf).below (by rw [HgF.out]; exact Hb3'.out))
   have Hbe3 := kp (Hbe.out.trans (Hb3'.out.mono (by rw [← HgF.out]; exact Hbe.out.size)))
   have HapN := kp (show FaAp w3 (.slice A' k c') ⟨Ak, keys, ck, ⟨ac, s0, n0, x0, s1, n1, x1, s2, n2, x2⟩⟩ from FaAp.new (B := W2.drew.heap.size) Hownk.out (fun j hj => Nat.lt_of_lt_of_le (Hown.out.lt j hj).2 HbG.out.size))
   have Hkf2 := kp (show KeysFrom w.heap.size (l' ++ [⟨Ak, keys, ck, ⟨ac, s0, n0, x0, s1, n1, x1, s2, n2, x2⟩⟩]) from fun g hg b' off' hA' hne => by
    rcases List.mem_append.1 hg with hg | hg
    ·exact Hkf.out g hg b' off' hA' hne
    ·rw [List.mem_singleton.1 hg] at hA'
     dsimp only at hA'
     have h1 := Hownk.out.lt b' (by rw [hA']; rfl)
     have h2 := Hbe.out.size
     have h3 := HbG.out.size
     have h4 : W2.drew.heap.size = W2.heap.size := rfl
     omega)
   have hk1 : k + 1 < 1048576 * 64 := by have := Hn.out; omega
   have Hs3 := kp Hbe3.out.size
   have hltW3 : gF < w3.heap.size := Nat.lt_of_lt_of_le hltW Hb3.out.size
   have HneG := kp (show (Value.slice A' k c').ownBlock ≠ some gF from fun hh => by have := (Hown.out.lt gF hh).2; rw [HgF.out] at this; omega)
   refine tk 6 hHeld ?_
   refine wpAnyT_one (i := 7) (o := ?op7) (by kernel_rfl) ?ap7 (by decide) (fun K hK => ?bp7)
   case ap7 => (simp only [List.getElem?_toArray, List.getElem?_cons_succ, List.getElem?_cons_zero]; exact rfl)
   go_simp
   refine hK.out _ _ ?_ (fun hHeld2 => ?_)
   ·exact keep11 (Below.heap_alloc _ _ _ hltW3) hHeld
   clear hK K hHeld
   have hHeld := hHeld2
   clear hHeld2
   try simp only [Act.put, List.setIfInBounds_toArray, List.set_cons_zero, List.set_cons_succ]
   refine wpAnyT_one (i := 8) (o := ?op8) (by kernel_rfl) ?ap8 (by decide) (fun K hK => ?bp8)
   case ap8 => (simp only [List.getElem?_toArray, List.getElem?_cons_succ, List.getElem?_cons_zero]; exact rfl)
   refine step_appK rfl (.tmp 12) (.tmp 19) 32 rfl w.heap.size 78 i0 _ 11 104 Tryz.underlying32 ti0 tz0 tz1 tz2 rfl (by decide) w3 (factC ⟨Ak, keys, ck, ⟨ac, s0, n0, x0, s1, n1, x1, s2, n2, x2⟩⟩) rfl (fact_one _) (.slice A' k c') k (l'.flatMap factV) rfl Hown3.out rfl hk1 (by decide) Hs3.out ?_
   intro v5 w5 hown5 happ5
   obtain ⟨A5, c5, h5⟩ := own_formK hown5
   subst h5
   have Hown5 := kp hown5
   have Hapl := kp happ5
   clear hown5 happ5
   go_simp
   refine hK.out _ _ ?_ (fun hHeld2 => ?_)
   ·exact keep11 ((Hapl.out.farK hltW3 HneG.out).trans (Below.heap_alloc _ _ _ hltW3).symm) hHeld
   clear hK K hHeld
   have hHeld := hHeld2
   clear hHeld2
   try simp only [Act.put, List.setIfInBounds_toArray, List.set_cons_zero, List.set_cons_succ]
   refine tk 9 hHeld ?_
   refine wpAnyT_done (by kernel_rfl) ?_ _
   try clear hHeld
   refine NoPanic.normal ?_
   have Hb5 := kp (Hapl.out.belowK Hbe3.out Hown3.out (Nat.le_refl _) Hs3.out)
   have Hap5 := kp (show ∀ f ∈ l' ++ [⟨Ak, keys, ck, ⟨ac, s0, n0, x0, s1, n1, x1, s2, n2, x2⟩⟩], FaAp w5 (.slice A5 (k + 1) c5) f from fun f hf => by (rcases List.mem_append.1 hf with hf | hf; exact (Hap3.out f hf).app Hapl.out; rw [List.mem_singleton.1 hf]; exact HapN.out.app Hapl.out))
   go_wp2_with fail
   refine ⟨⟨k + 1, l' ++ [⟨Ak, keys, ck, ⟨ac, s0, n0, x0, s1, n1, x1, s2, n2, x2⟩⟩], A5, c5, by omega, by go_num, rfl, by rw [List.length_append, Hll.out]; rfl, ?_, ?_, Hap5.out, Hkf2.out, Hb5.out⟩, by simp [intOf]; omega⟩
   ·rw [List.map_append, Hto.out, Hpl.out]; rfl
   ·rw [List.flatMap_append]
    exact Hown5.out
  ·obtain rfl : k = n := by omega
   have Hfin := kp (show FasOwn wr w.heap.size (.slice A' k c') l' from ⟨by rw [Hll.out]; exact Hown.out, Hap.out⟩)
   have Hto2 := kp (show l'.map pl = l.map pl by rw [Hto.out, List.take_of_length_le (by rw [Hn.out]; exact Nat.le_refl _)])
   go_wp2_with fail
   exact HYes.out _ l' _ Hto2.out Hfin.out Hkf.out Hbe.out
def cmpN : List Nat → List Nat → Int
 | [], [] => 0
 | [], _ :: _ => -1
 | _ :: _, [] => 1
 | a :: x, b :: y => if a < b then -1 else if b < a then 1 else cmpN x y
def cmp1 (a b : Nat) : Int := if a < b then -1 else if b < a then 1 else 0
set_option maxHeartbeats 400000 in
theorem nanI_any (x : Int) (w : World) : Calls Tryz.prog 121 #[.int .i64 x] w fun e w' => e = .returned (.bool false) ∧ w = w' := by
 go_enter Tryz.func121, Tryz.ntmps121
 go_wp2_with fail
 go_ret
 exact ⟨by simp, rfl⟩
set_option maxHeartbeats 400000 in
theorem cmpI_any (a b : Nat) (w : World) : Calls Tryz.prog 97 #[.int .i64 (a : Int), .int .i64 (b : Int)] w fun e w' => e = .returned (.int .i64 (cmp1 a b)) ∧ w = w' := by
 have HN := kp nanI_any
 have HV := kp (show (a < b → cmp1 a b = -1) ∧ (b < a → cmp1 a b = 1) ∧ (¬ a < b → ¬ b < a → cmp1 a b = 0) from ⟨fun h => by simp [cmp1, h], fun h => by (have h2 : ¬ a < b := by omega); simp [cmp1, h, h2], fun h1 h2 => by simp [cmp1, h1, h2]⟩)
 generalize cmp1 a b = V at *
 go_enter Tryz.func97, Tryz.ntmps97
 go_wp2_with (go_at_call 121; refine (HN.out _ _).mono ?_; rintro e w' ⟨rfl, rfl⟩)
 all_goals
  go_ret
  refine ⟨?_, rfl⟩
  first
   | (rw [HV.out.1 (by omega)]; rfl)
   | (rw [HV.out.2.1 (by omega)]; rfl)
   | (rw [HV.out.2.2 (by omega) (by omega)]; rfl)
theorem cmpN_drop {a b : List Nat} {k : Nat} (ha : k < a.length) (hb : k < b.length) : cmpN (a.drop k) (b.drop k) = if cmp1 a[k] b[k] = 0 then cmpN (a.drop (k + 1)) (b.drop (k + 1)) else cmp1 a[k] b[k] := by
 rw [List.drop_eq_getElem_cons ha, List.drop_eq_getElem_cons hb, cmpN]
 unfold cmp1
 by_cases h1 : a[k] < b[k]
 ·simp [h1]
 ·by_cases h2 : b[k] < a[k] <;> simp [h1, h2]
set_option maxHeartbeats 1000000 in
theorem compare_any (A B : Option Addr) (ca cb : Nat) (a b : List Nat) (w : World) (ha : a.length ≤ 1000000) (hb : b.length ≤ 1000000) (hra : Row w w.heap.size A (natV a)) (hrb : Row w w.heap.size B (natV b)) :
 Calls Tryz.prog 86 #[.slice A a.length ca, .slice B b.length cb] w fun e w' => e = .returned (.int .i64 (cmpN a b)) ∧ w = w' := by
 have HC := kp cmpI_any
 have HA := kp hra
 have HB := kp hrb
 clear hra hrb
 obtain ⟨na, hna⟩ : ∃ n, a.length = n := ⟨_, rfl⟩
 obtain ⟨nb, hnb⟩ : ∃ n, b.length = n := ⟨_, rfl⟩
 rw [hna] at ha ⊢
 rw [hnb] at hb ⊢
 have Hna := kp hna
 have Hnb := kp hnb
 clear hna hnb
 go_enter Tryz.func86, Tryz.ntmps86
 go_wp2_with fail
 go_loop [11] (fun i => ∃ k : Nat, k ≤ na ∧ k ≤ nb ∧ i = .int .i64 k ∧ cmpN a b = cmpN (a.drop k) (b.drop k)) (fun i => na - (intOf i).toNat)
 case atStart => exact ⟨0, Nat.zero_le _, Nat.zero_le _, rfl, rfl⟩
 case round =>
  obtain ⟨k, hka, hkb, rfl, he⟩ := hrel
  have He := kp he
  clear he
  by_cases hla : k < na
  ·have hkla : k < a.length := by rw [Hna.out]; exact hla
   obtain ⟨bA, oA, hA, hbA, c0⟩ := Row.at_ HA.out (k := k) (by rw [natV_len]; exact hkla)
   rw [hA]
   have e0 : (natV a)[k]'(by rw [natV_len]; exact hkla) = .int .i64 ((a[k]'hkla : Nat) : Int) := by unfold natV; rw [List.getElem_map]
   rw [e0] at c0
   by_cases hlb : k < nb
   ·have hklb : k < b.length := by rw [Hnb.out]; exact hlb
    obtain ⟨bB, oB, hB, hbB, d0⟩ := Row.at_ HB.out (k := k) (by rw [natV_len]; exact hklb)
    have e1 : (natV b)[k]'(by rw [natV_len]; exact hklb) = .int .i64 ((b[k]'hklb : Nat) : Int) := by unfold natV; rw [List.getElem_map]
    rw [e1] at d0
    rw [hB]
    have Hst := kp (cmpN_drop hkla hklb)
    have HCk := kp (HC.out (a[k]'hkla) (b[k]'hklb) w)
    clear e0 e1 hA hB
    generalize (a[k]'hkla) = x at *
    generalize (b[k]'hklb) = y at *
    by_cases hz : cmp1 x y = 0
    ·have Hst2 := kp (show cmpN (a.drop k) (b.drop k) = cmpN (a.drop (k + 1)) (b.drop (k + 1)) by rw [Hst.out, if_pos hz])
     rw [hz] at HCk
     clear hz Hst
     have h00 : ((0 : Int) != 0) = false := by simp
     go_wp2_with fail
     refine HCk.out.mono ?_
     rintro e w' ⟨rfl, rfl⟩
     go_wp2_with fail
     go_round
     case rel => exact ⟨k + 1, by omega, by omega, by go_num, by rw [He.out, Hst2.out]⟩
     case measure => simp [intOf]; omega
    ·have Hst2 := kp (show cmp1 x y = cmpN a b by rw [He.out, Hst.out, if_neg hz])
     have hne : (cmp1 x y != 0) = true := by simpa using hz
     generalize cmp1 x y = V at *
     clear hz Hst
     go_wp2_with fail
     refine HCk.out.mono ?_
     rintro e w' ⟨rfl, rfl⟩
     go_wp2_with fail
     go_ret
     exact ⟨congrArg (fun v => Ending.returned (Value.int .i64 v)) Hst2.out, rfl⟩
   ·have Hst2 := kp (show (1 : Int) = cmpN a b by
     rw [He.out, List.drop_eq_getElem_cons hkla, show b.drop k = [] from List.drop_of_length_le (by rw [Hnb.out]; omega)]; rfl)
    clear e0 hA
    generalize (a[k]'hkla) = x at *
    go_wp2_with fail
    go_ret
    exact ⟨congrArg (fun v => Ending.returned (Value.int .i64 v)) Hst2.out, rfl⟩
  ·obtain rfl : k = na := by omega
   by_cases hlb : k < nb
   ·have Hst2 := kp (show (-1 : Int) = cmpN a b by
     rw [He.out, show a.drop k = [] from List.drop_of_length_le (by rw [Hna.out]; exact Nat.le_refl _), List.drop_eq_getElem_cons (show k < b.length by rw [Hnb.out]; exact hlb)]; rfl)
    go_wp2_with fail
    go_ret
    exact ⟨congrArg (fun v => Ending.returned (Value.int .i64 v)) Hst2.out, rfl⟩
   ·have Hst2 := kp (show (0 : Int) = cmpN a b by
     rw [He.out, show a.drop k = [] from List.drop_of_length_le (by rw [Hna.out]; exact Nat.le_refl _), show b.drop k = [] from List.drop_of_length_le (by rw [Hnb.out]; omega)]; rfl)
    go_wp2_with fail
    go_ret
    exact ⟨congrArg (fun v => Ending.returned (Value.int .i64 v)) Hst2.out, rfl⟩
set_option maxHeartbeats 1000000 in
theorem factcmp_any (f g : Fa) (w : World) (hf : f.keys.length ≤ 1000000) (hg : g.keys.length ≤ 1000000) (hrf : Row w w.heap.size f.A (natV f.keys)) (hrg : Row w w.heap.size g.A (natV g.keys)) :
 Calls Tryz.prog 52 #[.agg (factC f), .agg (factC g)] w fun e w' => e = .returned (.int .i64 (cmpN f.keys g.keys)) ∧ w' = (w.alloc (.cells (factC f) 78)).alloc (.cells (factC g) 78) := by
 have hb1 := (Below.refl w.heap.size w).alloc (Nat.le_refl _) (.cells (factC f) 78)
 have hb0 := hb1.alloc hb1.size (.cells (factC g) 78)
 have hB1 := (Box.new w 78 (factC f)).alloc (.cells (factC g) 78)
 have hB2 := Box.lay (w := w.alloc (.cells (factC f) 78)) (g := w.heap.size + 1) (t := 78) (cs := factC g) (by simp)
 have HC := kp (compare_any f.A g.A f.c g.c f.keys g.keys ((w.alloc (.cells (factC f) 78)).alloc (.cells (factC g) 78)) hf hg ((hrf.below hb0).more hb0.size) ((hrg.below hb0).more hb0.size))
 obtain ⟨x0, _⟩ := Box.eleven hB1
 obtain ⟨y0, _⟩ := Box.eleven hB2
 clear hf hg hrf hrg hb1 hb0 hB1 hB2
 unfold factC at *
 generalize cmpN f.keys g.keys = V at *
 go_enter Tryz.func52, Tryz.ntmps52
 go_wp2_with fail
 refine HC.out.mono ?_
 rintro e w' ⟨rfl, h⟩
 go_wp2_with fail
 go_ret
 exact ⟨rfl, h.symm⟩
end Go.Proofs.YthmbgbmcdbdecaaGreat.Tc
