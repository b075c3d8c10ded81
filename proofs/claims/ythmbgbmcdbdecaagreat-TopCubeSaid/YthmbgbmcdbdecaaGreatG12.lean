/- Parts of a proof: Layer 21: facts, cut into runs. -/
import Derived.Test.YthmbgbmcdbdecaaGreatG11
import Derived.Maps.Own
import Derived.Maps.OwnOps
import Derived.Maps.OwnSet
import Derived.Maps.Views
import Derived.RangeFuncNested
import Derived.RangeFuncBound
import Derived.RangeFuncCalls
import Derived.RangeFuncLeaves
import Derived.RangeFuncBox
import Derived.Shelf.Abstract
import Derived.Shelf.RegionOpen
import Derived.OwnWalkIn
import Derived.TacticsInMore
import Derived.LoopNIn
import Derived.LoopIn
namespace Go.Proofs.YthmbgbmcdbdecaaGreat.Tc
open Go.RowKit Base
set_option linter.unusedVariables false
set_option linter.unusedSimpArgs false
section
attribute [local go_sem] Oper.semAt_some
def Keep2 (b1 b2 : Nat) (W W' : World) : Prop := W'.heap[b1]? = W.heap[b1]? ∧ W'.heap[b2]? = W.heap[b2]?
theorem Keep2.trans {b1 b2 : Nat} {A B C : World} (h : Keep2 b1 b2 A B) (k : Keep2 b1 b2 B C) : Keep2 b1 b2 A C := ⟨k.1.trans h.1, k.2.trans h.2⟩
theorem keep2_b {b1 b2 : Nat} {w : World} (h1 : b1 < w.heap.size) (h2 : b2 < w.heap.size) (W : World) (l : Nat) (o o' : Obj) (hl : w.heap.size ≤ l) (h : W.heap[l]? = some o) (_ : o.isCells = false) (_ : o.isWalk = false) : Keep2 b1 b2 W (W.putObj l o') :=
 ⟨World.putObj_heap_other (by omega), World.putObj_heap_other (by omega)⟩
abbrev Part (n size : Nat) := { i : Nat // i * size < n }
def partV (b off e n size i : Nat) : Value := .slice (some ⟨b, off + i * size * e, none⟩) (min size (n - i * size)) (min size (n - i * size))
set_option maxRecDepth 100000 in
set_option maxHeartbeats 2000000 in
theorem chunkF_stops (nn : Nat) (hn : 1 ≤ nn) (bs bn b off n cap size : Nat) (hsz : 1 ≤ size) (hs2 : size ≤ 1000000) (hn2 : n ≤ 1000000) (hnc : n ≤ cap) (hcm : cap ≤ 9223372036854775807) (w : World) (hbs : bs < w.heap.size) (hbn : bn < w.heap.size)
 (A : Option Addr) (hA : n = 0 ∨ A = some ⟨b, off, none⟩) (hcs : w.cell? ⟨bs, 0, none⟩ = some (.slice A n cap)) (hcn : w.cell? ⟨bn, 0, none⟩ = some (.int .i64 size)) :
 SeqStopsK Fence.wide nn Tryz.prog 132 #[.pointer (some ⟨bs, 0, none⟩), .pointer (some ⟨bn, 0, none⟩)] (fun x : Part n size => #[partV b off 11 n size x.1]) (Keep2 bs bn) (fun xs => xs.map (·.1) = List.range xs.length ∧ n ≤ xs.length * size) (fun _ => True) (n + 1) w := by
 intro l J Jx W hW hAJ _ hY h0
 have HAJ := kp hAJ
 have HY := kp hY
 clear hAJ hY
 have hcs' := (hW.cell (p := ⟨bs, 0, none⟩) hbs).trans hcs
 have hcn' := (hW.cell (p := ⟨bn, 0, none⟩) hbn).trans hcn
 refine callsIn_of_wp Tryz.func132 rfl trivial ?_ rfl
 simp only [Tryz.ntmps132, List.size_toArray, List.length_cons, List.length_nil, Nat.reduceAdd, Nat.reduceSub, Array.replicate_succ, Array.replicate_zero, List.push_toArray, List.append_toArray, List.nil_append, List.cons_append]
 gi_wp2
 gi_loopw [4] (fun i wr => ∃ (k q : Nat) (pre : List (Part n size)), q = k * size ∧ pre.length = k ∧ pre.map (·.1) = List.range k ∧ k ≤ n ∧ i = .int .i64 (q : Int) ∧ q ≤ n + size ∧ J pre wr ∧ Keep2 bs bn W wr)
  (fun i _ => n + size - (intOf i).toNat)
 case atStart => exact ⟨0, 0, [], by simp, rfl, rfl, Nat.zero_le _, rfl, Nat.zero_le _, h0, rfl, rfl⟩
 case round =>
  obtain ⟨k, q, pre, hq, hpl, hpm, hk, rfl, hqn, hJs, hkp⟩ := hrel
  have c1 : wr.cell? ⟨bs, 0, none⟩ = some (.slice A n cap) := (World.cell?_of_block (a := ⟨bs, 0, none⟩) hkp.1).trans hcs'
  have c2 : wr.cell? ⟨bn, 0, none⟩ = some (.int .i64 size) := (World.cell?_of_block (a := ⟨bn, 0, none⟩) hkp.2).trans hcn'
  have Hq := kp hq
  have Hpl := kp hpl
  have Hpm := kp hpm
  have Hkp := kp hkp
  have HJ := kp hJs
  clear hq hpl hpm hkp hJs
  by_cases hlt : q < n
  ·obtain rfl : A = some ⟨b, off, none⟩ := hA.resolve_left (by omega)
   obtain ⟨r, hr⟩ : ∃ r, n - q = r := ⟨_, rfl⟩
   have hcq : ¬ cap = q := by omega
   have hr1 : 1 ≤ r := by omega
   have hqr : q + r = n := by omega
   have hkx : k * size < n := by rw [← Hq.out]; exact hlt
   have HJd := kp (HAJ.out pre wr wr.drew none HJ.out ⟨rfl, rfl, rfl, Nat.le_refl _, fun _ _ _ => rfl⟩ (fun r e => by cases e))
   have hkn : k ≤ n := hk
   have HYk := kp (HY.out pre ⟨k, hkx⟩ wr.drew HJd.out (by rw [Hpl.out]; omega))
   have hkn1 : k + 1 ≤ n := by
    have h1 : k * 1 ≤ k * size := Nat.mul_le_mul_left k hsz
    omega
   by_cases hm : r < size
   ·have hx : partV b off 11 n size k = .slice (some ⟨b, off + q * 11, none⟩) r r := by
     unfold partV
     rw [← Hq.out, hr, Nat.min_eq_right (by omega)]
    have HY2 := HYk.out
    dsimp only at HY2
    rw [hx] at HY2
    obtain ⟨fn, tmps, assign, body, hy, hR⟩ := HY2
    have HR := kp hR
    clear hx HYk hR
    have hw1 : IntKind.i64.wrap ((q : Int) + (r : Int)) = (q : Int) + (r : Int) := IntWalk.i64_in _ (by omega)
    have hle : (r : Int) ≤ (r : Int) := by omega
    gi_wp2
    gi_region
    gi_wp2
    refine HR.out.mono ?_
    rintro e W3 (⟨rfl, hJ3, hk3⟩ | ⟨rfl, hJx3⟩)
    ·have HJ3 := kp hJ3
     have Hk3 := kp (Hkp.out.trans (show Keep2 bs bn wr W3 from hk3))
     have d2 : W3.cell? ⟨bn, 0, none⟩ = some (.int .i64 size) := (World.cell?_of_block (a := ⟨bn, 0, none⟩) Hk3.out.2).trans hcn'
     clear hJ3 hk3 c1 c2
     gi_wp2
     go_roundw
     case rel => exact ⟨k + 1, q + size, pre ++ [⟨k, hkx⟩], by rw [Nat.add_mul, Nat.one_mul, ← Hq.out], by rw [List.length_append, Hpl.out]; rfl, by rw [List.map_append, Hpm.out, List.range_succ]; rfl, by omega, by simp, by omega, HJ3.out, Hk3.out⟩
     case measure => simp [intOf]; omega
    ·have HJx := kp hJx3
     clear hJx3
     gi_wp2
     refine bodyPost_ret (results_none rfl _ _ _) rfl ?_
     exact ⟨⟨_, rfl⟩, .inr ⟨_, trivial, HJx.out⟩⟩
   ·have hx : partV b off 11 n size k = .slice (some ⟨b, off + q * 11, none⟩) size size := by
     unfold partV
     rw [← Hq.out, hr, Nat.min_eq_left (by omega)]
    have HY2 := HYk.out
    dsimp only at HY2
    rw [hx] at HY2
    obtain ⟨fn, tmps, assign, body, hy, hR⟩ := HY2
    have HR := kp hR
    clear hx HYk hR
    have hw1 : IntKind.i64.wrap ((q : Int) + (size : Int)) = (q : Int) + (size : Int) := IntWalk.i64_in _ (by omega)
    have hle : (size : Int) ≤ (r : Int) := by omega
    gi_wp2
    gi_region
    gi_wp2
    refine HR.out.mono ?_
    rintro e W3 (⟨rfl, hJ3, hk3⟩ | ⟨rfl, hJx3⟩)
    ·have HJ3 := kp hJ3
     have Hk3 := kp (Hkp.out.trans (show Keep2 bs bn wr W3 from hk3))
     have d2 : W3.cell? ⟨bn, 0, none⟩ = some (.int .i64 size) := (World.cell?_of_block (a := ⟨bn, 0, none⟩) Hk3.out.2).trans hcn'
     clear hJ3 hk3 c1 c2
     gi_wp2
     go_roundw
     case rel => exact ⟨k + 1, q + size, pre ++ [⟨k, hkx⟩], by rw [Nat.add_mul, Nat.one_mul, ← Hq.out], by rw [List.length_append, Hpl.out]; rfl, by rw [List.map_append, Hpm.out, List.range_succ]; rfl, by omega, by simp, by omega, HJ3.out, Hk3.out⟩
     case measure => simp [intOf]; omega
    ·have HJx := kp hJx3
     clear hJx3
     gi_wp2
     refine bodyPost_ret (results_none rfl _ _ _) rfl ?_
     exact ⟨⟨_, rfl⟩, .inr ⟨_, trivial, HJx.out⟩⟩
  ·have Hl := kp (show n ≤ pre.length * size by rw [Hpl.out, ← Hq.out]; omega)
   gi_wp2
   go_end0
   exact ⟨⟨_, rfl⟩, .inl ⟨pre, ⟨by rw [Hpm.out, Hpl.out], Hl.out⟩, HJ.out⟩⟩
set_option maxHeartbeats 1000000 in
theorem chunkF_any (A : Option Addr) (n c size : Nat) (hsz : 1 ≤ size) (w : World) : Calls Tryz.prog 110 #[.slice A n c, .int .i64 size] w fun e w' => e = .returned (.func (.func 132) #[] #[.pointer (some ⟨w.heap.size, 0, none⟩), .pointer (some ⟨w.heap.size + 1, 0, none⟩)]) ∧ w' = (w.alloc (.cells #[.slice A n c] 32)).alloc (.cells #[.int .i64 size] 3) := by
 have h1 : ¬ ((size : Nat) : Int) < 1 := by omega
 go_enter Tryz.func110, Tryz.ntmps110
 go_wp2_with fail
 go_ret
 exact ⟨rfl, rfl⟩
structure Rn where
 A : Option Addr
 fs : List Fa
 c : Nat
def runV (r : Rn) : Value := .slice r.A r.fs.length r.c
def foot (A : Option Addr) (l : List Fa) (b : Nat) : Prop := (∃ off, A = some ⟨b, off, none⟩ ∧ l ≠ []) ∨ ∃ f ∈ l, ∃ off, f.A = some ⟨b, off, none⟩ ∧ natV f.keys ≠ []
theorem row_same {w w' : World} {B : Nat} {A : Option Addr} {vs : List Value} (h : Row w B A vs) (hs : ∀ b off, A = some ⟨b, off, none⟩ → vs ≠ [] → w'.heap[b]? = w.heap[b]?) : Row w' B A vs := by
 rcases h with h | ⟨b, off, e, hb, hc⟩
 ·exact .inl h
 ·by_cases h0 : vs = []
  ·exact .inl h0
  ·exact .inr ⟨b, off, e, hb, fun i v hv => (World.cell?_of_block (a := ⟨b, off + i, none⟩) (hs b off e h0)).trans (hc i v hv)⟩
theorem flat_ne {l : List Fa} (h : l.flatMap factV ≠ []) : l ≠ [] := by rintro rfl; exact h rfl
theorem FasAt.same {w w' : World} {B : Nat} {A : Option Addr} {l : List Fa} (h : FasAt w B A l) (hs : ∀ b, foot A l b → w'.heap[b]? = w.heap[b]?) : FasAt w' B A l :=
 ⟨row_same h.row fun b off e hne => hs b (.inl ⟨off, e, flat_ne hne⟩), fun f hf => row_same (h.keys f hf) fun b off e hne => hs b (.inr ⟨f, hf, off, e, hne⟩)⟩
theorem FasAt.foot_lt {w : World} {B : Nat} {A : Option Addr} {l : List Fa} (h : FasAt w B A l) {b : Nat} (hf : foot A l b) : b < B := by
 rcases hf with ⟨off, e, hne⟩ | ⟨f, hf, off, e, hne⟩
 ·rcases h.row with h0 | ⟨b', off', e', hb, _⟩
  ·have := flat_len factV_len l
   rw [h0] at this
   rcases l with _ | ⟨a, l⟩
   ·exact absurd rfl hne
   ·simp at this
  ·rw [e] at e'; injection e' with e'; injection e' with e1; omega
 ·rcases h.keys f hf with h0 | ⟨b', off', e', hb, _⟩
  ·exact absurd h0 hne
  ·rw [e] at e'; injection e' with e'; injection e' with e1; omega
def RnAp (w : World) (v : Value) (r : Rn) : Prop := FasAt w w.heap.size r.A r.fs ∧ ∀ b, foot r.A r.fs b → v.ownBlock ≠ some b
theorem RnAp.app {wr w' : World} {v v' : Value} {r : Rn} (h : RnAp wr v r) (ha : App wr w' v v') : RnAp w' v' r := by
 refine ⟨(h.1.same fun b hb => ha.farK (h.1.foot_lt hb) (h.2 b hb)).more ha.grown.size, fun b hb => ?_⟩
 rcases ha.lies with hl | ⟨k, hl, hk⟩
 ·rw [hl]; exact h.2 b hb
 ·rw [hl]
  intro hh
  injection hh with hh
  have := h.1.foot_lt hb
  omega
theorem RnAp.below {w w' : World} {v : Value} {r : Rn} (h : RnAp w v r) (hb : Below w.heap.size w w') : RnAp w' v r := ⟨(h.1.below hb).more hb.size, h.2⟩
theorem RnAp.new {w : World} {B n c : Nat} {A : Option Addr} {l : List Fa} {v : Value} (h : FasOwn w B (.slice A n c) l) (hk : KeysFrom B l) (hv : ∀ k, v.ownBlock = some k → k < B) : RnAp w v ⟨A, l, c⟩ := by
 refine ⟨h.fas, fun b hb hh => ?_⟩
 have h1 := hv b hh
 rcases hb with ⟨off, e, hne⟩ | ⟨f, hf, off, e, hne⟩
 ·dsimp only at e
  subst e
  have := (h.1.lt b rfl).1
  omega
 ·have := hk f hf b off e hne
  omega
theorem FasAt.sub {w : World} {B b off : Nat} {l : List Fa} (h : FasAt w B (some ⟨b, off, none⟩) l) (i e : Nat) : FasAt w B (some ⟨b, off + i * 11, none⟩) ((l.drop i).take e) := by
 refine ⟨?_, fun f hf => h.keys f (List.mem_of_mem_drop (List.mem_of_mem_take hf))⟩
 rcases h.row with h0 | ⟨b', off', e', hb, hc⟩
 ·have hl : l = [] := by
   have := flat_len factV_len l
   rw [h0] at this
   rcases l with _ | ⟨a, l⟩
   ·rfl
   ·simp at this
  subst hl
  exact .inl (by simp)
 ·injection e' with e'
  injection e' with e1 e2 _
  subst e1 e2
  refine .inr ⟨b, off + i * 11, rfl, hb, fun j v hv => ?_⟩
  obtain ⟨hj, hg⟩ := flat_get factV_len (by omega) hv
  rw [List.length_take, List.length_drop] at hj
  rw [List.getElem_take, List.getElem_drop] at hg
  have := hc ((i + j / 11) * 11 + j % 11) v (by rw [flat_at factV_len l (i + j / 11) (by omega) (j % 11) (Nat.mod_lt _ (by omega))]; exact hg)
  have e3 : off + ((i + j / 11) * 11 + j % 11) = off + i * 11 + j := by
   have := Nat.div_add_mod j 11
   omega
  rw [e3] at this
  exact this
end
end Go.Proofs.YthmbgbmcdbdecaaGreat.Tc
