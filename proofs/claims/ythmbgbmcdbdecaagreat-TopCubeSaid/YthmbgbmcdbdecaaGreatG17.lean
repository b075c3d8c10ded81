/- Parts of a proof: Layer 22: runs merged, so many at a time. Layer 23: facts sorted in runs. Layer 24: sums that fit, or are told (package exact and its reference). -/
import Derived.Test.YthmbgbmcdbdecaaGreatG01
import Derived.Test.YthmbgbmcdbdecaaGreatG05
import Derived.Test.YthmbgbmcdbdecaaGreatG16
import Derived.LoopN
import Derived.OpenShut
import Derived.ChangeOld
import Derived.ShutString
import Derived.SliceStrings
import Derived.Lib.SmallJoins
import Derived.Deep.Grids
import Derived.Deep.Slices
import Derived.Deep.Fields
import Derived.ChangeSame
import Derived.OrdersHeld
import Derived.Deep.RegionHeld3
import Derived.StillTail
import Derived.WalkLawsBesides
import Derived.WalkSpells
import Derived.Deep.QuietTactic
import Derived.BigQuiet
import Derived.Deep.Cut
import Derived.Lib.Strings
namespace Go.Proofs.YthmbgbmcdbdecaaGreat.Tc
open Go.RowKit Base
set_option linter.unusedVariables false
set_option linter.unusedSimpArgs false
section
attribute [local go_sem] Oper.semAt_some
def partR (rs : List Rn) (size i : Nat) : List Rn := (rs.drop (i * size)).take size
def PassI (rs : List Rn) (size n0 B D0 : Nat) (w0 : World) (pre : List (Part rs.length size)) (W : World) : Prop :=
 (∃ (v : Value) (out : List Rn), Boxed W B 121 v ∧ W.ownsRow D0 32 1 v out.length (out.map runV) ∧ (∀ r ∈ out, RnAp W v r ∧ ∀ b, foot r.A r.fs b → D0 ≤ b) ∧ (out.length = pre.length ∧ ∀ i (h : i < out.length), SortedF (out[i]'h).fs ∧ ∀ j, pre[i]?.map (·.1) = some j → (pls (out[i]'h).fs).Perm (runsPl (partR rs size j))) ∧ D0 ≤ W.heap.size) ∧ Below n0 w0 W
theorem passI_own (rs : List Rn) (size n0 B D0 D : Nat) (w0 : World) (hn : n0 ≤ w0.heap.size) (hD : n0 ≤ D) : OwnFrom D (PassI rs size n0 B D0 w0) := by
 refine OwnFrom.and (Own.from (fun pre W W' row hs hg hr => ?_) _) (ownFrom_below hn hD)
 obtain ⟨v, out, h1, h2, h3, h4, h5⟩ := hs
 refine ⟨v, out, h1.kept hg (fun e' => ?_), h2.kept hg ?_, fun r hr' => ⟨⟨?_, (h3 r hr').1.2⟩, (h3 r hr').2⟩, h4, Nat.le_trans h5 hg.size⟩
 ·obtain ⟨o, ho, hc⟩ := hr B e'.symm
  rw [show W.heap[B]? = _ from h1] at ho; cases ho; cases hc
 ·rcases h2.2 with ⟨rfl, _⟩ | ⟨g, cap, cur, rfl, _, hgb, _⟩
  ·exact .inl rfl
  ·refine .inr fun e' => ?_
   obtain ⟨o, ho, hc⟩ := hr g (by simpa [Value.ownBlock] using e'.symm)
   rw [hgb] at ho; cases ho; cases hc
 ·exact FasAt.more ⟨row_kept (h3 r hr').1.1.row hg hr, fun f hf => row_kept ((h3 r hr').1.1.keys f hf) hg hr⟩ hg.size
theorem RnsAt.sub {w : World} {B b off : Nat} {rs : List Rn} (h : RnsAt w B (some ⟨b, off, none⟩) rs) (i e : Nat) : RnsAt w B (some ⟨b, off + i, none⟩) ((rs.drop i).take e) := by
 refine ⟨?_, fun r hr => h.each r (List.mem_of_mem_drop (List.mem_of_mem_take hr))⟩
 rcases h.row with h0 | ⟨b', off', e', hb, hc⟩
 ·have : rs = [] := by simpa using h0
  subst this
  exact .inl (by simp)
 ·injection e' with e'
  injection e' with e1 e2 _
  subst e1 e2
  refine .inr ⟨b, off + i, rfl, hb, fun j v hv => ?_⟩
  rw [List.map_take, List.map_drop, List.getElem?_take] at hv
  split at hv
  ·rw [List.getElem?_drop] at hv
   have := hc (i + j) v hv
   rw [show off + (i + j) = off + i + j by omega] at this
   exact this
  ·cases hv
theorem RnsAt.below {w w' : World} {B : Nat} {A : Option Addr} {rs : List Rn} (h : RnsAt w B A rs) (hb : Below B w w') : RnsAt w' B A rs := ⟨h.row.below hb, fun r hr => (h.each r hr).below hb⟩
theorem RnsAt.more {w : World} {B B' : Nat} {A : Option Addr} {rs : List Rn} (h : RnsAt w B A rs) (hB : B ≤ B') : RnsAt w B' A rs := ⟨h.row.more hB, fun r hr => (h.each r hr).more hB⟩
def PassRet (ps : List (List Nat × Ag)) (w : World) (e : Ending) (w' : World) : Prop := ∃ (v : Value) (n : Int) (l : List Fa), e = .returned (.tuple #[v, .int .i64 n, .int .i64 0]) ∧ (l.map pl).Perm ps ∧ SortedF l ∧ FasOwn w' w.heap.size v l ∧ KeysFrom w.heap.size l ∧ Below w.heap.size w w'
theorem PassRet.mk {ps : List (List Nat × Ag)} {w : World} {v : Value} {n : Int} {l' : List Fa} {w' : World} (h1 : (l'.map pl).Perm ps) (h2 : SortedF l') (h3 : FasOwn w' w.heap.size v l') (h4 : KeysFrom w.heap.size l') (hb : Below w.heap.size w w') : PassRet ps w (.returned (.tuple #[v, .int .i64 n, .int .i64 0])) w' := ⟨v, n, l', rfl, h1, h2, h3, h4, hb⟩
set_option maxRecDepth 100000 in
set_option maxHeartbeats 4000000 in
theorem passes1_any (A : Option Addr) (rs : List Rn) (c fan : Nat) (w : World) (hf : 2 ≤ fan) (hf2 : fan ≤ 1000000) (h1 : rs.length ≤ 1) (hr : RnsAt w w.heap.size A rs) (ho : ∀ r ∈ rs, RunOk r) :
 Calls Tryz.prog 51 #[.int .i64 fan, .slice A rs.length c] w (PassRet (runsPl rs) w) := by
 have HC := kp factclone_any
 have h2f : ¬ ((fan : Nat) : Int) < 2 := by omega
 have h2fd : decide ((fan : Int) < 2) = false := decide_eq_false h2f
 rcases rs with _ | ⟨r, _ | ⟨r', rs⟩⟩
 ·have Hf := kp (show ∀ n : Int, PassRet (runsPl []) w (.returned (.tuple #[.slice none 0 0, .int .i64 n, .int .i64 0])) w from fun n => PassRet.mk (by simp [runsPl]) List.Pairwise.nil ⟨own_nil _ _ _ _, fun f hf => by cases hf⟩ (fun f hf => by cases hf) (Below.refl _ _))
  generalize hQ : PassRet (runsPl []) w = Q at *
  clear hQ hr ho h1
  rw [show ([] : List Rn).length = 0 from rfl]
  go_enter Tryz.func51, Tryz.ntmps51
  go_wp2_with fail
  refine wp_loop_rounds 1 ?_
  rw [rounds_succ]
  go_wp2_with fail
  refine bodyPost_ret (v := .tuple #[.slice none 0 0, .int .i64 0, .int .i64 0]) (by simp [results, Tryz.results51, go_sem]) rfl (Hf.out 0)
 ·have hRow := hr.row
  have hrf := hr.each r (by simp)
  have hok := ho r (by simp)
  obtain ⟨b, off, hA, hb, c0⟩ := Row.at_ hRow (k := 0) (by simp)
  have c1 : w.cell? ⟨b, off, none⟩ = some (.slice r.A r.fs.length r.c) := c0
  subst hA
  have HCk := kp (HC.out r.A r.fs r.c w (Nat.le_trans hok.len (by omega)) hok.keys hrf)
  have Hf := kp (show ∀ (n : Int) v l' w', l'.map pl = r.fs.map pl → FasOwn w' w.heap.size v l' → KeysFrom w.heap.size l' → Below w.heap.size w w' → PassRet (runsPl [r]) w (.returned (.tuple #[v, .int .i64 n, .int .i64 0])) w' from fun n v l' w' h1 h2 h3 h4 => PassRet.mk (by rw [h1]; simp [runsPl, pls]) (sortedF_pl h1 hok.sorted) h2 h3 h4)
  generalize hQ : PassRet (runsPl [r]) w = Q at *
  clear hQ hr ho h1 c0 hRow hrf hok hb
  rw [show [r].length = 1 from rfl]
  go_enter Tryz.func51, Tryz.ntmps51
  go_wp2_with fail
  refine wp_loop_rounds 1 ?_
  rw [rounds_succ]
  go_wp2_with fail
  refine HCk.out.mono ?_
  rintro e w1 ⟨v, l', rfl, h1, h2, h3, h4⟩
  have Hff := kp (fun n => Hf.out n v l' w1 h1 h2 h3 h4)
  clear h1 h2 h3 h4 c1
  go_wp2_with fail
  refine bodyPost_ret (v := .tuple #[v, .int .i64 0, .int .i64 0]) (by simp [results, Tryz.results51, go_sem]) rfl (Hff.out 0)
 ·simp at h1
set_option maxRecDepth 100000 in
set_option maxHeartbeats 4000000 in
theorem passes2_any (A : Option Addr) (rs : List Rn) (c fan : Nat) (w : World) (hf : 2 ≤ fan) (hf2 : fan ≤ 1000000) (h2 : rs.length = 2) (hlc : rs.length ≤ c) (hcm : c ≤ 9223372036854775807) (hr : RnsAt w w.heap.size A rs) (ho : ∀ r ∈ rs, RunOk r) :
 Calls Tryz.prog 51 #[.int .i64 fan, .slice A rs.length c] w (PassRet (runsPl rs) w) := by
 have HC := kp factclone_any
 have HMg := kp merge_any
 have HCh := kp chunkR_any
 have Hr := kp hr
 have Ho := kp ho
 obtain ⟨i0, ti0, tz0, tz1, tz2⟩ := info_parts info_facts
 have h2f : ¬ ((fan : Nat) : Int) < 2 := by omega
 have h2fd : decide ((fan : Int) < 2) = false := decide_eq_false h2f
 obtain ⟨b, off, hA⟩ : ∃ b off, A = some ⟨b, off, none⟩ := by
  obtain ⟨b, off, hA, _⟩ := Row.at_ hr.row (k := 0) (by rw [List.length_map]; omega)
  exact ⟨b, off, hA⟩
 subst hA
 have hfr : fan ≥ 2 := hf
 have Hlen := kp (runsPl_len (by omega) (fun r hr => (ho r hr).len))
 clear hr ho
 have HQ := kp (show ∀ v (n : Int) l' w', (l'.map pl).Perm (runsPl rs) → SortedF l' → FasOwn w' w.heap.size v l' → KeysFrom w.heap.size l' → Below w.heap.size w w' → PassRet (runsPl rs) w (.returned (.tuple #[v, .int .i64 n, .int .i64 0])) w' from fun v n l' w' h1 h2 h3 h4 hb => PassRet.mk h1 h2 h3 h4 hb)
 generalize hQ : PassRet (runsPl rs) w = Q at *
 clear hQ
 obtain ⟨m, hm⟩ : ∃ m, rs.length = m := ⟨_, rfl⟩
 have Hm := kp hm
 have Hm2 := kp h2
 have hm1 : 1 < m := by omega
 have hm3 : m ≤ 2 := by omega
 rw [hm] at hlc ⊢
 clear h2 hm
 refine (callsIn_wide (n := 9)).1 ?_
 refine callsIn_of_wp_marks Tryz.func51 rfl trivial ?_ rfl
 simp only [Tryz.ntmps51, List.size_toArray, List.length_cons, List.length_nil, Nat.reduceAdd, Nat.reduceSub, Array.replicate_succ, Array.replicate_zero, List.push_toArray, List.append_toArray, List.nil_append, List.cons_append]
 gi_wp2
 refine wpIn_loop_rounds 2 ?_
 rw [roundsIn_succ]
 gi_wp2_with (refine ⟨trivial, ?_⟩; gi_at_call 84; refine (callsIn_wide.2 (HCh.out (some ⟨b, off, none⟩) m c fan (by omega) _)).mono ?_; rintro e w' ⟨rfl, rfl⟩)
 obtain ⟨W0, hW0⟩ : ∃ W0, ((w.alloc (.cells #[.slice none 0 0] 121)).alloc (.cells #[.slice (some ⟨b, off, none⟩) m c] 121)).alloc (.cells #[.int .i64 fan] 3) = W0 := ⟨_, rfl⟩
 have hs0 : W0.heap.size = w.heap.size + 3 := by rw [← hW0]; simp
 have hBW : Below w.heap.size w W0 := by rw [← hW0]; exact (((Below.refl _ w).alloc (Nat.le_refl _) _).alloc (by simp) _).alloc (by simp; omega) _
 have hB0 : Boxed W0 w.heap.size 121 (.slice none 0 0) := by rw [← hW0]; exact ((Boxed.new w _ _).alloc _).alloc _
 have hB1 : Box W0 (w.heap.size + 1) 121 #[.slice (some ⟨b, off, none⟩) m c] := by
  rw [← hW0]
  exact Box.alloc (Box.lay (w := w.alloc (.cells #[.slice none 0 0] 121)) (by simp)) _
 have hB2 : Box W0 (w.heap.size + 1 + 1) 3 #[.int .i64 fan] := by
  rw [← hW0]
  exact Box.lay (w := (w.alloc (.cells #[.slice none 0 0] 121)).alloc (.cells #[.slice (some ⟨b, off, none⟩) m c] 121)) (by simp)
 rw [hW0]
 clear hW0
 have hstops := chunkR_stops 8 (by omega) (w.heap.size + 1) (w.heap.size + 1 + 1) b off rs.length c fan (by omega) hf2 (by have := Hm.out; omega) (by have := Hm.out; omega) hcm W0 (by omega) (by omega) (some ⟨b, off, none⟩) (.inr rfl) (by rw [Hm.out]; exact hB1.one.1) hB2.one.1
 refine wpIn_rangeFunc_ownF rfl (by omega) (gf := 111) (lb := #[.pointer (some ⟨w.heap.size + 1, 0, none⟩), .pointer (some ⟨w.heap.size + 1 + 1, 0, none⟩)]) rfl trivial (enters_of Tryz.func111 (by kernel_rfl) rfl)
  hstops (fun h k => h.trans k) (keep2_b (by omega) (by omega)) (Below.refl _ _) (fun _ => rfl)
  (PassI rs fan w.heap.size w.heap.size (w.heap.size + 3) w) (fun _ _ _ => False) (passI_own rs fan w.heap.size w.heap.size (w.heap.size + 3) _ w (Nat.le_refl _) (by omega)) (fun _ _ _ _ _ hs _ _ => hs)
  ⟨⟨.slice none 0 0, [], hB0, own_nil _ _ _ _, (fun r hr => by cases hr), ⟨rfl, fun i h => by simp at h⟩, by omega⟩, hBW⟩
  (fun x => { tmps := #[.int .i64 fan, .slice (some ⟨b, off, none⟩) m c, undef, undef, .slice none 0 0, .int .i64 0, .int .i64 0, .int .i64 0, .pointer (some ⟨w.heap.size, 0, none⟩), partV b off 1 rs.length fan x.1, .int .i64 fan, .bool false, .slice (some ⟨b, off, none⟩) m c, .int .i64 m, .bool true, undef, undef, .slice (some ⟨b, off, none⟩) m c, .int .i64 fan, .func (.func 111) #[] #[.pointer (some ⟨w.heap.size + 1, 0, none⟩), .pointer (some ⟨w.heap.size + 1 + 1, 0, none⟩)], partV b off 1 rs.length fan x.1, undef, undef, undef, undef, undef, undef, undef, undef, undef, undef, undef, undef, undef, undef, undef], defers := [] }) ?assign ?body ?done ?stop
 case assign =>
  intro lp x W K hK
  gi_wp2
  exact hK
 case body =>
  rintro lp pre x W ⟨⟨v, out, hbx, hown, hap, hpl, hD0⟩, hbe⟩ hlen
  obtain ⟨i, hi⟩ := x
  have hrn := ((Hr.out.below hbe).more hbe.size).sub (i * fan) fan
  have hpt : partV b off 1 rs.length fan i = .slice (some ⟨b, off + i * fan, none⟩) (partR rs fan i).length (partR rs fan i).length := by
   unfold partV partR
   rw [List.length_take, List.length_drop, Nat.mul_one]
  have HCk := kp (fun W' (hb : Below W.heap.size W W') => HMg.out (some ⟨b, off + i * fan, none⟩) (partR rs fan i) (partR rs fan i).length W' (by unfold partR; rw [List.length_take, List.length_drop]; have := Hm.out; omega) ((hrn.below hb).more hb.size) (fun r hr => Ho.out r (List.mem_of_mem_drop (List.mem_of_mem_take hr))))
  have Hbx := kp hbx
  have Hown := kp hown
  have Hap := kp hap
  have Hpl := kp hpl
  have Hbe := kp hbe
  obtain ⟨Av, cv, rfl⟩ := own_form hown
  have c0 := hbx.cell
  have f0 := hbx.frozen
  dsimp only
  rw [hpt]
  clear hbx hown hap hpl hbe hrn hpt
  have hltB : w.heap.size < W.heap.size := Hbx.out.lt
  gi_wp2
  refine wpIn_region_R (t := 5) (S := (fun w' => w'.cell? ⟨w.heap.size, 0, none⟩ = some (.slice Av out.length cv) ∧ w'.frozen? ⟨w.heap.size, 0, none⟩ = false)) (by kernel_rfl) (by kernel_rfl) ⟨c0, f0⟩ (fun hHeld => ?_)
  refine tk 0 hHeld ?_
  refine tk 1 hHeld ?_
  refine wpAnyT_one (i := 2) (o := ?op2) (by kernel_rfl) ?ap2 (by decide) (fun K hK => ?bp2)
  case ap2 => (simp only [List.getElem?_toArray, List.getElem?_cons_succ, List.getElem?_cons_zero]; exact rfl)
  go_simp
  refine (HCk.out _ (Below.refl _ _).drew).mono ?_
  rintro e w2 ⟨v2, l2, rfl, hpl2, hsl2, hown2, hkf2, hb2⟩
  have Hsl2 := kp hsl2
  clear hsl2
  obtain ⟨A2, c2, rfl⟩ := hown2.form
  have Hpl2 := kp hpl2
  have Hown2 := kp hown2
  have Hkf2 := kp hkf2
  have Hb2 := kp (show Below W.heap.size W w2 from (Below.refl _ _).drew.trans hb2)
  clear hpl2 hown2 hkf2 hb2
  refine hK.out _ _ ?_ (fun hHeld2 => ?_)
  ·exact ⟨cell_keep Hb2.out c0, by rw [frozen_below Hb2.out _ _ hltB]; exact f0⟩
  clear hK K hHeld
  have hHeld := hHeld2
  clear hHeld2
  try simp only [Act.put, List.setIfInBounds_toArray, List.set_cons_zero, List.set_cons_succ]
  have hltW : w.heap.size < w2.heap.size := Nat.lt_of_lt_of_le hltB Hb2.out.size
  have Hown1 := kp (own_below Hown.out Hb2.out)
  have Hap1 := kp (fun r hr => (Hap.out r hr).1.below Hb2.out)
  have HapN := kp (show RnAp w2 (.slice Av out.length cv) ⟨A2, l2, c2⟩ from RnAp.new (B := W.drew.heap.size) Hown2.out Hkf2.out (fun j hj => (Hown.out.lt j hj).2))
  have Hbe1 := kp (Hbe.out.trans (Hb2.out.mono Hbe.out.size))
  have HneG := kp (show ∀ j, j < w.heap.size + 3 → (Value.slice Av out.length cv).ownBlock ≠ some j from fun j hj hh => by have := (Hown.out.lt j hh).1; omega)
  have Hs1 := kp (show w.heap.size + 3 ≤ w2.heap.size from Nat.le_trans hD0 Hb2.out.size)
  have Hrl := kp (show out.length < 1048576 * 64 from by have := hlen; have := Hpl.out.1; have := Hm.out; omega)
  refine wpAnyT_one (i := 3) (o := ?op3) (by kernel_rfl) ?ap3 (by decide) (fun K hK => ?bp3)
  case ap3 => (simp only [List.getElem?_toArray, List.getElem?_cons_succ, List.getElem?_cons_zero]; exact rfl)
  go_simp
  refine hK.out _ _ ?_ (fun hHeld2 => ?_)
  ·exact ⟨cell_keep ((Below.refl _ _).alloc (Nat.le_refl _) _) hHeld.1, by rw [frozen_below ((Below.refl _ _).alloc (Nat.le_refl w2.heap.size) _) _ _ hltW]; exact hHeld.2⟩
  clear hK K hHeld
  have hHeld := hHeld2
  clear hHeld2
  try simp only [Act.put, List.setIfInBounds_toArray, List.set_cons_zero, List.set_cons_succ]
  refine wpAnyT_one (i := 4) (o := ?op4) (by kernel_rfl) ?ap4 (by decide) (fun K hK => ?bp4)
  case ap4 => (simp only [List.getElem?_toArray, List.getElem?_cons_succ, List.getElem?_cons_zero]; exact rfl)
  refine step_append1 rfl (.tmp 21) (.tmp 24) 121 rfl (w.heap.size + 3) 32 i0 (.slice none 0 0) 24 Tryz.underlying121 ti0 tz0 tz1 tz2 rfl w2 (.slice A2 l2.length c2) rfl (.slice Av out.length cv) out.length (out.map runV) rfl Hown1.out rfl Hrl.out (by decide) Hs1.out ?_
  intro v5 w5 hown5 happ5
  obtain ⟨A5, c5, h5⟩ := own_form hown5
  subst h5
  have Hown5 := kp hown5
  have Hapl := kp happ5
  clear hown5 happ5
  go_simp
  refine hK.out _ _ ?_ (fun hHeld2 => ?_)
  ·have e1 := (Hapl.out.farK hltW (HneG.out _ (by omega)))
   have e2 := (Below.heap_alloc w2 (.cells #[.slice A2 l2.length c2] 32) _ hltW)
   exact ⟨(World.cell?_of_block (a := ⟨w.heap.size, 0, none⟩) (e1.trans e2.symm)).trans hHeld.1, by have h := hHeld.2; unfold World.frozen? at h ⊢; rw [e1.trans e2.symm]; exact h⟩
  clear hK K hHeld
  have hHeld := hHeld2
  clear hHeld2
  try simp only [Act.put, List.setIfInBounds_toArray, List.set_cons_zero, List.set_cons_succ]
  refine wpAnyT_last (o := ?op5) (by kernel_rfl) ?ap5 (by kernel_rfl) (fun K hK => ?bp5)
  case ap5 => (simp only [List.getElem?_toArray, List.getElem?_cons_succ, List.getElem?_cons_zero]; exact rfl)
  obtain ⟨x1', x2'⟩ := hHeld
  have hHeld := x1'
  go_simp
  refine hK.out _ _ ?_
  clear hK K hHeld
  refine Tame.normal ?_
  try simp only [Act.put, List.setIfInBounds_toArray, List.set_cons_zero, List.set_cons_succ]
  have HbxF := kp (show Boxed (w5.setCell ⟨w.heap.size, 0, none⟩ (.slice A5 (out.length + 1) c5)) w.heap.size 121 (.slice A5 (out.length + 1) c5) from Boxed.set _ (show Boxed w5 w.heap.size 121 (.slice Av out.length cv) from (Hapl.out.farK hltW (HneG.out _ (by omega))).trans ((Hb2.out.block _ hltB).trans Hbx.out)))
  have Hgs := kp (grownBy_setCell' w5 w.heap.size (.slice A5 (out.length + 1) c5))
  have Hall := kp (show ∀ k, k < W.heap.size → k ≠ w.heap.size → (Value.slice Av out.length cv).ownBlock ≠ some k → (w5.setCell ⟨w.heap.size, 0, none⟩ (.slice A5 (out.length + 1) c5)).heap[k]? = W.heap[k]? from fun k hk h1 h2 => (Below.heap_setCell w5 ⟨w.heap.size, 0, none⟩ _ k h1).trans ((Hapl.out.farK (Nat.lt_of_lt_of_le hk Hb2.out.size) h2).trans (Hb2.out.block k hk)))
  have Hsz := kp (show W.heap.size ≤ w5.heap.size from Nat.le_trans Hb2.out.size Hapl.out.grown.size)
  refine ⟨⟨by simp; exact Hsz.out, fun k o ho hc => ?_⟩, ⟨Hall.out _ (by omega) (by omega) (HneG.out _ (by omega)), Hall.out _ (by omega) (by omega) (HneG.out _ (by omega))⟩, ⟨_, out ++ [⟨A2, l2, c2⟩], HbxF.out, ?_, ?_, ?_, by simp; exact Nat.le_trans hD0 Hsz.out⟩, ?_⟩
  ·have hkl : k < W.heap.size := (Array.getElem?_eq_some_iff.1 ho).1
   refine (Hall.out k hkl (fun e => ?_) (fun e => ?_)).trans ho
   ·subst e
    have := Hbx.out
    unfold Boxed at this
    rw [this] at ho
    injection ho with ho
    rw [← ho] at hc
    cases hc
   ·rcases Hown.out.2 with ⟨h0, _⟩ | ⟨g, cap, cur, h0, _, hgb, _⟩
    ·rw [h0] at e; cases e
    ·rw [h0] at e
     injection e with e
     subst e
     rw [hgb] at ho
     injection ho with ho
     rw [← ho] at hc
     cases hc
  ·rw [List.length_append, List.map_append]
   exact Hown5.out.kept Hgs.out (.inr (fun e => by have := (Hown5.out.lt _ e).1; omega))
  ·intro r hr
   have hft : ∀ b, foot r.A r.fs b → w.heap.size + 3 ≤ b := fun b hb => by
    rcases List.mem_append.1 hr with hr | hr
    ·exact (Hap.out r hr).2 b hb
    ·rw [List.mem_singleton.1 hr] at hb
     exact Nat.le_trans hD0 (foot_from Hown2.out Hkf2.out hb)
   have hra : RnAp w5 (.slice A5 (out.length + 1) c5) r := by
    rcases List.mem_append.1 hr with hr | hr
    ·exact (Hap1.out r hr).app Hapl.out
    ·rw [List.mem_singleton.1 hr]; exact HapN.out.app Hapl.out
   refine ⟨⟨?_, hra.2⟩, hft⟩
   have e : (w5.setCell ⟨w.heap.size, 0, none⟩ (.slice A5 (out.length + 1) c5)).heap.size = w5.heap.size := by simp
   rw [e]
   exact hra.1.same fun b hb => Below.heap_setCell w5 ⟨w.heap.size, 0, none⟩ _ b (by have := hft b hb; show b ≠ w.heap.size; omega)
  ·refine ⟨by rw [List.length_append, List.length_append, Hpl.out.1]; rfl, fun i' hi' => ?_⟩
   by_cases hid : i' < out.length
   ·rw [List.getElem_append_left hid]
    obtain ⟨g1, g2⟩ := Hpl.out.2 i' hid
    refine ⟨g1, fun j hj => g2 j ?_⟩
    rw [List.getElem?_append_left (by rw [← Hpl.out.1]; exact hid)] at hj
    exact hj
   ·have hie : i' = out.length := by rw [List.length_append] at hi'; simp at hi'; omega
    have hge : (out ++ [(⟨A2, l2, c2⟩ : Rn)])[i']'hi' = ⟨A2, l2, c2⟩ := by
     rw [List.getElem_append_right (by omega)]
     simp [hie]
    rw [hge]
    refine ⟨Hsl2.out, fun j hj => ?_⟩
    rw [List.getElem?_append_right (by rw [← Hpl.out.1]; omega), hie, Hpl.out.1, Nat.sub_self] at hj
    have hj2 : i = j := by simpa using hj
    subst hj2
    exact Hpl2.out
  ·exact (Hapl.out.belowK Hbe1.out Hown1.out (by omega) (by have := Hs1.out; omega)).setCell (p := ⟨w.heap.size, 0, none⟩) (Nat.le_refl _) _
 case done =>
  rintro D xs W hD ⟨hxs, hlx⟩ ⟨⟨v, out, hbx, hown, hap, hpl, hD0⟩, hbe⟩ hK
  have hx1 : xs.length = 1 := by
   rcases xs with _ | ⟨x, _ | ⟨y, xs⟩⟩
   ·simp at hlx; have := Hm2.out; simp [hlx] at this
   ·rfl
   ·have e : y.1 = 1 := by
     simp only [List.map_cons, List.length_cons] at hxs
     have := congrArg (fun l => l[1]?) hxs
     simp at this
     exact this
    have := y.2
    rw [e] at this
    have := Hm2.out
    omega
  have hx0 : (xs[0]?).map (·.1) = some 0 := by
   have := congrArg (fun l => l[0]?) hxs
   rw [hx1] at this
   simpa using this
  obtain ⟨ho1, ho2⟩ := hpl
  rw [hx1] at ho1
  obtain ⟨r0, hr0⟩ : ∃ r0, out = [r0] := List.length_eq_one_iff.1 ho1
  subst hr0
  obtain ⟨hs0', hp0⟩ := ho2 0 (by simp)
  have hp1 := hp0 0 hx0
  have hpart : partR rs fan 0 = rs := by
   unfold partR
   rw [Nat.zero_mul, List.drop_zero, List.take_of_length_le (by have := Hm2.out; omega)]
  rw [hpart] at hp1
  simp only [List.getElem_cons_zero] at hs0' hp1
  obtain ⟨Av, cv, rfl⟩ := own_form hown
  have c0 := hbx.cell
  obtain ⟨bo, oo, hAo, hbo, d0⟩ := Row.at_ (row_ownK hown) (k := 0) (by simp)
  subst hAo
  have d1 : W.cell? ⟨bo, oo, none⟩ = some (.slice r0.A r0.fs.length r0.c) := d0
  have hra := (hap r0 (by simp)).1
  have hll : r0.fs.length ≤ 1000000 := by
   have h1 := hp1.length_eq
   unfold pls at h1
   rw [List.length_map] at h1
   have := Hlen.out
   omega
  have HCk := kp (HC.out r0.A r0.fs r0.c W hll (fun f hf => runsPl_keys (rs := rs) (fun r hr => (Ho.out r hr).keys) (hp1.mem_iff.1 (List.mem_map_of_mem (f := pl) hf))) hra.1)
  have Hs0 := kp hs0'
  have Hp1 := kp hp1
  have Hbe := kp hbe
  have HK := kp hK
  have hDl : D < W.heap.size := (Array.getElem?_eq_some_iff.1 hK).1
  clear hx0 ho2 hs0' hp0 hp1 hpart hown hap d0 hra hbe hK hxs hlx
  rw [show [r0].length = 1 from rfl] at c0
  gi_wp2
  rw [roundsIn_succ]
  gi_wp2_with (refine ⟨trivial, ?_⟩; gi_at_call 54; refine (callsIn_wide.2 HCk.out).mono ?_; rintro e w2 ⟨v, l', rfl, hpl', hown', hkf', hb'⟩; have Hpl' := kp hpl'; have Hown' := kp hown'; have Hkf' := kp hkf'; have Hb' := kp hb'; clear hpl' hown' hkf' hb')
  have hK2 := (Hb'.out.block D hDl).trans HK.out
  refine ⟨by simp, .inl ⟨_, _, rfl, run_takeDeferred hK2, ?_⟩⟩
  have hg := grownBy_putObj' w2 D (.deferred none)
  have hnc : ∀ r, some D = some r → ∃ o : Obj, w2.heap[r]? = some o ∧ o.isCells = false := fun r e => by cases e; exact ⟨_, hK2, rfl⟩
  refine ⟨.tuple #[v, .int .i64 1, .int .i64 0], by simp [results, Tryz.results51, go_sem], HQ.out v 1 l' _ ?_ (sortedF_pl Hpl'.out Hs0.out) ⟨?_, fun f hf => ⟨?_, (Hown'.out.2 f hf).2⟩⟩ (fun f hf b off e hne => Nat.le_trans Hbe.out.size (Hkf'.out f hf b off e hne)) ?_⟩
  ·rw [Hpl'.out]
   exact Hp1.out
  ·exact own_base (ownsRow_putObj Hown'.out.1 _ hK2 rfl) Hbe.out.size
  ·exact (row_kept (Hown'.out.2 f hf).1 hg hnc).more hg.size
  ·exact (Hbe.out.trans (Hb'.out.mono Hbe.out.size)).trans (belowK_b (w := w) (Nat.le_refl _) w2 D _ _ (by omega) hK2 rfl rfl)
 case stop =>
  rintro D c pre W _ _ h _
  exact h.elim
end
section
attribute [local go_sem] Oper.semAt_some
def KSortRet (ps : List (List Nat × Ag)) (w : World) (e : Ending) (w' : World) : Prop := ∃ (v : Value) (l : List Fa), e = .returned (.tuple #[v, .int .i64 0]) ∧ (l.map pl).Perm ps ∧ SortedF l ∧ FasOwn w' w.heap.size v l ∧ KeysFrom w.heap.size l ∧ Below w.heap.size w w'
theorem runs_perm {l : List Fa} {rs : List Rn} (hn : l.length ≤ 64) (h1 : ∀ i (h : i < rs.length), (pls rs[i].fs).Perm (pls (partL l 32 i))) (h2 : l.length ≤ rs.length * 32) (h3 : ∀ i, i < rs.length → i * 32 < l.length) : rs.length ≤ 2 ∧ (runsPl rs).Perm (pls l) := by
 have hr : rs.length ≤ 2 := by
  rcases Nat.lt_or_ge 2 rs.length with h | h
  ·have := h3 2 h; omega
  ·exact h
 refine ⟨hr, ?_⟩
 rcases rs with _ | ⟨a, _ | ⟨b, _ | ⟨c, rs⟩⟩⟩
 ·have : l = [] := List.eq_nil_of_length_eq_zero (by simpa using h2)
  subst this
  exact List.Perm.refl _
 ·have h := h1 0 (by simp)
  have e : partL l 32 0 = l := by
   unfold partL
   rw [Nat.zero_mul, List.drop_zero, List.take_of_length_le (by simpa using h2)]
  rw [e] at h
  simpa [runsPl] using h
 ·have ha := h1 0 (by simp)
  have hb := h1 1 (by simp)
  have e : pls l = pls (partL l 32 0) ++ pls (partL l 32 1) := by
   unfold partL pls
   rw [Nat.zero_mul, List.drop_zero, Nat.one_mul, ← List.map_append, List.take_of_length_le (l := l.drop 32) (by rw [List.length_drop]; omega), List.take_append_drop]
  rw [e]
  simpa [runsPl] using ha.append hb
 ·simp at hr
theorem FasOwn.base {w : World} {B B' : Nat} {v : Value} {l : List Fa} (h : FasOwn w B v l) (hb : B' ≤ B) : FasOwn w B' v l := ⟨own_base h.1 hb, h.2⟩
theorem passes_any (A : Option Addr) (rs : List Rn) (c fan : Nat) (w : World) (hf : 2 ≤ fan) (hf2 : fan ≤ 1000000) (h2 : rs.length ≤ 2) (hlc : rs.length ≤ c) (hcm : c ≤ 9223372036854775807) (hr : RnsAt w w.heap.size A rs) (ho : ∀ r ∈ rs, RunOk r) :
 Calls Tryz.prog 51 #[.int .i64 fan, .slice A rs.length c] w (PassRet (runsPl rs) w) := by
 rcases Nat.lt_or_ge rs.length 2 with h | h
 ·exact passes1_any A rs c fan w hf hf2 (by omega) hr ho
 ·exact passes2_any A rs c fan w hf hf2 (by omega) hlc hcm hr ho
set_option maxRecDepth 100000 in
set_option maxHeartbeats 4000000 in
theorem ksort_any (A : Option Addr) (l : List Fa) (c : Nat) (w : World) (hn : l.length ≤ 64) (hlc : l.length ≤ c) (hcm : c ≤ 9223372036854775807) (hk : ∀ f ∈ l, f.keys.length ≤ 1000000) (hr : FasAt w w.heap.size A l) :
 Calls Tryz.prog 21 #[.int .i64 32, .int .i64 4, .slice A l.length c] w (KSortRet (pls l) w) := by
 have HR := kp (runs_any A l c 32 w (by omega) (by omega) (by omega) hlc hcm hk hr)
 have HP := kp passes_any
 have Hn := kp hn
 have Hk := kp hk
 have HYes := kp (show ∀ v l' w', (l'.map pl).Perm (pls l) → SortedF l' → FasOwn w' w.heap.size v l' → KeysFrom w.heap.size l' → Below w.heap.size w w' → KSortRet (pls l) w (.returned (.tuple #[v, .int .i64 0])) w' from fun v l' w' h1 h2 h3 h4 hb => ⟨v, l', rfl, h1, h2, h3, h4, hb⟩)
 clear hr hk
 generalize hQ : KSortRet (pls l) w = Q at *
 clear hQ
 obtain ⟨m, hm⟩ : ∃ m, l.length = m := ⟨_, rfl⟩
 have Hm := kp hm
 rw [hm] at HR
 rw [hm] at hn hlc ⊢
 clear hm
 go_enter Tryz.func21, Tryz.ntmps21
 go_wp2_with fail
 refine HR.out.mono ?_
 rintro e w1 ⟨A1, c1, rs, rfl, hat, ⟨hc1, hc2⟩, hall, hle, hix, hb1⟩
 obtain ⟨h2, hperm⟩ := runs_perm Hn.out (fun i h => (hall i h).2.1) hle hix
 have hkeys : ∀ r ∈ rs, ∀ f ∈ r.fs, f.keys.length ≤ 1000000 := fun r hr f hf => by
  obtain ⟨i, hi, rfl⟩ := List.getElem_of_mem hr
  have hm : pl f ∈ pls (rs[i]'hi).fs := List.mem_map_of_mem hf
  have h3 := (hall i hi).2.1.mem_iff.1 hm
  obtain ⟨f', hf', e⟩ := List.mem_map.1 h3
  have e2 : f'.keys = f.keys := congrArg Prod.fst e
  rw [← e2]
  exact Hk.out f' (List.mem_of_mem_drop (List.mem_of_mem_take hf'))
 have hok : ∀ r ∈ rs, RunOk r := fun r hr => by
  have hk := hkeys r hr
  obtain ⟨i, hi, rfl⟩ := List.getElem_of_mem hr
  refine ⟨(hall i hi).1, (hall i hi).2.2, hk, ?_⟩
  have := (hall i hi).2.1.length_eq
  have h4 : (partL l 32 i).length ≤ 32 := by unfold partL; rw [List.length_take]; omega
  unfold pls at this
  rw [List.length_map, List.length_map] at this
  omega
 have HPk := kp (HP.out A1 rs c1 4 w1 (by omega) (by omega) h2 hc1 hc2 hat hok)
 have Hperm := kp hperm
 have Hb1 := kp hb1
 clear hkeys hok hall hle hix hat hb1 HR h2 hperm
 obtain ⟨k, hk⟩ : ∃ k, rs.length = k := ⟨_, rfl⟩
 rw [hk] at HPk
 rw [hk] at hc1 ⊢
 clear hk
 go_wp2_with fail
 refine HPk.out.mono ?_
 rintro e w2 ⟨v2, n2, l2, rfl, hp2, hs2, hown2, hkf2, hb2⟩
 have Hf := kp (HYes.out v2 l2 w2 (hp2.trans Hperm.out) hs2 (hown2.base Hb1.out.size) (fun f hf b off h1 h2 => Nat.le_trans Hb1.out.size (hkf2 f hf b off h1 h2)) (Hb1.out.trans (hb2.mono Hb1.out.size)))
 clear hp2 hs2 hown2 hkf2 hb2
 go_wp2_with fail
 exact Hf.out
end
def fit (n : Int) : Prop := -9223372036854775808 ≤ n ∧ n ≤ 9223372036854775807
instance (n : Int) : Decidable (fit n) := inferInstanceAs (Decidable (_ ∧ _))
def cap (n : Int) : Int := if fit n then n else 0
def fits (n : Int) : Bool := decide (fit n)
theorem cap_yes {n : Int} (h : fit n) : cap n = n := if_pos h
theorem cap_no {n : Int} (h : ¬ fit n) : cap n = 0 := if_neg h
theorem fits_yes {n : Int} (h : fit n) : fits n = true := by simp [fits, h]
theorem fits_no {n : Int} (h : ¬ fit n) : fits n = false := by simp [fits, h]
theorem fit_cap (n : Int) : fit (cap n) := by
 unfold cap
 split
 ·assumption
 ·unfold fit; omega
theorem add_yes (a b : Int) (w : World) (ha : fit a) (hb : fit b) (h : fit (a + b)) :
 Calls Tryz.prog 87 #[.int .i64 a, .int .i64 b] w fun e w' => e = .returned (.tuple #[.int .i64 (a + b), .bool true]) ∧ w = w' := by
 unfold fit at ha hb h
 obtain ⟨ha1, ha2⟩ := ha
 obtain ⟨hb1, hb2⟩ := hb
 obtain ⟨h1, h2⟩ := h
 go_enter Tryz.func87, Tryz.ntmps87
 go_wp2
 all_goals (go_ret2; exact ⟨rfl, rfl⟩)
theorem add_no (a b : Int) (w : World) (ha : fit a) (hb : fit b) (h : ¬ fit (a + b)) :
 Calls Tryz.prog 87 #[.int .i64 a, .int .i64 b] w fun e w' => e = .returned (.tuple #[.int .i64 0, .bool false]) ∧ w = w' := by
 unfold fit at ha hb h
 obtain ⟨ha1, ha2⟩ := ha
 obtain ⟨hb1, hb2⟩ := hb
 by_cases h0 : 0 < b
 ·have h1 : 9223372036854775807 - b < a := by omega
  clear h
  go_enter Tryz.func87, Tryz.ntmps87
  go_wp2
  all_goals (go_ret2; exact ⟨rfl, rfl⟩)
 ·have h1 : a < -9223372036854775808 - b := by omega
  have h2 : b < 0 := by omega
  clear h
  go_enter Tryz.func87, Tryz.ntmps87
  go_wp2
  all_goals (go_ret2; exact ⟨rfl, rfl⟩)
theorem add_any (a b : Int) (w : World) (ha : fit a) (hb : fit b) :
 Calls Tryz.prog 87 #[.int .i64 a, .int .i64 b] w fun e w' => e = .returned (.tuple #[.int .i64 (cap (a + b)), .bool (fits (a + b))]) ∧ w = w' := by
 by_cases h : fit (a + b)
 ·rw [cap_yes h, fits_yes h]; exact add_yes a b w ha hb h
 ·rw [cap_no h, fits_no h]; exact add_no a b w ha hb h
theorem ret2_int {a b c d : Int} (h : a = b) (k : c = d) : Ending.returned (.tuple #[.int .i64 a, .int .i64 c]) = .returned (.tuple #[.int .i64 b, .int .i64 d]) := by rw [h, k]
theorem tmod_neg {n : Int} (h : n < 0) : n.tmod 4294967296 = -((-n) % 4294967296) := by
 have : n = -(-n) := by omega
 rw [this, Int.neg_tmod, Int.tmod_eq_emod_of_nonneg (by omega)]; simp
theorem tdiv_of {x q : Int} (h : x = q * 4294967296) : x.tdiv 4294967296 = q := by
 rw [h]; exact Int.mul_tdiv_cancel q (by omega)
theorem big_low1 {n : Int} (hn : fit n) (h : n.tmod 4294967296 < 0) : wrap64 (n.tmod 4294967296 + 4294967296) = n % 4294967296 := by
 unfold fit at hn
 have h0 : n < 0 := by
  by_cases h0 : n < 0
  ·exact h0
  ·rw [Int.tmod_eq_emod_of_nonneg (by omega)] at h; omega
 rw [tmod_neg h0] at h ⊢
 unfold wrap64; omega
theorem big_low2 {n : Int} (h : 0 ≤ n.tmod 4294967296) : n.tmod 4294967296 = n % 4294967296 := by
 by_cases h0 : n < 0
 ·rw [tmod_neg h0] at h ⊢; omega
 ·exact Int.tmod_eq_emod_of_nonneg (by omega)
theorem big_high {n : Int} (hn : fit n) : wrap64 ((wrap64 (n - n % 4294967296)).tdiv 4294967296) = n / 4294967296 := by
 unfold fit at hn
 have h1 : wrap64 (n - n % 4294967296) = n / 4294967296 * 4294967296 := by unfold wrap64; omega
 rw [h1, tdiv_of rfl]
 unfold wrap64; omega
theorem big_any (n : Int) (w : World) (hn : fit n) :
 Calls Tryz.prog 101 #[.int .i64 n] w fun e w' => e = .returned (.tuple #[.int .i64 (n / 4294967296), .int .i64 (n % 4294967296)]) ∧ w = w' := by
 have Hn := kp hn
 unfold fit at hn
 obtain ⟨h1, h2⟩ := hn
 go_enter Tryz.func101, Tryz.ntmps101
 go_wp2
 ·have h : n.tmod 4294967296 < 0 := by assumption
  go_ret2
  refine ⟨ret2_int ?_ ?_, rfl⟩
  ·rw [big_low1 Hn.out h]; exact big_high Hn.out
  ·exact big_low1 Hn.out h
 ·have h : 0 ≤ n.tmod 4294967296 := by assumption
  go_ret2
  refine ⟨ret2_int ?_ ?_, rfl⟩
  ·rw [big_low2 h]; exact big_high Hn.out
  ·exact big_low2 h
theorem ret_ib {a b : Int} {c d : Bool} (h : a = b) (k : c = d) : Ending.returned (.tuple #[.int .i64 a, .bool c]) = .returned (.tuple #[.int .i64 b, .bool d]) := by rw [h, k]
theorem small_any (h l : Int) (w : World) (h1 : -8589934592 ≤ h) (h2 : h ≤ 8589934592) (l1 : -8589934592 ≤ l) (l2 : l ≤ 8589934592) :
 Calls Tryz.prog 102 #[.int .i64 h, .int .i64 l] w fun e w' => e = .returned (.tuple #[.int .i64 (cap (h * 4294967296 + l)), .bool (fits (h * 4294967296 + l))]) ∧ w = w' := by
 go_enter Tryz.func102, Tryz.ntmps102
 go_wp2
 go_loop [0, 1] (fun a b => ∃ x y : Int, a = .int .i64 x ∧ b = .int .i64 y ∧ x * 4294967296 + y = h * 4294967296 + l ∧ -8589934592 ≤ y ∧ y ≤ 8589934592) (fun _ b => (intOf b + 8589934592).toNat)
 case atStart => exact ⟨h, l, rfl, rfl, rfl, l1, l2⟩
 case round =>
  obtain ⟨x, y, rfl, rfl, he, hy1, hy2⟩ := hrel
  have hx1 : -8589934600 ≤ x := by omega
  have hx2 : x ≤ 8589934600 := by omega
  have He := kp he
  clear he
  go_wp2
  ·refine ⟨⟨x + 1, y - 4294967296, rfl, rfl, ?_, ?_, ?_⟩, ?_⟩
   ·have := He.out; omega
   ·omega
   ·omega
   ·simp [intOf]; omega
  ·go_loop [0, 1] (fun a b => ∃ x y : Int, a = .int .i64 x ∧ b = .int .i64 y ∧ x * 4294967296 + y = h * 4294967296 + l ∧ -8589934592 ≤ y ∧ y < 4294967296) (fun _ b => (4294967296 - intOf b).toNat)
   case atStart => exact ⟨x, y, rfl, rfl, He.out, hy1, by assumption⟩
   case round =>
    clear He hx1 hx2 hy1 hy2
    rename_i hlt
    clear hlt
    obtain ⟨x, y, rfl, rfl, he, hy1, hy2⟩ := hrel
    have hx1 : -8589934600 ≤ x := by omega
    have hx2 : x ≤ 8589934600 := by omega
    have He := kp he
    clear he
    by_cases hneg : y < 0
    ·go_wp2
     refine ⟨⟨x - 1, y + 4294967296, rfl, rfl, ?_, ?_, ?_⟩, ?_⟩
     ·have := He.out; omega
     ·omega
     ·omega
     ·simp [intOf]; omega
    ·by_cases hf : -2147483648 ≤ x ∧ x ≤ 2147483647
     ·obtain ⟨hf1, hf2⟩ := hf
      go_wp2
      go_ret2
      have hk : fit (h * 4294967296 + l) := by have := He.out; unfold fit; omega
      rw [cap_yes hk, fits_yes hk]
      exact ⟨ret_ib He.out rfl, rfl⟩
     ·have hk : ¬ fit (h * 4294967296 + l) := by have := He.out; unfold fit; omega
      have Hk := kp hk
      clear hk
      by_cases hf1 : x < -2147483648
      all_goals
       go_wp2
       go_ret2
       rw [cap_no Hk.out, fits_no Hk.out]
       exact ⟨rfl, rfl⟩
theorem radd (a b : Int) : (a / 4294967296 + b / 4294967296) * 4294967296 + (a % 4294967296 + b % 4294967296) = a + b := by omega
theorem radd_any (a b : Int) (w : World) (ha : fit a) (hb : fit b) :
 Calls Tryz.prog 69 #[.int .i64 a, .int .i64 b] w fun e w' => e = .returned (.tuple #[.int .i64 (cap (a + b)), .bool (fits (a + b))]) ∧ w = w' := by
 have Ha := kp ha
 have Hb := kp hb
 unfold fit at ha hb
 have h1 : -2147483648 ≤ a / 4294967296 := by omega
 have h2 : a / 4294967296 ≤ 2147483647 := by omega
 have h3 : 0 ≤ a % 4294967296 := by omega
 have h4 : a % 4294967296 ≤ 4294967295 := by omega
 have h5 : -2147483648 ≤ b / 4294967296 := by omega
 have h6 : b / 4294967296 ≤ 2147483647 := by omega
 have h7 : 0 ≤ b % 4294967296 := by omega
 have h8 : b % 4294967296 ≤ 4294967295 := by omega
 have He := kp (radd a b)
 clear ha hb
 go_enter Tryz.func69, Tryz.ntmps69
 go_wp2_with fail
 refine (big_any a _ Ha.out).mono ?_
 rintro e w' ⟨rfl, rfl⟩
 go_wp2_with fail
 refine (big_any b _ Hb.out).mono ?_
 rintro e w' ⟨rfl, rfl⟩
 generalize a / 4294967296 = x at *
 generalize a % 4294967296 = y at *
 generalize b / 4294967296 = z at *
 generalize b % 4294967296 = t at *
 go_wp2_with fail
 refine (small_any _ _ _ (by omega) (by omega) (by omega) (by omega)).mono ?_
 rintro e w' ⟨rfl, rfl⟩
 go_wp2_with fail
 go_ret2
 rw [He.out]
 exact ⟨rfl, rfl⟩
end Go.Proofs.YthmbgbmcdbdecaaGreat.Tc
