/- Parts of a proof: A drawn region in the round of a loop over an iterator, walked as anywhere else. Layer 21: facts, cut into runs; each sorted. -/
import Derived.Test.YthmbgbmcdbdecaaGreatG05
import Derived.Test.YthmbgbmcdbdecaaGreatG09
import Derived.Test.YthmbgbmcdbdecaaGreatG12
import Derived.RangeFuncNested
import Derived.OrdersIn
import Derived.TacticsIn
namespace Go.Proofs.YthmbgbmcdbdecaaGreat.Base
open Go.RowKit
set_option linter.unusedVariables false
section
variable {P : Program} {ops : Array Oper} {Q : Exit → Act → World → Prop} {S : World → Prop} {t l n : Nat}
def Tame (Q : Exit → Act → World → Prop) : Exit → Act → World → Prop
 | .panic _, _, _ => False
 | .outgrown, _, _ => False
 | e, a, w => Q e a w
theorem Tame.normal {a : Act} {w : World} (h : Q .normal a w) : Tame Q .normal a w := h
theorem Tame.imp : ∀ (e : Exit) (a : Act) (w : World), Tame Q e a w → Q e a w := fun e a w h => by
 cases e <;> first | exact h | exact (h : False).elim
theorem Tame.lets : ¬ LetsOut (Tame Q) := fun ⟨_, _, h⟩ => h
def noDefer (ops : Array Oper) : Bool := ops.all fun o => match o.op with
 | .defer _ => false
 | _ => true
theorem noDefer_spec (h : noDefer ops = true) {i : Nat} {o : Oper} (ho : ops[i]? = some o) : ∀ c, o.op ≠ .defer c := by
 intro c hc
 have hm : o ∈ ops := Array.mem_of_getElem? ho
 have := Array.all_eq_true_iff_forall_mem.1 h o hm
 rw [hc] at this
 cases this
theorem rows_wide {row : String} {args : Array Value} {w : World} {R : Value → World → Prop} (h : Rows P row args w R) : RowsIn (Fence.wide.inRound l) n P row args w R :=
 fun c cs _ => let ⟨v, w', r, s⟩ := h c cs; ⟨v, w', r, stepsIn_wide.2 s⟩
theorem oper_round {o : Oper} {a : Act} {w : World} {K : Act → World → Prop} (hd : ∀ c, o.op ≠ .defer c) (h : o.wp P a w K Q) : o.wpIn (Fence.wide.inRound l) n P a w K Q := by
 unfold Oper.wp at h
 unfold Oper.wpIn
 refine ⟨fun f _ => trivial, ?_⟩
 rw [Fence.inRound_round, Oper.semAt_eq _ _ _ hd]
 generalize (execOp a.eval o).run P w = r at h ⊢
 cases r with
 | ok x w' =>
  cases x with
  | value v => exact h
  | skip => exact h
  | defer d => exact h
  | enter f args =>
   rw [Oper.upon_enter] at h
   rw [Oper.uponIn_enter]
   exact ⟨fun hh => by simp [Fence.wide] at hh, CallsIn.inRound l (callsIn_wide.2 (h.mono fun e w'' he => by cases e <;> exact he))⟩
  | row row args =>
   rw [Oper.upon_row] at h
   rw [Oper.uponIn_row]
   exact ⟨fun hh => by simp [Fence.wide] at hh, rows_wide h⟩
  | _ => exact (h : False).elim
 | halt x w' => cases x <;> exact h
theorem any_round {md : Region.Mode} (hnd : noDefer ops = true) (hQ : ¬ LetsOut Q) : ∀ (fuel : Nat) (listed : Array Bool) (a : Act) (w : World), wpAny P md ops Q fuel listed a w → wpAnyIn (Fence.wide.inRound l) n P md ops Q fuel listed a w
 | 0, _, _, _, h => h
 | fuel + 1, listed, a, w, h => by
  refine ⟨h.1, fun i hi => ?_⟩
  have h2 := h.2 i hi
  unfold wpOp at h2
  unfold wpOpIn
  rcases ho : ops[i]? with _ | o
  ·rw [ho] at h2
   exact any_round hnd hQ fuel _ a w h2
  ·rw [ho] at h2
   dsimp only at h2 ⊢
   by_cases hw : Region.wanted o (yielded ops a.tmps) = true
   ·rw [if_pos hw] at h2 ⊢
    rcases h2 with h2 | ⟨_, h2⟩
    ·exact Oper.wpIn_mono (fun a' w' h3 => any_round hnd hQ fuel _ a' w' h3) (oper_round (noDefer_spec hnd ho) h2)
    ·exact absurd h2 hQ
   ·rw [if_neg hw] at h2 ⊢
    exact ⟨fun _ _ => trivial, any_round hnd hQ fuel _ _ _ h2⟩
theorem wpIn_region_R {id : Nat} {a : Act} {w : World} (hm : P.follows .mixedOrders = true) (hnd : noDefer ops = true) (hS : S w.drew)
 (h : S w.drew → wpAnyT P .any ops (Tame Q) S t ops.size (Array.replicate ops.size false) a w.drew) : (Code.region id ops true).wpIn (Fence.wide.inRound l) n P Q a w :=
 wpIn_mono (wpIn_region_any hm (any_round hnd Tame.lets _ _ _ _ (wpAny_of_T _ _ _ _ (h hS)))) Tame.imp
end
end Go.Proofs.YthmbgbmcdbdecaaGreat.Base
namespace Go.Proofs.YthmbgbmcdbdecaaGreat.Tc
open Go.RowKit Base
set_option linter.unusedVariables false
set_option linter.unusedSimpArgs false
section
attribute [local go_sem] Oper.semAt_some
theorem info_facts : (Tryz.prog.info? 32).map (fun i => (i.zero, i.size, i.bytes)) = some (some (.slice none 0 0), 1, 24) := by kernel_rfl
structure RnsAt (w : World) (B : Nat) (A : Option Addr) (l : List Rn) : Prop where
 row : Row w B A (l.map runV)
 each : ∀ r ∈ l, FasAt w B r.A r.fs
def partL (l : List Fa) (size i : Nat) : List Fa := (l.drop (i * size)).take size
def pls (l : List Fa) : List (List Nat × Ag) := l.map pl
def RnsOwn (w : World) (B : Nat) (v : Value) (rs : List Rn) : Prop := w.ownsRow B 32 1 v rs.length (rs.map runV) ∧ ∀ r ∈ rs, RnAp w v r
theorem RnsOwn.at_ {w : World} {B n c : Nat} {A : Option Addr} {rs : List Rn} (h : RnsOwn w B (.slice A n c) rs) : RnsAt w w.heap.size A rs := by
 obtain ⟨A', c', e⟩ := own_form h.1
 injection e with e1 e2 e3
 subst e1 e2 e3
 exact ⟨row_ownK h.1, fun r hr => (h.2 r hr).1⟩
def CutRet (l : List Fa) (size : Nat) (w : World) (e : Ending) (w' : World) : Prop := ∃ (A : Option Addr) (c : Nat) (rs : List Rn), e = .returned (.tuple #[.slice A rs.length c, .int .i64 0]) ∧ RnsOwn w' w.heap.size (.slice A rs.length c) rs ∧ rs.map (fun r => pls r.fs) = (List.range rs.length).map (fun i => pls (partL l size i)) ∧ l.length ≤ rs.length * size ∧ (∀ i, i < rs.length → i * size < l.length) ∧ Below w.heap.size w w'
def CutI (l : List Fa) (size n0 B D0 : Nat) (w0 : World) (pre : List (Part l.length size)) (W : World) : Prop :=
 (∃ (v : Value) (rs : List Rn), Boxed W B 121 v ∧ W.ownsRow D0 32 1 v rs.length (rs.map runV) ∧ (∀ r ∈ rs, RnAp W v r ∧ ∀ b, foot r.A r.fs b → D0 ≤ b) ∧ rs.map (fun r => pls r.fs) = pre.map (fun x => pls (partL l size x.1)) ∧ D0 ≤ W.heap.size) ∧ Below n0 w0 W
theorem foot_from {w : World} {B n c : Nat} {A : Option Addr} {l : List Fa} (h : FasOwn w B (.slice A n c) l) (hk : KeysFrom B l) {b : Nat} (hb : foot A l b) : B ≤ b := by
 rcases hb with ⟨off, e, hne⟩ | ⟨f, hf, off, e, hne⟩
 ·subst e
  exact (h.1.lt b rfl).1
 ·exact hk f hf b off e hne
theorem row_kept {w w' : World} {B : Nat} {A : Option Addr} {vs : List Value} {row : Option Nat} (h : Row w B A vs) (hg : w.grownBy w' row) (hr : ∀ r, row = some r → ∃ o : Obj, w.heap[r]? = some o ∧ o.isCells = false) : Row w' B A vs := by
 rcases h with h | ⟨b, off, e, hb, hc⟩
 ·exact .inl h
 ·exact .inr ⟨b, off, e, hb, fun i v hv => cell_kept (hc i v hv) hg hr⟩
theorem cutI_own (l : List Fa) (size n0 B D0 D : Nat) (w0 : World) (hn : n0 ≤ w0.heap.size) (hD : n0 ≤ D) : OwnFrom D (CutI l size n0 B D0 w0) := by
 refine OwnFrom.and (Own.from (fun pre W W' row hs hg hr => ?_) _) (ownFrom_below hn hD)
 obtain ⟨v, rs, h1, h2, h3, h4, h5⟩ := hs
 refine ⟨v, rs, h1.kept hg (fun e' => ?_), h2.kept hg ?_, fun r hr' => ⟨⟨?_, (h3 r hr').1.2⟩, (h3 r hr').2⟩, h4, Nat.le_trans h5 hg.size⟩
 ·obtain ⟨o, ho, hc⟩ := hr B e'.symm
  rw [show W.heap[B]? = _ from h1] at ho; cases ho; cases hc
 ·rcases h2.2 with ⟨rfl, _⟩ | ⟨g, cap, cur, rfl, _, hgb, _⟩
  ·exact .inl rfl
  ·refine .inr fun e' => ?_
   obtain ⟨o, ho, hc⟩ := hr g (by simpa [Value.ownBlock] using e'.symm)
   rw [hgb] at ho; cases ho; cases hc
 ·exact FasAt.more ⟨row_kept (h3 r hr').1.1.row hg hr, fun f hf => row_kept ((h3 r hr').1.1.keys f hf) hg hr⟩ hg.size
set_option maxRecDepth 100000 in
set_option maxHeartbeats 4000000 in
theorem cut_any (A : Option Addr) (l : List Fa) (c size : Nat) (w : World) (hsz : 1 ≤ size) (hs2 : size ≤ 1000000) (hn : l.length ≤ 1000000) (hlc : l.length ≤ c) (hcm : c ≤ 9223372036854775807) (hk : ∀ f ∈ l, f.keys.length ≤ 1000000) (hr : FasAt w w.heap.size A l) :
 Calls Tryz.prog 82 #[.int .i64 size, .slice A l.length c] w (CutRet l size w) := by
 have HC := kp factclone_any
 have HCh := kp chunkF_any
 have Hr := kp hr
 have Hk := kp hk
 have h1' : ¬ ((size : Nat) : Int) < 1 := by omega
 have hlt0 : decide ((size : Int) < 1) = false := by simp; omega
 obtain ⟨i0, ti0, tz0, tz1, tz2⟩ := info_parts info_facts
 clear hr hk
 refine (callsIn_wide (n := 9)).1 ?_
 refine callsIn_of_wp_marks Tryz.func82 rfl trivial ?_ rfl
 simp only [Tryz.ntmps82, List.size_toArray, List.length_cons, List.length_nil, Nat.reduceAdd, Nat.reduceSub, Array.replicate_succ, Array.replicate_zero, List.push_toArray, List.append_toArray, List.nil_append, List.cons_append]
 gi_wp2_with (refine ⟨trivial, ?_⟩; gi_at_call 110; refine (callsIn_wide.2 (HCh.out A l.length c size hsz _)).mono ?_; rintro e w' ⟨rfl, rfl⟩)
 obtain ⟨b, off, hA⟩ : ∃ b off, l.length = 0 ∨ A = some ⟨b, off, none⟩ := by
  rcases Hr.out.row with h0 | ⟨b, off, e, _⟩
  ·refine ⟨0, 0, .inl ?_⟩
   have := flat_len factV_len l
   rw [h0] at this
   simp at this
   omega
  ·exact ⟨b, off, .inr e⟩
 obtain ⟨W0, hW0⟩ : ∃ W0, ((w.alloc (.cells #[.slice none 0 0] 121)).alloc (.cells #[.slice A l.length c] 32)).alloc (.cells #[.int .i64 size] 3) = W0 := ⟨_, rfl⟩
 have hs0 : W0.heap.size = w.heap.size + 3 := by rw [← hW0]; simp
 have hBW : Below w.heap.size w W0 := by rw [← hW0]; exact (((Below.refl _ w).alloc (Nat.le_refl _) _).alloc (by simp) _).alloc (by simp; omega) _
 have hB0 : Boxed W0 w.heap.size 121 (.slice none 0 0) := by rw [← hW0]; exact ((Boxed.new w _ _).alloc _).alloc _
 have hB1 : Box W0 (w.heap.size + 1) 32 #[.slice A l.length c] := by
  rw [← hW0]
  exact Box.alloc (Box.lay (w := w.alloc (.cells #[.slice none 0 0] 121)) (by simp)) _
 have hB2 : Box W0 (w.heap.size + 1 + 1) 3 #[.int .i64 size] := by
  rw [← hW0]
  exact Box.lay (w := (w.alloc (.cells #[.slice none 0 0] 121)).alloc (.cells #[.slice A l.length c] 32)) (by simp)
 rw [hW0]
 refine wpIn_rangeFunc_ownF rfl (by omega) (gf := 132) (lb := #[.pointer (some ⟨w.heap.size + 1, 0, none⟩), .pointer (some ⟨w.heap.size + 1 + 1, 0, none⟩)]) rfl trivial (enters_of Tryz.func132 (by kernel_rfl) rfl)
  (chunkF_stops 8 (by omega) (w.heap.size + 1) (w.heap.size + 1 + 1) b off l.length c size hsz hs2 hn hlc hcm W0 (by omega) (by omega) A hA hB1.one.1 hB2.one.1) (fun h k => h.trans k) (keep2_b (by omega) (by omega)) (Below.refl _ _) (fun _ => rfl)
  (CutI l size w.heap.size w.heap.size (w.heap.size + 3) w) (fun _ _ _ => False) (cutI_own l size w.heap.size w.heap.size (w.heap.size + 3) _ w (Nat.le_refl _) (by omega)) (fun _ _ _ _ _ hs _ _ => hs)
  ⟨⟨.slice none 0 0, [], hB0, own_nil _ _ _ _, (fun r hr => by cases hr), rfl, by omega⟩, hBW⟩
  (fun x => { tmps := #[.int .i64 size, .slice A l.length c, undef, undef, .slice none 0 0, .int .i64 0, .pointer (some ⟨w.heap.size, 0, none⟩), partV b off 11 l.length size x.1, .int .i64 size, .bool false, .slice A l.length c, .int .i64 size, .func (.func 132) #[] #[.pointer (some ⟨w.heap.size + 1, 0, none⟩), .pointer (some ⟨w.heap.size + 1 + 1, 0, none⟩)], partV b off 11 l.length size x.1, undef, undef, undef, undef, undef, undef], defers := [] }) ?assign ?body ?done ?stop
 case assign =>
  intro lp x W K hK
  gi_wp2
  exact hK
 case body =>
  rintro lp pre x W ⟨⟨v, rs, hbx, hown, hap, hpl, hD0⟩, hbe⟩ hlen
  obtain ⟨i, hi⟩ := x
  have hpos : l.length ≠ 0 := by omega
  obtain rfl := hA.resolve_left hpos
  have hfs := ((Hr.out.below hbe).more hbe.size).sub (i * size) size
  have hpt : partV b off 11 l.length size i = .slice (some ⟨b, off + i * size * 11, none⟩) (partL l size i).length (partL l size i).length := by
   unfold partV partL
   rw [List.length_take, List.length_drop]
  have HCk := kp (fun W' (hb : Below W.heap.size W W') => HC.out (some ⟨b, off + i * size * 11, none⟩) (partL l size i) (partL l size i).length W' (by unfold partL; rw [List.length_take, List.length_drop]; omega) (fun f hf => Hk.out f (List.mem_of_mem_drop (List.mem_of_mem_take hf))) ((hfs.below hb).more hb.size))
  have Hbx := kp hbx
  have Hown := kp hown
  have Hap := kp hap
  have Hpl := kp hpl
  have Hbe := kp hbe
  obtain ⟨Av, cv, rfl⟩ := own_form hown
  have c0 := hbx.cell
  have f0 := hbx.frozen
  dsimp only
  rw [hpt]
  clear hbx hown hap hpl hbe hfs hpt hW0
  have hltB : w.heap.size < W.heap.size := Hbx.out.lt
  gi_wp2
  refine wpIn_region_R (t := 5) (S := (fun w' => w'.cell? ⟨w.heap.size, 0, none⟩ = some (.slice Av rs.length cv) ∧ w'.frozen? ⟨w.heap.size, 0, none⟩ = false)) (by kernel_rfl) (by kernel_rfl) ⟨c0, f0⟩ (fun hHeld => ?_)
  refine tk 0 hHeld ?_
  refine tk 1 hHeld ?_
  refine wpAnyT_one (i := 2) (o := ?op2) (by kernel_rfl) ?ap2 (by decide) (fun K hK => ?bp2)
  case ap2 => (simp only [List.getElem?_toArray, List.getElem?_cons_succ, List.getElem?_cons_zero]; exact rfl)
  go_simp
  refine (HCk.out _ (Below.refl _ _).drew).mono ?_
  rintro e w2 ⟨v2, l2, rfl, hpl2, hown2, hkf2, hb2⟩
  obtain ⟨A2, c2, rfl⟩ := hown2.form
  have Hpl2 := kp hpl2
  have Hown2 := kp hown2
  have Hkf2 := kp hkf2
  have Hb2 := kp (show Below W.heap.size W w2 from (Below.refl _ _).drew.trans hb2)
  clear hpl2 hown2 hkf2 hb2
  refine hK.out _ _ ?_ (fun hHeld2 => ?_)
  ·exact ⟨cell_keep Hb2.out c0, by rw [frozen_below Hb2.out _ _ hltB]; exact f0⟩
  clear hK K hHeld
  have hHeld := hHeld2
  clear hHeld2
  try simp only [Act.put, List.setIfInBounds_toArray, List.set_cons_zero, List.set_cons_succ]
  have hltW : w.heap.size < w2.heap.size := Nat.lt_of_lt_of_le hltB Hb2.out.size
  have Hown1 := kp (own_below Hown.out Hb2.out)
  have Hap1 := kp (fun r hr => (Hap.out r hr).1.below Hb2.out)
  have HapN := kp (show RnAp w2 (.slice Av rs.length cv) ⟨A2, l2, c2⟩ from RnAp.new (B := W.drew.heap.size) Hown2.out Hkf2.out (fun j hj => (Hown.out.lt j hj).2))
  have Hbe1 := kp (Hbe.out.trans (Hb2.out.mono Hbe.out.size))
  have HneG := kp (show ∀ j, j < w.heap.size + 3 → (Value.slice Av rs.length cv).ownBlock ≠ some j from fun j hj hh => by have := (Hown.out.lt j hh).1; omega)
  have Hs1 := kp (show w.heap.size + 3 ≤ w2.heap.size from Nat.le_trans hD0 Hb2.out.size)
  have Hrl := kp (show rs.length < 1048576 * 64 from by have := hlen; have := congrArg List.length Hpl.out; simp at this; omega)
  refine wpAnyT_one (i := 3) (o := ?op3) (by kernel_rfl) ?ap3 (by decide) (fun K hK => ?bp3)
  case ap3 => (simp only [List.getElem?_toArray, List.getElem?_cons_succ, List.getElem?_cons_zero]; exact rfl)
  go_simp
  refine hK.out _ _ ?_ (fun hHeld2 => ?_)
  ·exact ⟨cell_keep ((Below.refl _ _).alloc (Nat.le_refl _) _) hHeld.1, by rw [frozen_below ((Below.refl _ _).alloc (Nat.le_refl w2.heap.size) _) _ _ hltW]; exact hHeld.2⟩
  clear hK K hHeld
  have hHeld := hHeld2
  clear hHeld2
  try simp only [Act.put, List.setIfInBounds_toArray, List.set_cons_zero, List.set_cons_succ]
  refine wpAnyT_one (i := 4) (o := ?op4) (by kernel_rfl) ?ap4 (by decide) (fun K hK => ?bp4)
  case ap4 => (simp only [List.getElem?_toArray, List.getElem?_cons_succ, List.getElem?_cons_zero]; exact rfl)
  refine step_append1 rfl (.tmp 14) (.tmp 17) 121 rfl (w.heap.size + 3) 32 i0 (.slice none 0 0) 24 Tryz.underlying121 ti0 tz0 tz1 tz2 rfl w2 (.slice A2 l2.length c2) rfl (.slice Av rs.length cv) rs.length (rs.map runV) rfl Hown1.out rfl Hrl.out (by decide) Hs1.out ?_
  intro v5 w5 hown5 happ5
  obtain ⟨A5, c5, h5⟩ := own_form hown5
  subst h5
  have Hown5 := kp hown5
  have Hapl := kp happ5
  clear hown5 happ5
  go_simp
  refine hK.out _ _ ?_ (fun hHeld2 => ?_)
  ·have e1 := (Hapl.out.farK hltW (HneG.out _ (by omega)))
   have e2 := (Below.heap_alloc w2 (.cells #[.slice A2 l2.length c2] 32) _ hltW)
   exact ⟨(World.cell?_of_block (a := ⟨w.heap.size, 0, none⟩) (e1.trans e2.symm)).trans hHeld.1, by have h := hHeld.2; unfold World.frozen? at h ⊢; rw [e1.trans e2.symm]; exact h⟩
  clear hK K hHeld
  have hHeld := hHeld2
  clear hHeld2
  try simp only [Act.put, List.setIfInBounds_toArray, List.set_cons_zero, List.set_cons_succ]
  refine wpAnyT_last (o := ?op5) (by kernel_rfl) ?ap5 (by kernel_rfl) (fun K hK => ?bp5)
  case ap5 => (simp only [List.getElem?_toArray, List.getElem?_cons_succ, List.getElem?_cons_zero]; exact rfl)
  obtain ⟨x1', x2'⟩ := hHeld
  have hHeld := x1'
  go_simp
  refine hK.out _ _ ?_
  clear hK K hHeld
  refine Tame.normal ?_
  try simp only [Act.put, List.setIfInBounds_toArray, List.set_cons_zero, List.set_cons_succ]
  have HbxF := kp (show Boxed (w5.setCell ⟨w.heap.size, 0, none⟩ (.slice A5 (rs.length + 1) c5)) w.heap.size 121 (.slice A5 (rs.length + 1) c5) from Boxed.set _ (show Boxed w5 w.heap.size 121 (.slice Av rs.length cv) from (Hapl.out.farK hltW (HneG.out _ (by omega))).trans ((Hb2.out.block _ hltB).trans Hbx.out)))
  have Hgs := kp (grownBy_setCell' w5 w.heap.size (.slice A5 (rs.length + 1) c5))
  have Hall := kp (show ∀ k, k < W.heap.size → k ≠ w.heap.size → (Value.slice Av rs.length cv).ownBlock ≠ some k → (w5.setCell ⟨w.heap.size, 0, none⟩ (.slice A5 (rs.length + 1) c5)).heap[k]? = W.heap[k]? from fun k hk h1 h2 => (Below.heap_setCell w5 ⟨w.heap.size, 0, none⟩ _ k h1).trans ((Hapl.out.farK (Nat.lt_of_lt_of_le hk Hb2.out.size) h2).trans (Hb2.out.block k hk)))
  have Hsz := kp (show W.heap.size ≤ w5.heap.size from Nat.le_trans Hb2.out.size Hapl.out.grown.size)
  refine ⟨⟨by simp; exact Hsz.out, fun k o ho hc => ?_⟩, ⟨Hall.out _ (by omega) (by omega) (HneG.out _ (by omega)), Hall.out _ (by omega) (by omega) (HneG.out _ (by omega))⟩, ⟨_, rs ++ [⟨A2, l2, c2⟩], HbxF.out, ?_, ?_, ?_, by simp; exact Nat.le_trans hD0 Hsz.out⟩, ?_⟩
  ·have hkl : k < W.heap.size := (Array.getElem?_eq_some_iff.1 ho).1
   refine (Hall.out k hkl (fun e => ?_) (fun e => ?_)).trans ho
   ·subst e
    have := Hbx.out
    unfold Boxed at this
    rw [this] at ho
    injection ho with ho
    rw [← ho] at hc
    cases hc
   ·rcases Hown.out.2 with ⟨h0, _⟩ | ⟨g, cap, cur, h0, _, hgb, _⟩
    ·rw [h0] at e; cases e
    ·rw [h0] at e
     injection e with e
     subst e
     rw [hgb] at ho
     injection ho with ho
     rw [← ho] at hc
     cases hc
  ·rw [List.length_append, List.map_append]
   exact Hown5.out.kept Hgs.out (.inr (fun e => by have := (Hown5.out.lt _ e).1; omega))
  ·intro r hr
   have hft : ∀ b, foot r.A r.fs b → w.heap.size + 3 ≤ b := fun b hb => by
    rcases List.mem_append.1 hr with hr | hr
    ·exact (Hap.out r hr).2 b hb
    ·rw [List.mem_singleton.1 hr] at hb
     exact Nat.le_trans hD0 (foot_from Hown2.out Hkf2.out hb)
   have hra : RnAp w5 (.slice A5 (rs.length + 1) c5) r := by
    rcases List.mem_append.1 hr with hr | hr
    ·exact (Hap1.out r hr).app Hapl.out
    ·rw [List.mem_singleton.1 hr]; exact HapN.out.app Hapl.out
   refine ⟨⟨?_, hra.2⟩, hft⟩
   have e : (w5.setCell ⟨w.heap.size, 0, none⟩ (.slice A5 (rs.length + 1) c5)).heap.size = w5.heap.size := by simp
   rw [e]
   exact hra.1.same fun b hb => Below.heap_setCell w5 ⟨w.heap.size, 0, none⟩ _ b (by have := hft b hb; show b ≠ w.heap.size; omega)
  ·rw [List.map_append, List.map_append, Hpl.out]
   exact congrArg (fun x => _ ++ [x]) Hpl2.out
  ·exact (Hapl.out.belowK Hbe1.out Hown1.out (by omega) (by have := Hs1.out; omega)).setCell (p := ⟨w.heap.size, 0, none⟩) (Nat.le_refl _) _
 case done =>
  rintro D xs W hD ⟨hxs, hlx⟩ ⟨⟨v, rs, hbx, hown, hap, hpl, hD0⟩, hbe⟩ hK
  obtain ⟨Av, cv, rfl⟩ := own_form hown
  have c0 := hbx.cell
  have Hown := kp hown
  have Hap := kp hap
  have Hpl := kp hpl
  have Hbe := kp hbe
  have Hxs := kp hxs
  have Hlx := kp hlx
  have HK := kp hK
  clear hown hap hpl hbe hxs hlx hK
  gi_wp2
  refine ⟨by simp, .inl ⟨_, _, rfl, run_takeDeferred HK.out, ?_⟩⟩
  have hlen : rs.length = xs.length := by have := congrArg List.length Hpl.out; simpa using this
  have hg := grownBy_putObj' W D (.deferred none)
  have hnc : ∀ r, some D = some r → ∃ o : Obj, W.heap[r]? = some o ∧ o.isCells = false := fun r e => by cases e; exact ⟨_, HK.out, rfl⟩
  refine ⟨.tuple #[.slice Av rs.length cv, .int .i64 0], ?_, Av, cv, rs, rfl, ⟨?_, fun r hr => ⟨?_, (Hap.out r hr).1.2⟩⟩, ?_, ?_, ?_, ?_⟩
  ·simp [results, Tryz.results82, go_sem]
  ·exact own_base (ownsRow_putObj Hown.out _ HK.out rfl) (by omega)
  ·exact FasAt.more ⟨row_kept (Hap.out r hr).1.1.row hg hnc, fun f hf => row_kept ((Hap.out r hr).1.1.keys f hf) hg hnc⟩ hg.size
  ·rw [Hpl.out, hlen, ← Hxs.out, List.map_map]
   rfl
  ·rw [hlen]; exact Hlx.out
  ·intro i hi
   rw [hlen] at hi
   have h1 : (xs.map (·.1))[i]'(by rw [List.length_map]; exact hi) = i := by simp only [Hxs.out]; rw [List.getElem_range]
   rw [List.getElem_map] at h1
   have h2 := (xs[i]'hi).2
   rw [h1] at h2
   exact h2
  ·exact Hbe.out.trans (belowK_b (w := w) (Nat.le_refl _) W D _ _ (by omega) HK.out rfl rfl)
 case stop =>
  rintro D c pre W _ _ h _
  exact h.elim
theorem FasOwn.cap {w : World} {B n c : Nat} {A : Option Addr} {l : List Fa} (h : FasOwn w B (.slice A n c) l) : l.length ≤ c := by
 rcases h.1.2 with ⟨h0, h1⟩ | ⟨g, cap, cur, hv, hB, hh, hnc, _⟩
 ·omega
 ·injection hv with _ _ hc
  omega
theorem runs_set (P R : List Rn) (s r : Rn) : ((P ++ s :: R).map runV).set P.length (runV r) = (P ++ r :: R).map runV := by
 rw [List.map_append, List.map_append, List.map_cons, List.map_cons, show P.length = (P.map runV).length by simp, List.set_append_right _ _ (Nat.le_refl _)]
 simp
theorem RnAp.set {w : World} {g n c o : Nat} {r : Rn} {u : Value} (h : RnAp w (.slice (some ⟨g, 0, none⟩) n c) r) : RnAp (w.setCell ⟨g, o, none⟩ u) (.slice (some ⟨g, 0, none⟩) n c) r := by
 have e : (w.setCell ⟨g, o, none⟩ u).heap.size = w.heap.size := by simp
 refine ⟨?_, h.2⟩
 rw [e]
 exact h.1.same fun b hb => Below.heap_setCell w ⟨g, o, none⟩ _ b (fun e => h.2 b hb (by rw [e]; rfl))
def RunsRet (l : List Fa) (size : Nat) (w : World) (e : Ending) (w' : World) : Prop := ∃ (A : Option Addr) (c : Nat) (rs : List Rn), e = .returned (.tuple #[.slice A rs.length c, .int .i64 0]) ∧ RnsAt w' w'.heap.size A rs ∧ (rs.length ≤ c ∧ c ≤ 9223372036854775807) ∧ (∀ i (h : i < rs.length), SortedF rs[i].fs ∧ (pls rs[i].fs).Perm (pls (partL l size i)) ∧ rs[i].fs.length ≤ rs[i].c) ∧ l.length ≤ rs.length * size ∧ (∀ i, i < rs.length → i * size < l.length) ∧ Below w.heap.size w w'
set_option maxRecDepth 100000 in
set_option maxHeartbeats 4000000 in
theorem runs_any (A : Option Addr) (l : List Fa) (c size : Nat) (w : World) (hsz : 1 ≤ size) (hs2 : size ≤ 1000000) (hn : l.length ≤ 1000000) (hlc : l.length ≤ c) (hcm : c ≤ 9223372036854775807) (hk : ∀ f ∈ l, f.keys.length ≤ 1000000) (hr : FasAt w w.heap.size A l) :
 Calls Tryz.prog 50 #[.int .i64 size, .slice A l.length c] w (RunsRet l size w) := by
 have HCut := kp (cut_any A l c size w hsz hs2 hn hlc hcm hk hr)
 have HSort := kp runsort_any
 have HYes := kp (show ∀ A' c' rs w', RnsAt w' w'.heap.size A' rs → (rs.length ≤ c' ∧ c' ≤ 9223372036854775807) → (∀ i (h : i < rs.length), SortedF rs[i].fs ∧ (pls rs[i].fs).Perm (pls (partL l size i)) ∧ rs[i].fs.length ≤ rs[i].c) → l.length ≤ rs.length * size → (∀ i, i < rs.length → i * size < l.length) → Below w.heap.size w w' → RunsRet l size w (.returned (.tuple #[.slice A' rs.length c', .int .i64 0])) w' from fun A' c' rs w' h1 h2 h3 h4 h5 h6 => ⟨A', c', rs, rfl, h1, h2, h3, h4, h5, h6⟩)
 have Hk := kp (show ∀ i (ps : List Fa), pls ps = pls (partL l size i) → (∀ f ∈ ps, f.keys.length ≤ 1000000) ∧ ps.length ≤ 1000000 from fun i ps h => by
  have hl : ps.length = (partL l size i).length := by have := congrArg List.length h; simpa [pls] using this
  have hle : (partL l size i).length ≤ l.length := by unfold partL; rw [List.length_take, List.length_drop]; omega
  refine ⟨fun f hf => ?_, by omega⟩
  have hm : pl f ∈ pls (partL l size i) := by rw [← h]; exact List.mem_map_of_mem hf
  obtain ⟨f', hf', e⟩ := List.mem_map.1 hm
  have e2 : f'.keys = f.keys := congrArg Prod.fst e
  rw [← e2]
  exact hk f' (List.mem_of_mem_drop (List.mem_of_mem_take hf')))
 clear hr hk
 generalize hQ : RunsRet l size w = Q at *
 clear hQ
 go_enter Tryz.func50, Tryz.ntmps50
 go_wp2_with fail
 refine HCut.out.mono ?_
 rintro e w1 ⟨A1, c1, rs, rfl, hown, hpl, hle, hix, hb1⟩
 have Hown := kp hown
 have Hpl := kp hpl
 have Hle := kp hle
 have Hix := kp hix
 have Hb1 := kp hb1
 clear hown hpl hle hix hb1 HCut
 go_wp2_with fail
 obtain ⟨m, hm⟩ : ∃ m, rs.length = m := ⟨_, rfl⟩
 have Hm := kp hm
 rw [hm]
 clear hm
 have hml : m ≤ 1000000 := by
  rcases Nat.eq_zero_or_pos m with h0 | h0
  ·omega
  ·have h1 := Hix.out (m - 1) (by rw [Hm.out]; omega)
   have h2 : (m - 1) * 1 ≤ (m - 1) * size := Nat.mul_le_mul_left _ hsz
   omega
 go_loopw [22] (fun v22 wr => ∃ (k : Nat) (dn : List Rn), k ≤ m ∧ v22 = .int .i64 k ∧ dn.length = k ∧ (∀ i (h : i < dn.length), SortedF dn[i].fs ∧ (pls dn[i].fs).Perm (pls (partL l size i)) ∧ dn[i].fs.length ≤ dn[i].c) ∧ RnsOwn wr w.heap.size (.slice A1 m c1) (dn ++ rs.drop k) ∧ Below w.heap.size w wr) (fun v22 _ => m - (intOf v22).toNat)
 case atStart => exact ⟨0, [], Nat.zero_le _, rfl, rfl, fun i h => by simp at h, by have := Hown.out; rw [Hm.out] at this; exact this, Hb1.out⟩
 case round =>
  obtain ⟨k, dn, hk, rfl, hdl, hds, hown, hbe⟩ := hrel
  have Hdl := kp hdl
  have Hds := kp hds
  have Hownr := kp hown
  have Hbe := kp hbe
  clear hdl hds hown hbe
  by_cases hlt : k < m
  ·have hkl : k < rs.length := by rw [Hm.out]; exact hlt
   have hdrop := List.drop_eq_getElem_cons hkl
   have hplk : pls (rs[k]'hkl).fs = pls (partL l size k) := by
    have h1 := congrArg (fun x => x[k]?) Hpl.out
    simp only [List.getElem?_map, List.getElem?_eq_getElem hkl, List.getElem?_range hkl, Option.map_some] at h1
    injection h1
   have hown' := Hownr.out
   rw [hdrop] at hown'
   obtain ⟨hkk, hnn⟩ := Hk.out k _ hplk
   have hra := hown'.2 (rs[k]'hkl) (List.mem_append_right _ List.mem_cons_self)
   have HSk := kp (HSort.out (rs[k]'hkl).A (rs[k]'hkl).fs (rs[k]'hkl).c wr hnn hkk hra.1)
   have Hplk := kp hplk
   obtain ⟨g, hA1, hBg, hgl⟩ : ∃ g, A1 = some ⟨g, 0, none⟩ ∧ w.heap.size ≤ g ∧ g < wr.heap.size := by
    rcases hown'.1.2 with ⟨_, h0⟩ | ⟨g, cap, cur, hv, hB, hh, _⟩
    ·rw [List.length_append, List.length_cons] at h0; omega
    ·injection hv with hA _ _
     exact ⟨g, hA, hB, (Array.getElem?_eq_some_iff.1 hh).1⟩
   subst hA1
   have c0 : wr.cell? ⟨g, k, none⟩ = some (.slice (rs[k]'hkl).A (rs[k]'hkl).fs.length (rs[k]'hkl).c) := by
    have := hown'.1.cells (g := g) rfl k (runV (rs[k]'hkl)) (by rw [List.getElem?_map, List.getElem?_append_right (by rw [Hdl.out]; exact Nat.le_refl _), Hdl.out, Nat.sub_self]; rfl)
    rw [add_at, Nat.zero_add] at this
    exact this
   have Hown2 := kp hown'
   have Hsm := kp (show (rs.drop (k + 1)) = rs.drop (k + 1) from rfl)
   clear hdrop hplk hown' hkk hnn hra Hsm
   generalize (rs[k]'hkl) = r at *
   have hi0 : (0 : Int) ≤ (k : Int) := by omega
   have hi1 : (k : Int) < (m : Int) := by omega
   go_wp2_with fail
   refine HSk.out.mono ?_
   rintro e w2 ⟨v2, l2, rfl, hp2, hs2', hown2, hkf2, hb2⟩
   obtain ⟨A2, c2, rfl⟩ := hown2.form
   have Hp2 := kp hp2
   have Hs2 := kp hs2'
   have Hownn := kp hown2
   have Hkf2 := kp hkf2
   have c0' := cell_keep hb2 c0
   have hfz : w2.frozen? ⟨g, k, none⟩ = false := by
    rcases (own_below Hown2.out.1 hb2).2 with ⟨h0, _⟩ | ⟨g', cap, cur, hv, hB, hh, _⟩
    ·cases h0
    ·injection hv with hA _ _
     injection hA with hA
     injection hA with hg _ _
     subst hg
     simp [World.frozen?, hh]
   have Hb2 := kp hb2
   have hlm : (dn ++ r :: rs.drop (k + 1)).length = m := by
    obtain ⟨A', c', e⟩ := own_form Hown2.out.1
    injection e with _ e _
    exact e.symm
   have Hown3 := kp (show w2.ownsRow w.heap.size 32 1 (.slice (some ⟨g, 0, none⟩) m c1) m ((dn ++ r :: rs.drop (k + 1)).map runV) by have := own_below Hown2.out.1 hb2; rw [hlm] at this; exact this)
   have Hlm := kp hlm
   clear hlm
   have Hap3 := kp (fun x hx => (Hown2.out.2 x hx).below hb2)
   have HapN := kp (show RnAp w2 (.slice (some ⟨g, 0, none⟩) m c1) ⟨A2, l2, c2⟩ from RnAp.new hown2 hkf2 (fun j hj => by (have e : g = j := by injection hj); omega))
   have Hbe2 := kp (Hbe.out.trans (hb2.mono Hbe.out.size))
   clear hp2 hs2' hown2 hkf2 hb2 c0 HSk
   go_wp2_with fail
   refine ⟨⟨k + 1, dn ++ [⟨A2, l2, c2⟩], by omega, by go_num, by rw [List.length_append, Hdl.out]; rfl, ?_, ⟨?_, ?_⟩, Hbe2.out.setCell (p := ⟨g, k, none⟩) hBg _⟩, by simp [intOf]; omega⟩
   ·intro i hi
    by_cases hid : i < dn.length
    ·rw [List.getElem_append_left hid]
     exact Hds.out i hid
    ·rw [List.length_append] at hi
     have e : i = k := by rw [← Hdl.out]; simp at hi; omega
     have hge : (dn ++ [(⟨A2, l2, c2⟩ : Rn)])[i]'(by simp; omega) = ⟨A2, l2, c2⟩ := by
      rw [List.getElem_append_right (by omega)]
      simp [e, Hdl.out]
     rw [hge, e]
     refine ⟨Hs2.out, ?_, Hownn.out.cap⟩
     rw [← Hplk.out]
     exact Hp2.out
   ·have h1 := own_set1 Hown3.out (i := k) (by rw [List.length_map, Hlm.out]; exact hlt) (runV ⟨A2, l2, c2⟩)
    rw [← Hdl.out, runs_set] at h1
    have e1 : dn ++ [(⟨A2, l2, c2⟩ : Rn)] ++ rs.drop (k + 1) = dn ++ ⟨A2, l2, c2⟩ :: rs.drop (k + 1) := by simp
    rw [e1]
    have e2 : (dn ++ (⟨A2, l2, c2⟩ : Rn) :: rs.drop (k + 1)).length = m := by
     rw [← Hlm.out, List.length_append, List.length_append, List.length_cons, List.length_cons]
    rw [e2]
    rw [Hdl.out] at h1
    exact h1
   ·intro x hx
    rw [List.append_assoc] at hx
    rcases List.mem_append.1 hx with hx | hx
    ·exact (Hap3.out x (List.mem_append_left _ hx)).set
    ·rcases List.mem_cons.1 hx with rfl | hx
     ·exact HapN.out.set
     ·exact (Hap3.out x (List.mem_append_right _ (List.mem_cons_of_mem _ hx))).set
  ·obtain rfl : k = m := by omega
   have Hfin := kp (show RnsOwn wr w.heap.size (.slice A1 k c1) dn by
    have := Hownr.out
    rw [List.drop_of_length_le (by rw [Hm.out]; exact Nat.le_refl _), List.append_nil] at this
    exact this)
   have hcc : k ≤ c1 ∧ c1 ≤ 9223372036854775807 := own_cap (by have := Hfin.out.1; rw [Hdl.out] at this; exact this)
   have Hfs := kp (HYes.out A1 c1 dn wr Hfin.out.at_ (by rw [Hdl.out]; exact hcc) Hds.out (by rw [Hdl.out, ← Hm.out]; exact Hle.out) (fun i hi => Hix.out i (by rw [Hm.out, ← Hdl.out]; exact hi)) Hbe.out)
   go_wp2_with fail
   have := Hfs.out
   rw [Hdl.out] at this
   exact this
end
end Go.Proofs.YthmbgbmcdbdecaaGreat.Tc
