/- Layer 7: a call of both, alike (genpl10.py prints it). -/
import Derived.Test.YtbjjfbojcokmgaaPl9
namespace Go.Proofs.Ytbjjfbojcokmgaa.Dv
open Go.RowKit Base
set_option linter.unusedVariables false
set_option linter.unusedSimpArgs false

/-- the device's blocks, and others that the document's device keeps clear of -/
def FX (F X : Nat → Prop) (k : Nat) : Prop := F k ∨ X k
/-- how 'does' ends -/
def Does (B : Nat) (F X : Nat → Prop) (d gs c : Nat) (s : Dv) (w : World) (e : Ending) (w' : World) : Prop := ∃ v F' pv, e = .returned (.tuple #[v, .bool true]) ∧ DevAt w' B F' d gs c pv s ∧ Qat w' (FX F' X) v s ∧ Turn F w w' ∧ ∀ k, F' k → F k ∨ w.heap.size ≤ k
/-- the device's blocks, and three boxes -/
def F3 (F : Nat → Prop) (h k : Nat) : Prop := F k ∨ (h ≤ k ∧ k ≤ h + 2)
theorem three_new {w w1 : World} {t1 t2 t3 : TypeId} {c1 c2 c3 : Array Value} (hb : Below (((w.alloc (.cells c1 t1)).alloc (.cells c2 t2)).alloc (.cells c3 t3)).heap.size (((w.alloc (.cells c1 t1)).alloc (.cells c2 t2)).alloc (.cells c3 t3)) w1) :
    Box w1 w.heap.size t1 c1 ∧ Box w1 (w.heap.size + 1) t2 c2 ∧ Box w1 (w.heap.size + 2) t3 c3 ∧ Below w.heap.size w w1 := by
  have h1 := ((((Box.new w t1 c1).alloc (.cells c2 t2)).alloc (.cells c3 t3))).under hb
  have h2 := ((Box.new (w.alloc (.cells c1 t1)) t2 c2).alloc (.cells c3 t3)).under hb
  have h3 := (Box.new ((w.alloc (.cells c1 t1)).alloc (.cells c2 t2)) t3 c3).under hb
  rw [show (w.alloc (.cells c1 t1)).heap.size = w.heap.size + 1 by simp] at h2
  rw [show ((w.alloc (.cells c1 t1)).alloc (.cells c2 t2)).heap.size = w.heap.size + 2 by simp] at h3
  exact ⟨h1, h2, h3, ((((Below.refl _ _).alloc (Nat.le_refl _) _).alloc (by simp) _).alloc (by simp; omega) _).trans (hb.mono (by simp; omega))⟩
theorem F3_lt {w W : World} {F : Nat → Prop} (hF : ∀ k, F k → k < w.heap.size) (hW : w.heap.size + 3 ≤ W.heap.size) : ∀ k, F3 F w.heap.size k → k < W.heap.size := by
  intro k hk
  rcases hk with hk | hk
  · have := hF k hk
    omega
  · omega
theorem Qat.three {w W : World} {F : Nat → Prop} {v : Value} {s : Dv} (h : Qat w F v s) (hb : Below w.heap.size w W) : Qat W (F3 F w.heap.size) v s :=
  h.conv (.below hb) (fun k hk => hk.elim .inl (fun h => .inr h.1))
theorem does_end {w w2 wx W : World} {B : Nat} {F F' X : Nat → Prop} {d gs c : Nat} {pv' : Value} {s' : Dv} {v : Value} (hF : ∀ k, F k → k < w.heap.size) (hb2 : Below w.heap.size w w2) (h3 : w.heap.size + 3 ≤ w2.heap.size) (hq : Qat w2 (F3 (FX F X) w.heap.size) v s') (hd : DevAt wx B F' d gs c pv' s') (ht : Turn F w2 wx) (hF' : ∀ k, F' k → F k ∨ w2.heap.size ≤ k) (hW : Turn (fun k => w.heap.size ≤ k ∧ k ≤ w.heap.size + 2) wx W) :
    Does B F X d gs c s' w (.returned (.tuple #[v, .bool true])) W := by
  have hsx := ht.size
  have hbW : Below w.heap.size wx W := hW.toBelow (fun k hk => hk.1) (by omega)
  have htW : Turn (F3 (FX F X) w.heap.size) w2 W := (ht.more (fun k hk => Or.inl (Or.inl hk))).trans (hW.more (fun k hk => Or.inr hk))
  refine ⟨v, F', pv', rfl, hd.turn hW (fun k hk hp => ?_), hq.conv htW (fun k hk => hk.elim (fun hk => (hF' k hk).elim (fun h => .inl (.inl (.inl h))) .inr) (fun hk => .inl (.inl (.inr hk)))), ⟨hbW.os.trans (ht.os.trans hb2.os), hbW.tape.trans (ht.tape.trans hb2.tape), hbW.output.trans (ht.output.trans hb2.output), Nat.le_trans hb2.size (Nat.le_trans ht.size hbW.size), fun i hi hp => (hbW.block i hi).trans ((ht.block i (by omega) hp).trans (hb2.block i hi))⟩, fun k hk => (hF' k hk).elim .inl (fun h => .inr (by omega))⟩
  rcases hF' k hk with h | h
  · have := hF k h
    omega
  · omega
theorem turn_six {h j : Nat} {a b : World} {v0 v1 v2 v3 v4 v5 : Value} (ht : Turn (fun k => h ≤ k ∧ k ≤ h + 2) a b) (h1 : h ≤ j) (h2 : j ≤ h + 2) :
    Turn (fun k => h ≤ k ∧ k ≤ h + 2) a ((((((b.setCell ⟨j, 0, none⟩ v0).setCell ⟨j, 1, none⟩ v1).setCell ⟨j, 2, none⟩ v2).setCell ⟨j, 3, none⟩ v3).setCell ⟨j, 4, none⟩ v4).setCell ⟨j, 5, none⟩ v5) :=
  Turn.put (Turn.put (Turn.put (Turn.put (Turn.put (Turn.put ht _ _ ⟨h1, h2⟩) _ _ ⟨h1, h2⟩) _ _ ⟨h1, h2⟩) _ _ ⟨h1, h2⟩) _ _ ⟨h1, h2⟩) _ _ ⟨h1, h2⟩
theorem Box.six_far {w : World} {g j : Nat} {t : TypeId} {cs : Array Value} {v0 v1 v2 v3 v4 v5 : Value} (h : Box w g t cs) (hg : g ≠ j) :
    Box ((((((w.setCell ⟨j, 0, none⟩ v0).setCell ⟨j, 1, none⟩ v1).setCell ⟨j, 2, none⟩ v2).setCell ⟨j, 3, none⟩ v3).setCell ⟨j, 4, none⟩ v4).setCell ⟨j, 5, none⟩ v5) g t cs :=
  (((((h.far (p := ⟨j, 0, none⟩) hg v0).far (p := ⟨j, 1, none⟩) hg v1).far (p := ⟨j, 2, none⟩) hg v2).far (p := ⟨j, 3, none⟩) hg v3).far (p := ⟨j, 4, none⟩) hg v4).far (p := ⟨j, 5, none⟩) hg v5
theorem Box.six_set {w : World} {g : Nat} {t : TypeId} {u0 u1 u2 u3 u4 u5 v0 v1 v2 v3 v4 v5 : Value} (h : Box w g t #[u0, u1, u2, u3, u4, u5]) :
    Box ((((((w.setCell ⟨g, 0, none⟩ v0).setCell ⟨g, 1, none⟩ v1).setCell ⟨g, 2, none⟩ v2).setCell ⟨g, 3, none⟩ v3).setCell ⟨g, 4, none⟩ v4).setCell ⟨g, 5, none⟩ v5) g t #[v0, v1, v2, v3, v4, v5] :=
  (((((h.set 0 v0).set 1 v1).set 2 v2).set 3 v3).set 4 v4).set 5 v5

theorem nine {w : World} {g h : Nat} {t u : TypeId} {a b c d e f a' b' c' d' e' f' : Value} (h1 : Box w g t #[a, b, c, d, e, f]) (h2 : Box w h u #[a', b', c', d', e', f']) :
    w.cell? ⟨g, 0, none⟩ = some a ∧ w.cell? ⟨g, 1, none⟩ = some b ∧ w.cell? ⟨g, 2, none⟩ = some c ∧ w.cell? ⟨g, 3, none⟩ = some d ∧ w.cell? ⟨g, 4, none⟩ = some e ∧ w.cell? ⟨g, 5, none⟩ = some f ∧ w.cell? ⟨h, 1, none⟩ = some b' ∧ w.cell? ⟨h, 2, none⟩ = some c' ∧ w.cell? ⟨h, 5, none⟩ = some f' :=
  ⟨h1.cell 0, h1.cell 1, h1.cell 2, h1.cell 3, h1.cell 4, h1.cell 5, h2.cell 1, h2.cell 2, h2.cell 5⟩
/-- what 'does' is called with -/
structure Calm (w : World) (B : Nat) (F X : Nat → Prop) (d gs c : Nat) (pv v : Value) (s : Dv) : Prop where
  dev : DevAt w B F d gs c pv s
  qat : Qat w (FX F X) v s
  lx : ∀ k, X k → k < w.heap.size
  reads : s.reads < 1000000
  steps : s.steps < 1000000
  puts : s.puts.length < 1000000
section
variable {w : World} {B : Nat} {F X : Nat → Prop} {d gs c : Nat} {pv v : Value} {s : Dv}
theorem Calm.lt (h : Calm w B F X d gs c pv v s) : ∀ k, F k → k < w.heap.size := fun k hk => (h.dev.own k hk).2
theorem Calm.lt' (h : Calm w B F X d gs c pv v s) : ∀ k, FX F X k → k < w.heap.size := fun k hk => hk.elim (h.lt k) (h.lx k)
theorem Calm.base (h : Calm w B F X d gs c pv v s) : B ≤ w.heap.size := by have := h.dev.own d h.dev.fd; omega
end

set_option maxRecDepth 100000 in
set_option maxHeartbeats 2000000 in
theorem does_sync {w : World} {B : Nat} {F X : Nat → Prop} {d gs c : Nat} {pv v : Value} {s : Dv} (h : Calm w B F X d gs c pv v s) (kind at_ torn : Int) (data : ByteArray) (raw : Bool) (Ak : Option Addr) (keep : List Int) (ck : Nat)  :
    Calls Try.prog 16 #[.pointer (some ⟨d, 0, none⟩), v, .agg #[.int .i64 3, .int .i64 at_, .int .i64 torn, .string data, .bool raw, .slice Ak keep.length ck]] w (Does B F X d gs c (syncR s).1 w) := by
  have Hq := Lib.hid (show ∀ W, Below w.heap.size w W → Qat W (F3 (FX F X) w.heap.size) v s from fun W hW => h.qat.three hW)
  have HF3 := Lib.hid (show ∀ W : World, w.heap.size + 3 ≤ W.heap.size → ∀ k, F3 (FX F X) w.heap.size k → k < W.heap.size from fun W hW => F3_lt h.lt' hW)
  have Hend := Lib.hid (fun (w2 wx W : World) (F' : Nat → Prop) (pv' v' : Value) (s' : Dv) => does_end (w := w) (w2 := w2) (wx := wx) (W := W) (B := B) (F := F) (F' := F') (X := X) (d := d) (gs := gs) (c := c) (pv' := pv') (s' := s') (v := v') h.lt)
  have Hlt := Lib.hid h.lt
  have Hg := Lib.hid h.dev.good
  have Hdev := Lib.hid (show ∀ W, Below w.heap.size w W → DevAt W B F d gs c pv s from fun W hW => h.dev.below hW)
  have HB := Lib.hid h.base
  have hrd := h.reads
  have hst := h.steps
  have hpl := h.puts
  obtain ⟨A0, A0', c0, c0', hv, _, _⟩ := h.qat
  subst hv
  clear h
  generalize hS : syncR s = S at *
  have HR := Lib.hid (show ∀ W, Below w.heap.size w W → w.heap.size + 3 ≤ W.heap.size → Calls Try.prog 41 #[qv A0 A0' c0 c0' s] W (RetQ (F3 (FX F X) w.heap.size) S.1 S.2 W) from fun W hW h3 => hS ▸ rsync_q (Hq.out W hW) Hg.out (HF3.out W h3) hst)
  have HD := Lib.hid (show ∀ W, DevAt W B F d gs c pv s → Calls Try.prog 12 #[.pointer (some ⟨d, 0, none⟩)] W (DvRet B F d gs c S.1 (.int .i64 S.2) W) from fun W hW => hS ▸ sync_q hW hst)
  clear hS
  unfold qv at *
  clear hrd hst hpl
  generalize s.sec.length = n0 at *
  generalize s.puts.length = m0 at *
  generalize s.off = o0 at *
  generalize s.fuse = f0 at *
  generalize s.reads = r0 at *
  generalize s.steps = t0 at *
  go_enter Try.func16, Try.ntmps16
  go_wp2_with fail
  refine (HR.out _ (three_new (Below.refl _ _)).2.2.2 (by simp)).mono ?_
  rintro e w1 ⟨v1, rfl, hq1, hb1⟩
  obtain ⟨A1, A1', c1, c1', hv1, hfa, hfb⟩ := hq1
  have Hq1 := Lib.hid (show Qat w1 (F3 (FX F X) w.heap.size) (qv A1 A1' c1 c1' S.1) S.1 from ⟨A1, A1', c1, c1', rfl, hfa, hfb⟩)
  subst hv1
  clear hfa hfb
  obtain ⟨B0, B1, B2, hb⟩ := three_new hb1
  have Hb := Lib.hid hb
  have HB0 := Lib.hid B0
  have HB1 := Lib.hid B1
  have HB2 := Lib.hid B2
  clear B0 B1 B2 hb hb1
  unfold qv at *
  generalize S.1 = s1 at *
  generalize S.2 = q1 at *
  generalize s1.sec.length = n1 at *
  generalize s1.puts.length = m1 at *
  generalize s1.off = o1 at *
  generalize s1.fuse = f1 at *
  generalize s1.reads = r1 at *
  generalize s1.steps = t1 at *
  obtain ⟨⟨k0, k1, k2, k3, k4, k5⟩, ⟨j0, j1, j2, j3, j4, j5⟩⟩ := Box.six HB0.out
  go_upto_region 15 with fail
  have C0 := Lib.hid (Box.six_set (v0 := .slice A1 n1 c1) (v1 := .slice A1' m1 c1') (v2 := .bool o1) (v3 := .int .i64 f1) (v4 := .int .i64 r1) (v5 := .int .i64 t1) HB0.out)
  have C1 := Lib.hid (Box.six_far (j := w.heap.size) (v0 := .slice A1 n1 c1) (v1 := .slice A1' m1 c1') (v2 := .bool o1) (v3 := .int .i64 f1) (v4 := .int .i64 r1) (v5 := .int .i64 t1) HB1.out (by omega))
  have C2 := Lib.hid (Box.six_far (j := w.heap.size) (v0 := .slice A1 n1 c1) (v1 := .slice A1' m1 c1') (v2 := .bool o1) (v3 := .int .i64 f1) (v4 := .int .i64 r1) (v5 := .int .i64 t1) HB2.out (by omega))
  have T2 := Lib.hid (turn_six (h := w.heap.size) (j := w.heap.size) (v0 := .slice A1 n1 c1) (v1 := .slice A1' m1 c1') (v2 := .bool o1) (v3 := .int .i64 f1) (v4 := .int .i64 r1) (v5 := .int .i64 t1) (Turn.refl _ w1) (Nat.le_refl _) (by omega))
  clear k0 k1 k2 k3 k4 k5 j0 j1 j2 j3 j4 j5 HB0 HB1 HB2
  generalize (((((w1.setCell ⟨w.heap.size, 0, none⟩ (.slice A1 n1 c1)).setCell ⟨w.heap.size, 1, none⟩ (.slice A1' m1 c1')).setCell ⟨w.heap.size, 2, none⟩ (.bool o1)).setCell ⟨w.heap.size, 3, none⟩ (.int .i64 f1)).setCell ⟨w.heap.size, 4, none⟩ (.int .i64 r1)).setCell ⟨w.heap.size, 5, none⟩ (.int .i64 t1) = w2 at *
  have Hb2 := Lib.hid (show Below w.heap.size w w2.drew from (Hb.out.trans (T2.out.toBelow (fun k hk => hk.1) Hb.out.size)).drew)
  have hsz2 : w.heap.size + 3 ≤ w2.drew.heap.size := by have := C2.out.lt; show _ ≤ w2.heap.size; omega
  have Hsz2 := Lib.hid hsz2
  have Hq2 := Lib.hid (show Qat w2.drew (F3 (FX F X) w.heap.size) _ s1 from Hq1.out.turn T2.out.drew (fun k hk => .inr hk))
  have D0 := Lib.hid C0.out.drew
  have D1 := Lib.hid C1.out.drew
  have D2 := Lib.hid C2.out.drew
  have HD2 := Lib.hid (HD.out _ (Hdev.out _ Hb2.out))
  have hee : (q1 == q1) = true := by simp
  clear HD Hdev HR Hq hsz2
  obtain ⟨⟨k0, k1, k2, k3, k4, k5⟩, _⟩ := Box.six C0.out
  obtain ⟨⟨l0, l1, l2, l3, l4, l5⟩, _⟩ := Box.six C1.out
  go_wp2_with fail
  go_region_with ((go_at_call 12; refine HD2.out.mono ?_; rintro e wx ⟨rfl, F', pv', hd, ht, hF'⟩; have hn : ∀ j, w.heap.size ≤ j → ¬ F j := fun j hj hf => by { have := Hlt.out j hf; omega }; obtain ⟨⟨p0, p1, p2, p3, p4, p5⟩, _⟩ := Box.six (D0.out.turn ht (hn _ (by omega))); obtain ⟨⟨x0, x1, x2, x3, x4, x5⟩, _⟩ := Box.six (D1.out.turn ht (hn _ (by omega))); obtain ⟨⟨y0, y1, y2, y3, y4, y5⟩, ⟨e0, e1, e2, e3, e4, e5⟩⟩ := Box.six (D2.out.turn ht (hn _ (by omega))); have KEY := Lib.hid (fun W hW => Hend.out w2.drew wx W F' pv' _ s1 Hb2.out Hsz2.out Hq2.out hd ht hF' hW); clear hd ht hF' hn))
  all_goals
    go_wp2_with fail
    refine bodyPost_ret (v := .tuple #[.agg #[.slice A1 n1 c1, .slice A1' m1 c1', .bool o1, .int .i64 f1, .int .i64 r1, .int .i64 t1], .bool true]) (by simp [results, Try.results16, go_sem, y0, y1, y2, y3, y4, y5, Act.put]) rfl (KEY.out _ ?_)
    exact turn_six (Turn.refl _ _) (by omega) (by omega)

set_option maxRecDepth 100000 in
set_option maxHeartbeats 2000000 in
theorem does_fuse {w : World} {B : Nat} {F X : Nat → Prop} {d gs c : Nat} {pv v : Value} {s : Dv} (h : Calm w B F X d gs c pv v s) (kind at_ torn : Int) (data : ByteArray) (raw : Bool) (Ak : Option Addr) (keep : List Int) (ck : Nat) (hat : at_ ≤ 9223372036854775807) :
    Calls Try.prog 16 #[.pointer (some ⟨d, 0, none⟩), v, .agg #[.int .i64 4, .int .i64 at_, .int .i64 torn, .string data, .bool raw, .slice Ak keep.length ck]] w (Does B F X d gs c (fuseR s at_).1 w) := by
  have Hq := Lib.hid (show ∀ W, Below w.heap.size w W → Qat W (F3 (FX F X) w.heap.size) v s from fun W hW => h.qat.three hW)
  have HF3 := Lib.hid (show ∀ W : World, w.heap.size + 3 ≤ W.heap.size → ∀ k, F3 (FX F X) w.heap.size k → k < W.heap.size from fun W hW => F3_lt h.lt' hW)
  have Hend := Lib.hid (fun (w2 wx W : World) (F' : Nat → Prop) (pv' v' : Value) (s' : Dv) => does_end (w := w) (w2 := w2) (wx := wx) (W := W) (B := B) (F := F) (F' := F') (X := X) (d := d) (gs := gs) (c := c) (pv' := pv') (s' := s') (v := v') h.lt)
  have Hlt := Lib.hid h.lt
  have Hg := Lib.hid h.dev.good
  have Hdev := Lib.hid (show ∀ W, Below w.heap.size w W → DevAt W B F d gs c pv s from fun W hW => h.dev.below hW)
  have HB := Lib.hid h.base
  have hrd := h.reads
  have hst := h.steps
  have hpl := h.puts
  obtain ⟨A0, A0', c0, c0', hv, _, _⟩ := h.qat
  subst hv
  clear h
  generalize hS : fuseR s at_ = S at *
  have HR := Lib.hid (show ∀ W, Below w.heap.size w W → w.heap.size + 3 ≤ W.heap.size → Calls Try.prog 42 #[qv A0 A0' c0 c0' s, .int .i64 at_] W (RetQ (F3 (FX F X) w.heap.size) S.1 S.2 W) from fun W hW h3 => hS ▸ rfuse_q (Hq.out W hW) at_)
  have HD := Lib.hid (show ∀ W, DevAt W B F d gs c pv s → Calls Try.prog 27 #[.pointer (some ⟨d, 0, none⟩), .int .i64 at_] W (DvRet B F d gs c S.1 (.int .i64 S.2) W) from fun W hW => hS ▸ fuse_q hW at_ hat)
  clear hS
  unfold qv at *
  clear hrd hst hpl hat
  generalize s.sec.length = n0 at *
  generalize s.puts.length = m0 at *
  generalize s.off = o0 at *
  generalize s.fuse = f0 at *
  generalize s.reads = r0 at *
  generalize s.steps = t0 at *
  go_enter Try.func16, Try.ntmps16
  go_wp2_with fail
  refine (HR.out _ (three_new (Below.refl _ _)).2.2.2 (by simp)).mono ?_
  rintro e w1 ⟨v1, rfl, hq1, hb1⟩
  obtain ⟨A1, A1', c1, c1', hv1, hfa, hfb⟩ := hq1
  have Hq1 := Lib.hid (show Qat w1 (F3 (FX F X) w.heap.size) (qv A1 A1' c1 c1' S.1) S.1 from ⟨A1, A1', c1, c1', rfl, hfa, hfb⟩)
  subst hv1
  clear hfa hfb
  obtain ⟨B0, B1, B2, hb⟩ := three_new hb1
  have Hb := Lib.hid hb
  have HB0 := Lib.hid B0
  have HB1 := Lib.hid B1
  have HB2 := Lib.hid B2
  clear B0 B1 B2 hb hb1
  unfold qv at *
  generalize S.1 = s1 at *
  generalize S.2 = q1 at *
  generalize s1.sec.length = n1 at *
  generalize s1.puts.length = m1 at *
  generalize s1.off = o1 at *
  generalize s1.fuse = f1 at *
  generalize s1.reads = r1 at *
  generalize s1.steps = t1 at *
  obtain ⟨⟨k0, k1, k2, k3, k4, k5⟩, ⟨j0, j1, j2, j3, j4, j5⟩⟩ := Box.six HB0.out
  go_upto_region 18 with fail
  have C0 := Lib.hid (Box.six_set (v0 := .slice A1 n1 c1) (v1 := .slice A1' m1 c1') (v2 := .bool o1) (v3 := .int .i64 f1) (v4 := .int .i64 r1) (v5 := .int .i64 t1) HB0.out)
  have C1 := Lib.hid (Box.six_far (j := w.heap.size) (v0 := .slice A1 n1 c1) (v1 := .slice A1' m1 c1') (v2 := .bool o1) (v3 := .int .i64 f1) (v4 := .int .i64 r1) (v5 := .int .i64 t1) HB1.out (by omega))
  have C2 := Lib.hid (Box.six_far (j := w.heap.size) (v0 := .slice A1 n1 c1) (v1 := .slice A1' m1 c1') (v2 := .bool o1) (v3 := .int .i64 f1) (v4 := .int .i64 r1) (v5 := .int .i64 t1) HB2.out (by omega))
  have T2 := Lib.hid (turn_six (h := w.heap.size) (j := w.heap.size) (v0 := .slice A1 n1 c1) (v1 := .slice A1' m1 c1') (v2 := .bool o1) (v3 := .int .i64 f1) (v4 := .int .i64 r1) (v5 := .int .i64 t1) (Turn.refl _ w1) (Nat.le_refl _) (by omega))
  clear k0 k1 k2 k3 k4 k5 j0 j1 j2 j3 j4 j5 HB0 HB1 HB2
  generalize (((((w1.setCell ⟨w.heap.size, 0, none⟩ (.slice A1 n1 c1)).setCell ⟨w.heap.size, 1, none⟩ (.slice A1' m1 c1')).setCell ⟨w.heap.size, 2, none⟩ (.bool o1)).setCell ⟨w.heap.size, 3, none⟩ (.int .i64 f1)).setCell ⟨w.heap.size, 4, none⟩ (.int .i64 r1)).setCell ⟨w.heap.size, 5, none⟩ (.int .i64 t1) = w2 at *
  have Hb2 := Lib.hid (show Below w.heap.size w w2.drew from (Hb.out.trans (T2.out.toBelow (fun k hk => hk.1) Hb.out.size)).drew)
  have hsz2 : w.heap.size + 3 ≤ w2.drew.heap.size := by have := C2.out.lt; show _ ≤ w2.heap.size; omega
  have Hsz2 := Lib.hid hsz2
  have Hq2 := Lib.hid (show Qat w2.drew (F3 (FX F X) w.heap.size) _ s1 from Hq1.out.turn T2.out.drew (fun k hk => .inr hk))
  have D0 := Lib.hid C0.out.drew
  have D1 := Lib.hid C1.out.drew
  have D2 := Lib.hid C2.out.drew
  have HD2 := Lib.hid (HD.out _ (Hdev.out _ Hb2.out))
  have hee : (q1 == q1) = true := by simp
  clear HD Hdev HR Hq hsz2
  obtain ⟨⟨k0, k1, k2, k3, k4, k5⟩, _⟩ := Box.six C0.out
  obtain ⟨⟨l0, l1, l2, l3, l4, l5⟩, _⟩ := Box.six C1.out
  go_wp2_with fail
  go_region_with ((go_at_call 27; refine HD2.out.mono ?_; rintro e wx ⟨rfl, F', pv', hd, ht, hF'⟩; have hn : ∀ j, w.heap.size ≤ j → ¬ F j := fun j hj hf => by { have := Hlt.out j hf; omega }; obtain ⟨⟨p0, p1, p2, p3, p4, p5⟩, _⟩ := Box.six (D0.out.turn ht (hn _ (by omega))); obtain ⟨⟨x0, x1, x2, x3, x4, x5⟩, _⟩ := Box.six (D1.out.turn ht (hn _ (by omega))); obtain ⟨⟨y0, y1, y2, y3, y4, y5⟩, ⟨e0, e1, e2, e3, e4, e5⟩⟩ := Box.six (D2.out.turn ht (hn _ (by omega))); have KEY := Lib.hid (fun W hW => Hend.out w2.drew wx W F' pv' _ s1 Hb2.out Hsz2.out Hq2.out hd ht hF' hW); clear hd ht hF' hn))
  all_goals
    go_wp2_with fail
    refine bodyPost_ret (v := .tuple #[.agg #[.slice A1 n1 c1, .slice A1' m1 c1', .bool o1, .int .i64 f1, .int .i64 r1, .int .i64 t1], .bool true]) (by simp [results, Try.results16, go_sem, y0, y1, y2, y3, y4, y5, Act.put]) rfl (KEY.out _ ?_)
    exact turn_six (Turn.refl _ _) (by omega) (by omega)

set_option maxRecDepth 100000 in
set_option maxHeartbeats 2000000 in
theorem does_wraw {w : World} {B : Nat} {F X : Nat → Prop} {d gs c : Nat} {pv v : Value} {s : Dv} (h : Calm w B F X d gs c pv v s) (kind at_ torn : Int) (data : ByteArray) (raw : Bool) (Ak : Option Addr) (keep : List Int) (ck : Nat) (hda : data.size ≤ 10000) :
    Calls Try.prog 16 #[.pointer (some ⟨d, 0, none⟩), v, .agg #[.int .i64 2, .int .i64 at_, .int .i64 torn, .string data, .bool true, .slice Ak keep.length ck]] w (Does B F X d gs c (writeR s at_ data).1 w) := by
  have Hq := Lib.hid (show ∀ W, Below w.heap.size w W → Qat W (F3 (FX F X) w.heap.size) v s from fun W hW => h.qat.three hW)
  have HF3 := Lib.hid (show ∀ W : World, w.heap.size + 3 ≤ W.heap.size → ∀ k, F3 (FX F X) w.heap.size k → k < W.heap.size from fun W hW => F3_lt h.lt' hW)
  have Hend := Lib.hid (fun (w2 wx W : World) (F' : Nat → Prop) (pv' v' : Value) (s' : Dv) => does_end (w := w) (w2 := w2) (wx := wx) (W := W) (B := B) (F := F) (F' := F') (X := X) (d := d) (gs := gs) (c := c) (pv' := pv') (s' := s') (v := v') h.lt)
  have Hlt := Lib.hid h.lt
  have Hg := Lib.hid h.dev.good
  have Hdev := Lib.hid (show ∀ W, Below w.heap.size w W → DevAt W B F d gs c pv s from fun W hW => h.dev.below hW)
  have HB := Lib.hid h.base
  have hrd := h.reads
  have hst := h.steps
  have hpl := h.puts
  obtain ⟨A0, A0', c0, c0', hv, _, _⟩ := h.qat
  subst hv
  clear h
  have hdm : data.size ≤ maxLen := by unfold maxLen; omega
  generalize hS : writeR s at_ data = S at *
  have HR := Lib.hid (show ∀ W, Below w.heap.size w W → w.heap.size + 3 ≤ W.heap.size → Calls Try.prog 40 #[qv A0 A0' c0 c0' s, .int .i64 at_, .string data] W (RetQ (F3 (FX F X) w.heap.size) S.1 S.2 W) from fun W hW h3 => hS ▸ rwrite_q (Hq.out W hW) Hg.out (HF3.out W h3) at_ data hdm hst hpl)
  have HD := Lib.hid (show ∀ W, DevAt W B F d gs c pv s → Calls Try.prog 10 #[.pointer (some ⟨d, 0, none⟩), .int .i64 at_, .string data] W (DvRet B F d gs c S.1 (.int .i64 S.2) W) from fun W hW => hS ▸ write_q hW at_ data hdm hst hpl)
  clear hS
  unfold qv at *
  clear hrd hst hpl hda hdm
  generalize s.sec.length = n0 at *
  generalize s.puts.length = m0 at *
  generalize s.off = o0 at *
  generalize s.fuse = f0 at *
  generalize s.reads = r0 at *
  generalize s.steps = t0 at *
  go_enter Try.func16, Try.ntmps16
  go_wp2_with fail
  refine (HR.out _ (three_new (Below.refl _ _)).2.2.2 (by simp)).mono ?_
  rintro e w1 ⟨v1, rfl, hq1, hb1⟩
  obtain ⟨A1, A1', c1, c1', hv1, hfa, hfb⟩ := hq1
  have Hq1 := Lib.hid (show Qat w1 (F3 (FX F X) w.heap.size) (qv A1 A1' c1 c1' S.1) S.1 from ⟨A1, A1', c1, c1', rfl, hfa, hfb⟩)
  subst hv1
  clear hfa hfb
  obtain ⟨B0, B1, B2, hb⟩ := three_new hb1
  have Hb := Lib.hid hb
  have HB0 := Lib.hid B0
  have HB1 := Lib.hid B1
  have HB2 := Lib.hid B2
  clear B0 B1 B2 hb hb1
  unfold qv at *
  generalize S.1 = s1 at *
  generalize S.2 = q1 at *
  generalize s1.sec.length = n1 at *
  generalize s1.puts.length = m1 at *
  generalize s1.off = o1 at *
  generalize s1.fuse = f1 at *
  generalize s1.reads = r1 at *
  generalize s1.steps = t1 at *
  obtain ⟨⟨k0, k1, k2, k3, k4, k5⟩, ⟨j0, j1, j2, j3, j4, j5⟩⟩ := Box.six HB0.out
  go_upto_region 12 with fail
  have C0 := Lib.hid (Box.six_set (v0 := .slice A1 n1 c1) (v1 := .slice A1' m1 c1') (v2 := .bool o1) (v3 := .int .i64 f1) (v4 := .int .i64 r1) (v5 := .int .i64 t1) HB0.out)
  have C1 := Lib.hid (Box.six_far (j := w.heap.size) (v0 := .slice A1 n1 c1) (v1 := .slice A1' m1 c1') (v2 := .bool o1) (v3 := .int .i64 f1) (v4 := .int .i64 r1) (v5 := .int .i64 t1) HB1.out (by omega))
  have C2 := Lib.hid (Box.six_far (j := w.heap.size) (v0 := .slice A1 n1 c1) (v1 := .slice A1' m1 c1') (v2 := .bool o1) (v3 := .int .i64 f1) (v4 := .int .i64 r1) (v5 := .int .i64 t1) HB2.out (by omega))
  have T2 := Lib.hid (turn_six (h := w.heap.size) (j := w.heap.size) (v0 := .slice A1 n1 c1) (v1 := .slice A1' m1 c1') (v2 := .bool o1) (v3 := .int .i64 f1) (v4 := .int .i64 r1) (v5 := .int .i64 t1) (Turn.refl _ w1) (Nat.le_refl _) (by omega))
  clear k0 k1 k2 k3 k4 k5 j0 j1 j2 j3 j4 j5 HB0 HB1 HB2
  generalize (((((w1.setCell ⟨w.heap.size, 0, none⟩ (.slice A1 n1 c1)).setCell ⟨w.heap.size, 1, none⟩ (.slice A1' m1 c1')).setCell ⟨w.heap.size, 2, none⟩ (.bool o1)).setCell ⟨w.heap.size, 3, none⟩ (.int .i64 f1)).setCell ⟨w.heap.size, 4, none⟩ (.int .i64 r1)).setCell ⟨w.heap.size, 5, none⟩ (.int .i64 t1) = w2 at *
  have Hb2 := Lib.hid (show Below w.heap.size w w2.drew from (Hb.out.trans (T2.out.toBelow (fun k hk => hk.1) Hb.out.size)).drew)
  have hsz2 : w.heap.size + 3 ≤ w2.drew.heap.size := by have := C2.out.lt; show _ ≤ w2.heap.size; omega
  have Hsz2 := Lib.hid hsz2
  have Hq2 := Lib.hid (show Qat w2.drew (F3 (FX F X) w.heap.size) _ s1 from Hq1.out.turn T2.out.drew (fun k hk => .inr hk))
  have D0 := Lib.hid C0.out.drew
  have D1 := Lib.hid C1.out.drew
  have D2 := Lib.hid C2.out.drew
  have HD2 := Lib.hid (HD.out _ (Hdev.out _ Hb2.out))
  have hee : (q1 == q1) = true := by simp
  clear HD Hdev HR Hq hsz2
  obtain ⟨⟨k0, k1, k2, k3, k4, k5⟩, _⟩ := Box.six C0.out
  obtain ⟨⟨l0, l1, l2, l3, l4, l5⟩, _⟩ := Box.six C1.out
  go_wp2_with fail
  go_region_with ((go_at_call 10; refine HD2.out.mono ?_; rintro e wx ⟨rfl, F', pv', hd, ht, hF'⟩; have hn : ∀ j, w.heap.size ≤ j → ¬ F j := fun j hj hf => by { have := Hlt.out j hf; omega }; obtain ⟨⟨p0, p1, p2, p3, p4, p5⟩, _⟩ := Box.six (D0.out.turn ht (hn _ (by omega))); obtain ⟨⟨x0, x1, x2, x3, x4, x5⟩, _⟩ := Box.six (D1.out.turn ht (hn _ (by omega))); obtain ⟨⟨y0, y1, y2, y3, y4, y5⟩, ⟨e0, e1, e2, e3, e4, e5⟩⟩ := Box.six (D2.out.turn ht (hn _ (by omega))); have KEY := Lib.hid (fun W hW => Hend.out w2.drew wx W F' pv' _ s1 Hb2.out Hsz2.out Hq2.out hd ht hF' hW); clear hd ht hF' hn))
  all_goals
    go_wp2_with fail
    refine bodyPost_ret (v := .tuple #[.agg #[.slice A1 n1 c1, .slice A1' m1 c1', .bool o1, .int .i64 f1, .int .i64 r1, .int .i64 t1], .bool true]) (by simp [results, Try.results16, go_sem, y0, y1, y2, y3, y4, y5, Act.put]) rfl (KEY.out _ ?_)
    exact turn_six (Turn.refl _ _) (by omega) (by omega)

set_option maxRecDepth 100000 in
set_option maxHeartbeats 2000000 in
theorem does_wfull {w : World} {B : Nat} {F X : Nat → Prop} {d gs c : Nat} {pv v : Value} {s : Dv} (h : Calm w B F X d gs c pv v s) (kind at_ torn : Int) (data : ByteArray) (raw : Bool) (Ak : Option Addr) (keep : List Int) (ck : Nat) (hda : data.size ≤ 10000) :
    Calls Try.prog 16 #[.pointer (some ⟨d, 0, none⟩), v, .agg #[.int .i64 2, .int .i64 at_, .int .i64 torn, .string data, .bool false, .slice Ak keep.length ck]] w (Does B F X d gs c (writeR s at_ (full data)).1 w) := by
  have Hq := Lib.hid (show ∀ W, Below w.heap.size w W → Qat W (F3 (FX F X) w.heap.size) v s from fun W hW => h.qat.three hW)
  have HF3 := Lib.hid (show ∀ W : World, w.heap.size + 3 ≤ W.heap.size → ∀ k, F3 (FX F X) w.heap.size k → k < W.heap.size from fun W hW => F3_lt h.lt' hW)
  have Hend := Lib.hid (fun (w2 wx W : World) (F' : Nat → Prop) (pv' v' : Value) (s' : Dv) => does_end (w := w) (w2 := w2) (wx := wx) (W := W) (B := B) (F := F) (F' := F') (X := X) (d := d) (gs := gs) (c := c) (pv' := pv') (s' := s') (v := v') h.lt)
  have Hlt := Lib.hid h.lt
  have Hg := Lib.hid h.dev.good
  have Hdev := Lib.hid (show ∀ W, Below w.heap.size w W → DevAt W B F d gs c pv s from fun W hW => h.dev.below hW)
  have HB := Lib.hid h.base
  have hrd := h.reads
  have hst := h.steps
  have hpl := h.puts
  obtain ⟨A0, A0', c0, c0', hv, _, _⟩ := h.qat
  subst hv
  clear h
  have hdm : (full data).size ≤ maxLen := by rw [full_size]; unfold maxLen; omega
  have HFu := Lib.hid (fun W => full_any data W hda)
  generalize hS : writeR s at_ (full data) = S at *
  have HR := Lib.hid (show ∀ W, Below w.heap.size w W → w.heap.size + 3 ≤ W.heap.size → Calls Try.prog 40 #[qv A0 A0' c0 c0' s, .int .i64 at_, .string (full data)] W (RetQ (F3 (FX F X) w.heap.size) S.1 S.2 W) from fun W hW h3 => hS ▸ rwrite_q (Hq.out W hW) Hg.out (HF3.out W h3) at_ (full data) hdm hst hpl)
  have HD := Lib.hid (show ∀ W, DevAt W B F d gs c pv s → Calls Try.prog 10 #[.pointer (some ⟨d, 0, none⟩), .int .i64 at_, .string (full data)] W (DvRet B F d gs c S.1 (.int .i64 S.2) W) from fun W hW => hS ▸ write_q hW at_ (full data) hdm hst hpl)
  clear hS
  generalize full data = fd at *
  unfold qv at *
  clear hrd hst hpl hda hdm
  generalize s.sec.length = n0 at *
  generalize s.puts.length = m0 at *
  generalize s.off = o0 at *
  generalize s.fuse = f0 at *
  generalize s.reads = r0 at *
  generalize s.steps = t0 at *
  go_enter Try.func16, Try.ntmps16
  go_wp2_with fail
  refine (HFu.out _).mono ?_
  rintro e w0 ⟨rfl, hb0⟩
  obtain ⟨B0, B1, B2, hb⟩ := three_new hb0
  have Hb0 := Lib.hid hb
  have HA0 := Lib.hid B0
  have HA1 := Lib.hid B1
  have HA2 := Lib.hid B2
  obtain ⟨⟨k0, k1, k2, k3, k4, k5⟩, _⟩ := Box.six B0
  obtain ⟨⟨l0, l1, l2, l3, l4, l5⟩, _⟩ := Box.six B1
  have Hs0 := Lib.hid (show w.heap.size + 3 ≤ w0.heap.size by have := B2.lt; omega)
  clear B0 B1 B2 hb hb0
  go_wp2_with fail
  clear k0 k1 k2 k3 k4 k5 l0 l1 l2 l3 l4 l5
  refine (HR.out _ Hb0.out Hs0.out).mono ?_
  rintro e w1 ⟨v1, rfl, hq1, hb1⟩
  obtain ⟨A1, A1', c1, c1', hv1, hfa, hfb⟩ := hq1
  have Hq1 := Lib.hid (show Qat w1 (F3 (FX F X) w.heap.size) (qv A1 A1' c1 c1' S.1) S.1 from ⟨A1, A1', c1, c1', rfl, hfa, hfb⟩)
  subst hv1
  clear hfa hfb
  have Hb := Lib.hid (Hb0.out.trans (hb1.mono Hb0.out.size))
  have HB0 := Lib.hid (HA0.out.under hb1)
  have HB1 := Lib.hid (HA1.out.under hb1)
  have HB2 := Lib.hid (HA2.out.under hb1)
  clear hb1
  unfold qv at *
  generalize S.1 = s1 at *
  generalize S.2 = q1 at *
  generalize s1.sec.length = n1 at *
  generalize s1.puts.length = m1 at *
  generalize s1.off = o1 at *
  generalize s1.fuse = f1 at *
  generalize s1.reads = r1 at *
  generalize s1.steps = t1 at *
  obtain ⟨⟨k0, k1, k2, k3, k4, k5⟩, ⟨j0, j1, j2, j3, j4, j5⟩⟩ := Box.six HB0.out
  go_upto_region 12 with fail
  have C0 := Lib.hid (Box.six_set (v0 := .slice A1 n1 c1) (v1 := .slice A1' m1 c1') (v2 := .bool o1) (v3 := .int .i64 f1) (v4 := .int .i64 r1) (v5 := .int .i64 t1) HB0.out)
  have C1 := Lib.hid (Box.six_far (j := w.heap.size) (v0 := .slice A1 n1 c1) (v1 := .slice A1' m1 c1') (v2 := .bool o1) (v3 := .int .i64 f1) (v4 := .int .i64 r1) (v5 := .int .i64 t1) HB1.out (by omega))
  have C2 := Lib.hid (Box.six_far (j := w.heap.size) (v0 := .slice A1 n1 c1) (v1 := .slice A1' m1 c1') (v2 := .bool o1) (v3 := .int .i64 f1) (v4 := .int .i64 r1) (v5 := .int .i64 t1) HB2.out (by omega))
  have T2 := Lib.hid (turn_six (h := w.heap.size) (j := w.heap.size) (v0 := .slice A1 n1 c1) (v1 := .slice A1' m1 c1') (v2 := .bool o1) (v3 := .int .i64 f1) (v4 := .int .i64 r1) (v5 := .int .i64 t1) (Turn.refl _ w1) (Nat.le_refl _) (by omega))
  clear k0 k1 k2 k3 k4 k5 j0 j1 j2 j3 j4 j5 HB0 HB1 HB2
  generalize (((((w1.setCell ⟨w.heap.size, 0, none⟩ (.slice A1 n1 c1)).setCell ⟨w.heap.size, 1, none⟩ (.slice A1' m1 c1')).setCell ⟨w.heap.size, 2, none⟩ (.bool o1)).setCell ⟨w.heap.size, 3, none⟩ (.int .i64 f1)).setCell ⟨w.heap.size, 4, none⟩ (.int .i64 r1)).setCell ⟨w.heap.size, 5, none⟩ (.int .i64 t1) = w2 at *
  have Hb2 := Lib.hid (show Below w.heap.size w w2.drew from (Hb.out.trans (T2.out.toBelow (fun k hk => hk.1) Hb.out.size)).drew)
  have hsz2 : w.heap.size + 3 ≤ w2.drew.heap.size := by have := C2.out.lt; show _ ≤ w2.heap.size; omega
  have Hsz2 := Lib.hid hsz2
  have Hq2 := Lib.hid (show Qat w2.drew (F3 (FX F X) w.heap.size) _ s1 from Hq1.out.turn T2.out.drew (fun k hk => .inr hk))
  have D0 := Lib.hid C0.out.drew
  have D1 := Lib.hid C1.out.drew
  have D2 := Lib.hid C2.out.drew
  have HD2 := Lib.hid (HD.out _ (Hdev.out _ Hb2.out))
  have hee : (q1 == q1) = true := by simp
  clear HD Hdev HR Hq hsz2
  obtain ⟨⟨k0, k1, k2, k3, k4, k5⟩, _⟩ := Box.six C0.out
  obtain ⟨⟨l0, l1, l2, l3, l4, l5⟩, _⟩ := Box.six C1.out
  go_wp2_with fail
  go_region_with ((go_at_call 10; refine HD2.out.mono ?_; rintro e wx ⟨rfl, F', pv', hd, ht, hF'⟩; have hn : ∀ j, w.heap.size ≤ j → ¬ F j := fun j hj hf => by { have := Hlt.out j hf; omega }; obtain ⟨⟨p0, p1, p2, p3, p4, p5⟩, _⟩ := Box.six (D0.out.turn ht (hn _ (by omega))); obtain ⟨⟨x0, x1, x2, x3, x4, x5⟩, _⟩ := Box.six (D1.out.turn ht (hn _ (by omega))); obtain ⟨⟨y0, y1, y2, y3, y4, y5⟩, ⟨e0, e1, e2, e3, e4, e5⟩⟩ := Box.six (D2.out.turn ht (hn _ (by omega))); have KEY := Lib.hid (fun W hW => Hend.out w2.drew wx W F' pv' _ s1 Hb2.out Hsz2.out Hq2.out hd ht hF' hW); clear hd ht hF' hn))
  all_goals
    go_wp2_with fail
    refine bodyPost_ret (v := .tuple #[.agg #[.slice A1 n1 c1, .slice A1' m1 c1', .bool o1, .int .i64 f1, .int .i64 r1, .int .i64 t1], .bool true]) (by simp [results, Try.results16, go_sem, y0, y1, y2, y3, y4, y5, Act.put]) rfl (KEY.out _ ?_)
    exact turn_six (Turn.refl _ _) (by omega) (by omega)

set_option maxRecDepth 100000 in
set_option maxHeartbeats 2000000 in
theorem does_boot {w : World} {B : Nat} {F X : Nat → Prop} {d gs c : Nat} {pv v : Value} {s : Dv} (h : Calm w B F X d gs c pv v s) (kind at_ torn : Int) (data : ByteArray) (raw : Bool) (Ak : Option Addr) (keep : List Int) (ck : Nat) (h1 : kind ≠ 1) (h2 : kind ≠ 2) (h3 : kind ≠ 3) (h4 : kind ≠ 4) (h5 : kind ≠ 5) :
    Calls Try.prog 16 #[.pointer (some ⟨d, 0, none⟩), v, .agg #[.int .i64 kind, .int .i64 at_, .int .i64 torn, .string data, .bool raw, .slice Ak keep.length ck]] w (Does B F X d gs c (bootD s) w) := by
  have Hq := Lib.hid (show ∀ W, Below w.heap.size w W → Qat W (F3 (FX F X) w.heap.size) v s from fun W hW => h.qat.three hW)
  have HF3 := Lib.hid (show ∀ W : World, w.heap.size + 3 ≤ W.heap.size → ∀ k, F3 (FX F X) w.heap.size k → k < W.heap.size from fun W hW => F3_lt h.lt' hW)
  have Hend := Lib.hid (fun (w2 wx W : World) (F' : Nat → Prop) (pv' v' : Value) (s' : Dv) => does_end (w := w) (w2 := w2) (wx := wx) (W := W) (B := B) (F := F) (F' := F') (X := X) (d := d) (gs := gs) (c := c) (pv' := pv') (s' := s') (v := v') h.lt)
  have Hlt := Lib.hid h.lt
  have Hg := Lib.hid h.dev.good
  have Hdev := Lib.hid (show ∀ W, Below w.heap.size w W → DevAt W B F d gs c pv s from fun W hW => h.dev.below hW)
  have HB := Lib.hid h.base
  have hrd := h.reads
  have hst := h.steps
  have hpl := h.puts
  obtain ⟨A0, A0', c0, c0', hv, _, _⟩ := h.qat
  subst hv
  clear h
  have d1 : (kind == 1) = false := by rw [beq_eq_false_iff_ne]; exact h1
  have d2 : (kind == 2) = false := by rw [beq_eq_false_iff_ne]; exact h2
  have d3 : (kind == 3) = false := by rw [beq_eq_false_iff_ne]; exact h3
  have d4 : (kind == 4) = false := by rw [beq_eq_false_iff_ne]; exact h4
  have d5 : (kind == 5) = false := by rw [beq_eq_false_iff_ne]; exact h5
  generalize hS : bootD s = S at *
  have HR := Lib.hid (show ∀ W, Below w.heap.size w W → w.heap.size + 3 ≤ W.heap.size → Calls Try.prog 44 #[qv A0 A0' c0 c0' s] W (fun e w' => ∃ A1 A1' c1 c1', e = .returned (.agg #[.slice A1 S.sec.length c1, .slice A1' S.puts.length c1', .bool S.off, .int .i64 S.fuse, .int .i64 S.reads, .int .i64 S.steps]) ∧ Qat w' (F3 (FX F X) w.heap.size) (.agg #[.slice A1 S.sec.length c1, .slice A1' S.puts.length c1', .bool S.off, .int .i64 S.fuse, .int .i64 S.reads, .int .i64 S.steps]) S ∧ Below W.heap.size W w') from fun W hW h3 => by
    rw [← hS]
    refine (rboot_q (Hq.out W hW)).mono ?_
    rintro e w' ⟨v1, rfl, ⟨A1, A1', c1, c1', rfl, q1, q2⟩, hb⟩
    exact ⟨A1, A1', c1, c1', rfl, ⟨A1, A1', c1, c1', rfl, q1, q2⟩, hb⟩)
  have HD := Lib.hid (show ∀ W, DevAt W B F d gs c pv s → Calls Try.prog 28 #[.pointer (some ⟨d, 0, none⟩)] W (DvRet B F d gs c S (.int .i64 0) W) from fun W hW => hS ▸ boot_q hW)
  clear hS
  generalize S.sec.length = n1 at *
  generalize S.puts.length = m1 at *
  generalize S.off = o1 at *
  generalize S.fuse = f1 at *
  generalize S.reads = r1 at *
  generalize S.steps = t1 at *

  unfold qv at *
  clear hrd hst hpl h1 h2 h3 h4 h5
  generalize s.sec.length = n0 at *
  generalize s.puts.length = m0 at *
  generalize s.off = o0 at *
  generalize s.fuse = f0 at *
  generalize s.reads = r0 at *
  generalize s.steps = t0 at *
  go_enter Try.func16, Try.ntmps16
  go_wp2_with fail
  refine (HR.out _ (three_new (Below.refl _ _)).2.2.2 (by simp)).mono ?_
  rintro e w1 ⟨A1, A1', c1, c1', rfl, hq1, hb1⟩
  have Hq1 := Lib.hid hq1
  clear hq1
  obtain ⟨B0, B1, B2, hb⟩ := three_new hb1
  have Hb := Lib.hid hb
  have HB0 := Lib.hid B0
  have HB1 := Lib.hid B1
  have HB2 := Lib.hid B2
  clear B0 B1 B2 hb hb1
  have Hsz := Lib.hid (show w.heap.size + 3 ≤ w1.heap.size by have := HB2.out.lt; omega)
  have HD2 := Lib.hid (HD.out _ (Hdev.out _ Hb.out))
  go_wp2_with fail
  refine HD2.out.mono ?_
  rintro e wx ⟨rfl, F', pv', hd, ht, hF'⟩
  have hn : ∀ j, w.heap.size ≤ j → ¬ F j := fun j hj hf => by { have := Hlt.out j hf; omega }
  obtain ⟨⟨y0, y1, y2, y3, y4, y5⟩, ⟨e0, e1, e2, e3, e4, e5⟩⟩ := Box.six (HB2.out.turn ht (hn _ (by omega)))
  have KEY := Lib.hid (fun W hW => Hend.out w1 wx W F' pv' _ S Hb.out Hsz.out Hq1.out hd ht hF' hW)
  clear hd ht hF' hn
  go_wp2_with fail
  refine bodyPost_ret (v := .tuple #[.agg #[.slice A1 n1 c1, .slice A1' m1 c1', .bool o1, .int .i64 f1, .int .i64 r1, .int .i64 t1], .bool true]) (by simp [results, Try.results16, go_sem, y0, y1, y2, y3, y4, y5, Act.put]) rfl (KEY.out _ ?_)
  exact turn_six (Turn.refl _ _) (by omega) (by omega)

set_option maxRecDepth 100000 in
set_option maxHeartbeats 2000000 in
theorem does_cut {w : World} {B : Nat} {F X : Nat → Prop} {d gs c : Nat} {pv v : Value} {s : Dv} (h : Calm w B F X d gs c pv v s) (kind at_ torn : Int) (data : ByteArray) (raw : Bool) (Ak : Option Addr) (keep : List Int) (ck : Nat) (hkl : keep.length ≤ 10000) (hkr : Row w B Ak (keep.map (Value.int .i64))) :
    Calls Try.prog 16 #[.pointer (some ⟨d, 0, none⟩), v, .agg #[.int .i64 5, .int .i64 at_, .int .i64 torn, .string data, .bool raw, .slice Ak keep.length ck]] w (Does B F X d gs c (cutD s keep torn at_) w) := by
  have Hq := Lib.hid (show ∀ W, Below w.heap.size w W → Qat W (F3 (FX F X) w.heap.size) v s from fun W hW => h.qat.three hW)
  have HF3 := Lib.hid (show ∀ W : World, w.heap.size + 3 ≤ W.heap.size → ∀ k, F3 (FX F X) w.heap.size k → k < W.heap.size from fun W hW => F3_lt h.lt' hW)
  have Hend := Lib.hid (fun (w2 wx W : World) (F' : Nat → Prop) (pv' v' : Value) (s' : Dv) => does_end (w := w) (w2 := w2) (wx := wx) (W := W) (B := B) (F := F) (F' := F') (X := X) (d := d) (gs := gs) (c := c) (pv' := pv') (s' := s') (v := v') h.lt)
  have Hlt := Lib.hid h.lt
  have Hg := Lib.hid h.dev.good
  have Hdev := Lib.hid (show ∀ W, Below w.heap.size w W → DevAt W B F d gs c pv s from fun W hW => h.dev.below hW)
  have HB := Lib.hid h.base
  have hrd := h.reads
  have hst := h.steps
  have hpl := h.puts
  obtain ⟨A0, A0', c0, c0', hv, _, _⟩ := h.qat
  subst hv
  clear h
  generalize hS : cutD s keep torn at_ = S at *
  have HR := Lib.hid (show ∀ W, Below w.heap.size w W → w.heap.size + 3 ≤ W.heap.size → Calls Try.prog 43 #[qv A0 A0' c0 c0' s, .slice Ak keep.length ck, .int .i64 torn, .int .i64 at_] W (fun e w' => ∃ A1 A1' c1 c1', e = .returned (.agg #[.slice A1 S.sec.length c1, .slice A1' S.puts.length c1', .bool S.off, .int .i64 S.fuse, .int .i64 S.reads, .int .i64 S.steps]) ∧ Qat w' (F3 (FX F X) w.heap.size) (.agg #[.slice A1 S.sec.length c1, .slice A1' S.puts.length c1', .bool S.off, .int .i64 S.fuse, .int .i64 S.reads, .int .i64 S.steps]) S ∧ Below W.heap.size W w') from fun W hW h3 => by
    rw [← hS]
    refine (rcut_q (Hq.out W hW) Hg.out (HF3.out W h3) Ak keep ck torn at_ (by omega) ((hkr.more HB.out).below hW |>.more hW.size)).mono ?_
    rintro e w' ⟨v1, rfl, ⟨A1, A1', c1, c1', rfl, q1, q2⟩, hb⟩
    exact ⟨A1, A1', c1, c1', rfl, ⟨A1, A1', c1, c1', rfl, q1, q2⟩, hb⟩)
  have HD := Lib.hid (show ∀ W, Below w.heap.size w W → DevAt W B F d gs c pv s → Calls Try.prog 14 #[.pointer (some ⟨d, 0, none⟩), .slice Ak keep.length ck, .int .i64 torn, .int .i64 at_] W (DvRet B F d gs c S (.int .i64 0) W) from fun W hb hW => hS ▸ cut_q hW Ak keep ck torn at_ (by unfold maxLen; omega) (hkr.below (hb.mono HB.out)))
  clear hS
  generalize S.sec.length = n1 at *
  generalize S.puts.length = m1 at *
  generalize S.off = o1 at *
  generalize S.fuse = f1 at *
  generalize S.reads = r1 at *
  generalize S.steps = t1 at *
  generalize keep.length = kl at *
  unfold qv at *
  clear hrd hst hpl hkl hkr
  generalize s.sec.length = n0 at *
  generalize s.puts.length = m0 at *
  generalize s.off = o0 at *
  generalize s.fuse = f0 at *
  generalize s.reads = r0 at *
  generalize s.steps = t0 at *
  go_enter Try.func16, Try.ntmps16
  go_upto_region 20 with fail
  have HQ3 := Lib.hid (three_new (w := w) (Below.refl _ (((w.alloc (.cells #[.slice A0 n0 c0, .slice A0' m0 c0', .bool o0, .int .i64 f0, .int .i64 r0, .int .i64 t0] 44)).alloc (.cells #[.int .i64 5, .int .i64 at_, .int .i64 torn, .string data, .bool raw, .slice Ak kl ck] 31)).alloc (.cells #[.slice none 0 0, .slice none 0 0, .bool false, .int .i64 0, .int .i64 0, .int .i64 0] 44))))
  generalize ((w.alloc (.cells #[.slice A0 n0 c0, .slice A0' m0 c0', .bool o0, .int .i64 f0, .int .i64 r0, .int .i64 t0] 44)).alloc (.cells #[.int .i64 5, .int .i64 at_, .int .i64 torn, .string data, .bool raw, .slice Ak kl ck] 31)).alloc (.cells #[.slice none 0 0, .slice none 0 0, .bool false, .int .i64 0, .int .i64 0, .int .i64 0] 44) = w0 at *
  have D0 := Lib.hid HQ3.out.1.drew
  have D1 := Lib.hid HQ3.out.2.1.drew
  have D2 := Lib.hid HQ3.out.2.2.1.drew
  have Hb0 := Lib.hid HQ3.out.2.2.2.drew
  obtain ⟨⟨k0, k1, k2, k3, k4, k5⟩, _⟩ := Box.six HQ3.out.1
  obtain ⟨⟨l0, l1, l2, l3, l4, l5⟩, _⟩ := Box.six HQ3.out.2.1
  have Hsz0 := Lib.hid (show w.heap.size + 3 ≤ w0.drew.heap.size by have := D2.out.lt; omega)
  have HR0 := Lib.hid (HR.out _ Hb0.out Hsz0.out)
  clear HR HQ3 Hq HF3 k0 k1 k2 k3 k4 k5 l0 l1 l2 l3 l4 l5
  go_wp2_with fail
  go_region_held3 (fun w' => w'.cell? ⟨w.heap.size, 0, none⟩ = some (.slice A0 n0 c0) ∧ w'.cell? ⟨w.heap.size, 1, none⟩ = some (.slice A0' m0 c0') ∧ w'.cell? ⟨w.heap.size, 2, none⟩ = some (.bool o0) ∧ w'.cell? ⟨w.heap.size, 3, none⟩ = some (.int .i64 f0) ∧ w'.cell? ⟨w.heap.size, 4, none⟩ = some (.int .i64 r0) ∧ w'.cell? ⟨w.heap.size, 5, none⟩ = some (.int .i64 t0) ∧ w'.cell? ⟨w.heap.size + 1, 1, none⟩ = some (.int .i64 at_) ∧ w'.cell? ⟨w.heap.size + 1, 2, none⟩ = some (.int .i64 torn) ∧ w'.cell? ⟨w.heap.size + 1, 5, none⟩ = some (.slice Ak kl ck))
    (first
      | with_reducible exact nine D0.out D1.out
      | with_reducible exact nine E0.out E1.out
      | with_reducible exact nine G0.out G1.out
      | with_reducible exact nine (Box.six_far G0.out (by omega)) (Box.six_far G1.out (by omega)))
    (first
      | (go_at_call 43; refine HR0.out.mono ?_; rintro e w1 ⟨A1, A1', c1, c1', rfl, hq1, hb1⟩; have E0 := Lib.hid (D0.out.under hb1); have E1 := Lib.hid (D1.out.under hb1); have E2 := Lib.hid (D2.out.under hb1); have Hb1 := Lib.hid (Hb0.out.trans (hb1.mono Hb0.out.size)); have Hq1 := Lib.hid hq1; have HD2 := Lib.hid (HD.out _ Hb1.out (Hdev.out _ Hb1.out)); have Hsz1 := Lib.hid (Nat.le_trans Hsz0.out hb1.size); clear hq1 hb1 D0 D1)
      | (go_at_call 14; refine HD2.out.mono ?_; rintro e wx ⟨rfl, F', pv', hd, ht, hF'⟩; have hn : ∀ j, w.heap.size ≤ j → ¬ F j := fun j hj hf => by { have := Hlt.out j hf; omega }; have G0 := Lib.hid (E0.out.turn ht (hn _ (by omega))); have G1 := Lib.hid (E1.out.turn ht (hn _ (by omega))); obtain ⟨⟨y0, y1, y2, y3, y4, y5⟩, ⟨e0, e1, e2, e3, e4, e5⟩⟩ := Box.six (E2.out.turn ht (hn _ (by omega))); have KEY := Lib.hid (fun W hW => Hend.out w1 wx W F' pv' _ S Hb1.out Hsz1.out Hq1.out hd ht hF' hW); clear hd ht hF' hn E0 E1))
  all_goals
    go_wp2_with fail
    refine bodyPost_ret (v := .tuple #[.agg #[.slice A1 n1 c1, .slice A1' m1 c1', .bool o1, .int .i64 f1, .int .i64 r1, .int .i64 t1], .bool true]) (by simp [results, Try.results16, go_sem, y0, y1, y2, y3, y4, y5, Act.put]) rfl (KEY.out _ ?_)
    exact turn_six (Turn.refl _ _) (by omega) (by omega)

set_option maxRecDepth 100000 in
set_option maxHeartbeats 2000000 in
theorem does_read {w : World} {B : Nat} {F X : Nat → Prop} {d gs c : Nat} {pv v : Value} {s : Dv} (h : Calm w B F X d gs c pv v s) (kind at_ torn : Int) (data : ByteArray) (raw : Bool) (Ak : Option Addr) (keep : List Int) (ck : Nat)  :
    Calls Try.prog 16 #[.pointer (some ⟨d, 0, none⟩), v, .agg #[.int .i64 1, .int .i64 at_, .int .i64 torn, .string data, .bool raw, .slice Ak keep.length ck]] w (Does B F X d gs c (readR s at_).1 w) := by
  have Hq := Lib.hid (show ∀ W, Below w.heap.size w W → Qat W (F3 (FX F X) w.heap.size) v s from fun W hW => h.qat.three hW)
  have HF3 := Lib.hid (show ∀ W : World, w.heap.size + 3 ≤ W.heap.size → ∀ k, F3 (FX F X) w.heap.size k → k < W.heap.size from fun W hW => F3_lt h.lt' hW)
  have Hend := Lib.hid (fun (w2 wx W : World) (F' : Nat → Prop) (pv' v' : Value) (s' : Dv) => does_end (w := w) (w2 := w2) (wx := wx) (W := W) (B := B) (F := F) (F' := F') (X := X) (d := d) (gs := gs) (c := c) (pv' := pv') (s' := s') (v := v') h.lt)
  have Hlt := Lib.hid h.lt
  have Hg := Lib.hid h.dev.good
  have Hdev := Lib.hid (show ∀ W, Below w.heap.size w W → DevAt W B F d gs c pv s from fun W hW => h.dev.below hW)
  have HB := Lib.hid h.base
  have hrd := h.reads
  have hst := h.steps
  have hpl := h.puts
  obtain ⟨A0, A0', c0, c0', hv, _, _⟩ := h.qat
  subst hv
  clear h
  obtain ⟨S, hS⟩ : ∃ S, (readR s at_).1 = S := ⟨_, rfl⟩
  obtain ⟨T, hT⟩ : ∃ T, (readR s at_).2 = T := ⟨_, rfl⟩
  rw [hS]
  have HR := Lib.hid (show ∀ W, Below w.heap.size w W → w.heap.size + 3 ≤ W.heap.size → Calls Try.prog 39 #[qv A0 A0' c0 c0' s, .int .i64 at_] W (fun e w' => ∃ A1 A1' c1 c1', e = .returned (.tuple #[.agg #[.slice A1 S.sec.length c1, .slice A1' S.puts.length c1', .bool S.off, .int .i64 S.fuse, .int .i64 S.reads, .int .i64 S.steps], .string T.1, .int .i64 T.2]) ∧ Qat w' (F3 (FX F X) w.heap.size) (.agg #[.slice A1 S.sec.length c1, .slice A1' S.puts.length c1', .bool S.off, .int .i64 S.fuse, .int .i64 S.reads, .int .i64 S.steps]) S ∧ Below W.heap.size W w') from fun W hW h3 => by
    rw [← hS, ← hT]
    refine (rread_q (Hq.out W hW) Hg.out hrd at_).mono ?_
    rintro e w' ⟨v1, rfl, ⟨A1, A1', c1, c1', rfl, q1, q2⟩, hb⟩
    exact ⟨A1, A1', c1, c1', rfl, ⟨A1, A1', c1, c1', rfl, q1, q2⟩, hb⟩)
  have HD := Lib.hid (show ∀ W, DevAt W B F d gs c pv s → Calls Try.prog 26 #[.pointer (some ⟨d, 0, none⟩), .int .i64 at_] W (DvRet B F d gs c S (.tuple #[.string T.1, .int .i64 T.2]) W) from fun W hW => by rw [← hS, ← hT]; exact read_q hW hrd at_)
  clear hS hT
  generalize S.sec.length = n1 at *
  generalize S.puts.length = m1 at *
  generalize S.off = o1 at *
  generalize S.fuse = f1 at *
  generalize S.reads = r1 at *
  generalize S.steps = t1 at *
  generalize T.1 = sx at *
  generalize T.2 = q1 at *
  have hee : (q1 == q1) = true := by simp
  have hxl : (sx.toList == sx.toList) = true := by simp
  unfold qv at *
  clear hrd hst hpl
  generalize s.sec.length = n0 at *
  generalize s.puts.length = m0 at *
  generalize s.off = o0 at *
  generalize s.fuse = f0 at *
  generalize s.reads = r0 at *
  generalize s.steps = t0 at *
  go_enter Try.func16, Try.ntmps16
  go_wp2_with fail
  refine (HR.out _ (three_new (Below.refl _ _)).2.2.2 (by simp)).mono ?_
  rintro e w1 ⟨A1, A1', c1, c1', rfl, hq1, hb1⟩
  have Hq1 := Lib.hid hq1
  clear hq1
  obtain ⟨B0, B1, B2, hb⟩ := three_new hb1
  have Hb := Lib.hid hb
  have HB0 := Lib.hid B0
  have HB1 := Lib.hid B1
  have HB2 := Lib.hid B2
  clear B0 B1 B2 hb hb1
  obtain ⟨⟨l0, l1, l2, l3, l4, l5⟩, _⟩ := Box.six HB1.out
  have hb9 := (Below.refl w1.heap.size w1).alloc (Nat.le_refl _) (.cells #[.slice A1 n1 c1, .slice A1' m1 c1', .bool o1, .int .i64 f1, .int .i64 r1, .int .i64 t1] 44)
  have C1 := Lib.hid (HB1.out.under hb9)
  have C2 := Lib.hid (HB2.out.under hb9)
  have C9 := Lib.hid (Box.new w1 44 #[.slice A1 n1 c1, .slice A1' m1 c1', .bool o1, .int .i64 f1, .int .i64 r1, .int .i64 t1])
  have Hb2 := Lib.hid (Hb.out.trans (hb9.mono Hb.out.size))
  have Hq2 := Lib.hid (Hq1.out.below hb9)
  have Hsz := Lib.hid (show w.heap.size + 3 ≤ (w1.alloc (.cells #[.slice A1 n1 c1, .slice A1' m1 c1', .bool o1, .int .i64 f1, .int .i64 r1, .int .i64 t1] 44)).heap.size by have := C2.out.lt; omega)
  have HD2 := Lib.hid (HD.out _ (Hdev.out _ Hb2.out))
  clear hb9
  go_upto_region 5 with fail
  clear l0 l1 l2 l3 l4 l5
  generalize w1.alloc (.cells #[.slice A1 n1 c1, .slice A1' m1 c1', .bool o1, .int .i64 f1, .int .i64 r1, .int .i64 t1] 44) = w2 at *
  obtain ⟨⟨l0, l1, l2, l3, l4, l5⟩, _⟩ := Box.six C1.out
  go_wp2_with fail
  refine HD2.out.mono ?_
  rintro e wx ⟨rfl, F', pv', hd, ht, hF'⟩
  have hn : ∀ j, w.heap.size ≤ j → ¬ F j := fun j hj hf => by { have := Hlt.out j hf; omega }
  obtain ⟨⟨y0, y1, y2, y3, y4, y5⟩, ⟨e0, e1, e2, e3, e4, e5⟩⟩ := Box.six (C2.out.turn ht (hn _ (by omega)))
  obtain ⟨⟨z0, z1, z2, z3, z4, z5⟩, _⟩ := Box.six (C9.out.turn ht (hn _ Hb.out.size))
  have KEY := Lib.hid (fun W hW => Hend.out _ wx W F' pv' _ S Hb2.out Hsz.out Hq2.out hd ht hF' hW)
  clear hd ht hF' hn
  go_wp2_with fail
  refine bodyPost_ret (v := .tuple #[.agg #[.slice A1 n1 c1, .slice A1' m1 c1', .bool o1, .int .i64 f1, .int .i64 r1, .int .i64 t1], .bool true]) (by simp [results, Try.results16, go_sem, y0, y1, y2, y3, y4, y5, Act.put]) rfl (KEY.out _ ?_)
  exact turn_six (Turn.refl _ _) (by omega) (by omega)

end Go.Proofs.Ytbjjfbojcokmgaa.Dv
