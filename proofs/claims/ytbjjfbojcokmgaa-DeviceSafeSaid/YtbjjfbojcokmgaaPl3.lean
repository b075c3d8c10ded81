/- Layer 7 of the document: Read. -/
import Derived.Test.YtbjjfbojcokmgaaPl2
namespace Go.Proofs.Ytbjjfbojcokmgaa.Dv
open Go.RowKit Base
set_option linter.unusedVariables false
set_option linter.unusedSimpArgs false

/-- a slice that shows values, in a block that is none of F -/
def Free (w : World) (F : Nat → Prop) (A : Option Addr) (vs : List Value) : Prop := vs = [] ∨ ∃ b off, A = some ⟨b, off, none⟩ ∧ b < w.heap.size ∧ ¬ F b ∧ ∀ i v, vs[i]? = some v → w.cell? ⟨b, off + i, none⟩ = some v
theorem Free.row {w : World} {F : Nat → Prop} {A : Option Addr} {vs : List Value} (h : Free w F A vs) : Row w w.heap.size A vs := by
  rcases h with h | ⟨b, off, e, hb, _, hc⟩
  · exact .inl h
  · exact .inr ⟨b, off, e, hb, hc⟩
theorem Free.turn {w w' : World} {F p : Nat → Prop} {A : Option Addr} {vs : List Value} (h : Free w F A vs) (ht : Turn p w w') (hp : ∀ k, p k → F k) : Free w' F A vs := by
  rcases h with h | ⟨b, off, e, hb, hf, hc⟩
  · exact .inl h
  · refine .inr ⟨b, off, e, Nat.lt_of_lt_of_le hb ht.size, hf, fun i v hv => ?_⟩
    have hbl := ht.block b hb (fun h => hf (hp b h))
    have := hc i v hv
    unfold World.cell? at this ⊢
    rw [hbl]
    exact this
theorem Free.below {w w' : World} {F : Nat → Prop} {A : Option Addr} {vs : List Value} (h : Free w F A vs) (hb : Below w.heap.size w w') : Free w' F A vs :=
  h.turn (p := fun _ => False) (.below hb) (fun _ h => h.elim)
theorem Free.own {w : World} {F : Nat → Prop} {base : Nat} {e : TypeId} {size : Nat} {A : Option Addr} {n c : Nat} {vs : List Value} (h : w.ownsRow base e size (.slice A n c) n vs) (hF : ∀ k, F k → k < base) : Free w F A vs := by
  rcases h.2 with ⟨h1, h0⟩ | ⟨g, cap, cur, hv, _, hh, _⟩
  · left
    have := h.1
    rw [h0] at this
    simpa using this
  · injection hv with hA _ _
    subst hA
    have hl := h.lt g rfl
    refine .inr ⟨g, 0, rfl, hl.2, fun hf => ?_, fun i v hv => ?_⟩
    · have := hF g hf
      omega
    · have := h.cells (g := g) rfl i v hv
      rw [add_at] at this
      exact this
theorem Free.nil (w : World) (F : Nat → Prop) (A : Option Addr) : Free w F A [] := .inl rfl
/-- the document's device, as a value -/
def qv (A A' : Option Addr) (c c' : Nat) (s : Dv) : Value := .agg #[.slice A s.sec.length c, .slice A' s.puts.length c', .bool s.off, .int .i64 s.fuse, .int .i64 s.reads, .int .i64 s.steps]
def Qat (w : World) (F : Nat → Prop) (v : Value) (s : Dv) : Prop := ∃ A A' c c', v = qv A A' c c' s ∧ Free w F A (s.sec.map .string) ∧ Free w F A' (putV s.puts)
theorem Qat.below {w w' : World} {F : Nat → Prop} {v : Value} {s : Dv} (h : Qat w F v s) (hb : Below w.heap.size w w') : Qat w' F v s := by
  obtain ⟨A, A', c, c', e, h1, h2⟩ := h
  exact ⟨A, A', c, c', e, h1.below hb, h2.below hb⟩
theorem Qat.turn {w w' : World} {F p : Nat → Prop} {v : Value} {s : Dv} (h : Qat w F v s) (ht : Turn p w w') (hp : ∀ k, p k → F k) : Qat w' F v s := by
  obtain ⟨A, A', c, c', e, h1, h2⟩ := h
  exact ⟨A, A', c, c', e, h1.turn ht hp, h2.turn ht hp⟩

theorem rready_any (A A' : Option Addr) (c c' : Nat) (s : Dv) (w : World) (hg : Good s) (i : Int) :
    Calls Try.prog 48 #[qv A A' c c' s, .int .i64 i] w fun e w' => e = .returned (.int .i64 (readyD s i)) ∧ Below w.heap.size w w' := by
  have hn : s.sec.length ≤ 1000000 := by have := hg.hi; omega
  unfold readyD qv
  by_cases ho : s.off = true
  · rw [if_pos ho, ho]
    exact rready_off _ _ _ _ _ _ _ _ _ w hn i
  · have ho' : s.off = false := by simpa using ho
    rw [if_neg ho, ho']
    by_cases h0 : i < 0
    · rw [if_pos (.inl h0)]
      exact rready_neg _ _ _ _ _ _ _ _ _ w hn i h0
    · by_cases h1 : (s.sec.length : Int) ≤ i
      · rw [if_pos (.inr h1)]
        exact rready_big _ _ _ _ _ _ _ _ _ w hn i h1
      · rw [if_neg (by omega)]
        exact rready_yes _ _ _ _ _ _ _ _ _ w hn i (by omega) (by omega)
theorem two_new {w w1 : World} {t1 t2 : TypeId} {c1 c2 : Array Value} (hb : Below ((w.alloc (.cells c1 t1)).alloc (.cells c2 t2)).heap.size ((w.alloc (.cells c1 t1)).alloc (.cells c2 t2)) w1) :
    Box w1 w.heap.size t1 c1 ∧ Box w1 (w.heap.size + 1) t2 c2 ∧ Below w.heap.size w w1 := by
  refine ⟨((Box.new w t1 c1).alloc _).under hb, ?_, (((Below.refl _ _).alloc (Nat.le_refl _) _).alloc (by simp) _).trans (hb.mono (by simp; omega))⟩
  have h := (Box.new (w.alloc (.cells c1 t1)) t2 c2).under hb
  rw [show (w.alloc (.cells c1 t1)).heap.size = w.heap.size + 1 by simp] at h
  exact h
theorem below_set6' {B g : Nat} {a w : World} {v0 v1 v2 v3 v4 v5 : Value} (h : Below B a w) (hg : B ≤ g) :
    Below B a ((((((w.setCell ⟨g, 0, none⟩ v0).setCell ⟨g, 1, none⟩ v1).setCell ⟨g, 2, none⟩ v2).setCell ⟨g, 3, none⟩ v3).setCell ⟨g, 4, none⟩ v4).setCell ⟨g, 5, none⟩ v5) :=
  (((((h.setCell hg _).setCell hg _).setCell hg _).setCell hg _).setCell hg _).setCell hg _

set_option maxRecDepth 100000 in
set_option maxHeartbeats 1000000 in
theorem rread_no (A A' : Option Addr) (c c' : Nat) (s : Dv) (w : World) (hg : Good s) (i : Int) (hi : readyD s i ≠ 0) :
    Calls Try.prog 39 #[qv A A' c c' s, .int .i64 i] w fun e w' => e = .returned (.tuple #[qv A A' c c' s, .string ⟨#[]⟩, .int .i64 (readyD s i)]) ∧ Below w.heap.size w w' := by
  have HR := Lib.hid (fun w => rready_any A A' c c' s w hg i)
  unfold qv at *
  generalize readyD s i = q at *
  have hq : (q != 0) = true := by rw [bne_iff_ne]; exact hi
  clear hi hg
  generalize s.sec.length = n at *
  generalize s.puts.length = m at *
  generalize s.off = o at *
  generalize s.fuse = f at *
  generalize s.reads = r at *
  generalize s.steps = t at *
  go_enter Try.func39, Try.ntmps39
  go_wp2_with fail
  refine (HR.out _).mono ?_
  rintro e w1 ⟨rfl, hb1⟩
  obtain ⟨B0, B1, hb⟩ := two_new hb1
  have Hb := Lib.hid hb
  obtain ⟨⟨k0, k1, k2, k3, k4, k5⟩, _⟩ := Box.six B0
  obtain ⟨⟨m0, m1, m2, m3, m4, m5⟩, ⟨e0, e1, e2, e3, e4, e5⟩⟩ := Box.six B1
  clear B0 B1 hb hb1
  go_wp2_with fail
  refine bodyPost_ret (v := .tuple #[.agg #[.slice A n c, .slice A' m c', .bool o, .int .i64 f, .int .i64 r, .int .i64 t], .string ⟨#[]⟩, .int .i64 q]) (by simp [results, Try.results39, go_sem, m0, m1, m2, m3, m4, m5]) rfl ⟨rfl, ?_⟩
  exact below_set6' Hb.out (by omega)
set_option maxRecDepth 100000 in
set_option maxHeartbeats 1000000 in
theorem rread_yes (A A' : Option Addr) (c c' : Nat) (s : Dv) (w : World) (hg : Good s) (i : Nat) (ho : s.off = false) (hi : i < s.sec.length) (hr : s.reads < 1000000) (h1 : Row w w.heap.size A (s.sec.map .string)) (h2 : Row w w.heap.size A' (putV s.puts)) :
    Calls Try.prog 39 #[qv A A' c c' s, .int .i64 i] w fun e w' => e = .returned (.tuple #[qv A A' c c' (readD s), .string (shown s.sec s.puts i), .int .i64 0]) ∧ Below w.heap.size w w' := by
  have hq : readyD s i = 0 := by unfold readyD; rw [if_neg (by rw [ho]; simp), if_neg (by omega)]
  have HR := Lib.hid (fun w => rready_any A A' c c' s w hg i)
  rw [hq] at HR
  have HS := Lib.hid (show ∀ W, Below w.heap.size w W → Calls Try.prog 49 #[.agg #[.slice A s.sec.length c, .slice A' s.puts.length c'], .int .i64 i] W fun e w' => e = .returned (.string (shown s.sec s.puts i)) ∧ Below W.heap.size W w' from fun W hW => rshown_any A A' c c' s.sec s.puts i W (by have := hg.hi; omega) hg.puts hi ((h1.below hW).more hW.size) ((h2.below hW).more hW.size))
  have Hv := Lib.hid (show qv A A' c c' (readD s) = .agg #[.slice A s.sec.length c, .slice A' s.puts.length c', .bool s.off, .int .i64 s.fuse, .int .i64 ((s.reads : Int) + 1), .int .i64 s.steps] from rfl)
  rw [Hv.out]
  unfold qv at *
  clear hq hg ho hi h1 h2 Hv
  generalize shown s.sec s.puts i = sh at *
  generalize s.sec.length = n at *
  generalize s.puts.length = m at *
  generalize s.off = o at *
  generalize s.fuse = f at *
  generalize s.reads = r at *
  generalize s.steps = t at *
  go_enter Try.func39, Try.ntmps39
  go_wp2_with fail
  refine (HR.out _).mono ?_
  rintro e w1 ⟨rfl, hb1⟩
  obtain ⟨B0, B1, hb⟩ := two_new hb1
  have Hb := Lib.hid hb
  obtain ⟨⟨k0, k1, k2, k3, k4, k5⟩, ⟨j0, j1, j2, j3, j4, j5⟩⟩ := Box.six B0
  have HB0 := Lib.hid (show Box (w1.setCell ⟨w.heap.size, 4, none⟩ (.int .i64 ((r : Int) + 1))) w.heap.size 44 #[.slice A n c, .slice A' m c', .bool o, .int .i64 f, .int .i64 ((r : Int) + 1), .int .i64 t] from B0.set 4 _)
  have HB1 := Lib.hid (B1.far (p := ⟨w.heap.size, 4, none⟩) (by simp) (.int .i64 ((r : Int) + 1)))
  have Hb2 := Lib.hid (Hb.out.setCell (p := ⟨w.heap.size, 4, none⟩) (Nat.le_refl _) (.int .i64 ((r : Int) + 1)))
  clear B0 B1 hb hb1
  go_wp2_with fail
  clear k0 k1 k2 k3 k4 k5 j0 j1 j2 j3 j4 j5
  generalize w1.setCell ⟨w.heap.size, 4, none⟩ (.int .i64 ((r : Int) + 1)) = w2 at *
  obtain ⟨⟨k0, k1, k2, k3, k4, k5⟩, ⟨j0, j1, j2, j3, j4, j5⟩⟩ := Box.six HB0.out
  obtain ⟨⟨m0, m1, m2, m3, m4, m5⟩, ⟨e0, e1, e2, e3, e4, e5⟩⟩ := Box.six HB1.out
  have hbb : Below w.heap.size w w2.drew := Hb2.out.drew
  go_region_with ((go_at_call 49; refine (HS.out _ hbb).mono ?_; rintro e wx ⟨rfl, hbx⟩; obtain ⟨⟨p0, p1, p2, p3, p4, p5⟩, _⟩ := Box.six (Box.under (w := w2.drew) HB0.out hbx); obtain ⟨⟨q0, q1, q2, q3, q4, q5⟩, ⟨f0, f1, f2, f3, f4, f5⟩⟩ := Box.six (Box.under (w := w2.drew) HB1.out hbx); have Hbx := Lib.hid (hbb.trans (hbx.mono hbb.size)); clear hbx))
  all_goals
    go_wp2_with fail
    refine bodyPost_ret (v := .tuple #[.agg #[.slice A n c, .slice A' m c', .bool o, .int .i64 f, .int .i64 ((r : Int) + 1), .int .i64 t], .string sh, .int .i64 0]) (by simp [results, Try.results39, go_sem, q0, q1, q2, q3, q4, q5, Act.put]) rfl ⟨rfl, ?_⟩
    exact below_set6' Hbx.out (by omega)

end Go.Proofs.Ytbjjfbojcokmgaa.Dv
