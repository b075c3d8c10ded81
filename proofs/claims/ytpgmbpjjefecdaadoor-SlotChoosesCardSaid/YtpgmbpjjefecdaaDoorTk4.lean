/- Layer 4, contracts: take.All with a record's reading. -/
import Derived.Test.YtpgmbpjjefecdaaDoorTk3
import Derived.Defers
import Derived.Recover
import Derived.Laws.Pointers
namespace Go.Proofs.YtpgmbpjjefecdaaDoor.Tk
open Go.RowKit Base Crc Txt Plain
set_option linter.unusedVariables false
set_option linter.unusedSimpArgs false

set_option maxRecDepth 100000 in
set_option maxHeartbeats 1000000 in
theorem catch_idle (gr ge g : Nat) (w : World) (c0 : w.cell? ⟨gr, 0, none⟩ = some (.pointer (some ⟨g, 0, none⟩))) (c2 : w.cell? ⟨g, 2, none⟩ = some (.bool true)) (f2 : w.frozen? ⟨g, 2, none⟩ = false) :
    CallsD Tryd.prog 77 #[.pointer (some ⟨gr, 0, none⟩), .pointer (some ⟨ge, 0, none⟩)] .returning w fun e u' w' => e = .returned (.tuple #[]) ∧ u' = .returning ∧ w' = w.setCell ⟨g, 2, none⟩ (.bool false) := by
  refine callsD_of_wpS Tryd.func77 rfl fun c₀ cs hu => ?_
  show Code.wpS _ _ _ { tmps := #[.pointer (some ⟨gr, 0, none⟩), .pointer (some ⟨ge, 0, none⟩), undef, undef, undef, undef, undef, undef, undef, undef, undef, undef, undef, undef, undef, undef], defers := [] } _ _
  apply wpS_seq
  apply wpS_region
  simp [wpOpsS, go_sem, Exit.thenS, c0, c2, f2]
  apply wpS_seq
  apply wpS_region
  simp [wpOpsS, go_sem, recoverD, hu, Exit.thenS]
  refine wpS_of_wp ?_
  generalize w.setCell ⟨g, 2, none⟩ (.bool false) = W
  go_wp2_with fail
  refine ⟨rfl, .returning, ?_, .tuple #[], by simp [results, Tryd.results77], rfl, rfl, rfl⟩
  cases c₀
  simp_all

set_option maxRecDepth 100000 in
set_option maxHeartbeats 1000000 in
theorem catch_fault (gr ge g : Nat) (y : Int) (w : World) (z : Value) (c0 : w.cell? ⟨gr, 0, none⟩ = some (.pointer (some ⟨g, 0, none⟩))) (c2 : w.cell? ⟨g, 2, none⟩ = some (.bool true)) (f2 : w.frozen? ⟨g, 2, none⟩ = false)
    (ce : (w.setCell ⟨g, 2, none⟩ (.bool false)).cell? ⟨ge, 0, none⟩ = some z) (fe : (w.setCell ⟨g, 2, none⟩ (.bool false)).frozen? ⟨ge, 0, none⟩ = false) (hz : z.oneCell' = true) (hge : ge < w.heap.size) :
    CallsD Tryd.prog 77 #[.pointer (some ⟨gr, 0, none⟩), .pointer (some ⟨ge, 0, none⟩)] (.panicking [{ v := fault y, recovered := false }]) w fun e u' w' => e = .returned (.tuple #[]) ∧ u' = .panicking [{ v := fault y, recovered := true }] ∧ w' = ((w.setCell ⟨g, 2, none⟩ (.bool false)).setCell ⟨ge, 0, none⟩ (.int .i64 y)).alloc (.cells #[.int .i64 y] 110) := by
  unfold fault
  refine callsD_of_wpS Tryd.func77 rfl fun c₀ cs hu => ?_
  show Code.wpS _ _ _ { tmps := #[.pointer (some ⟨gr, 0, none⟩), .pointer (some ⟨ge, 0, none⟩), undef, undef, undef, undef, undef, undef, undef, undef, undef, undef, undef, undef, undef, undef], defers := [] } _ _
  apply wpS_seq
  apply wpS_region
  simp [wpOpsS, go_sem, Exit.thenS, c0, c2, f2]
  apply wpS_seq
  apply wpS_region
  simp [wpOpsS, go_sem, recoverD, hu, Exit.thenS]
  refine wpS_of_wp ?_
  have hsz : (w.setCell ⟨g, 2, none⟩ (.bool false)).heap.size = w.heap.size := by simp
  rw [← hsz] at hge
  clear hsz
  generalize w.setCell ⟨g, 2, none⟩ (.bool false) = W at *
  have hta : ∀ W, (Instr.typeAssert (.iface 110 (.agg #[.int .i64 y])) 20 110 true).run Tryd.prog W = .ok (.tuple #[.agg #[.int .i64 y], .bool true]) W := fun W => by kernel_rfl
  go_wp2_with fail
  exact ⟨rfl, _, rfl, .tuple #[], by simp [results, Tryd.results77], rfl, rfl, rfl⟩

theorem enters : ∀ (args : Array Value) (w : World), (callFunc 50 args).run Tryd.prog w = .ok (.enter 50 args) w := by
  intro args w
  simp [callFunc, Tryd.func50, Tryd.f50, mark]
theorem left_zero (g : Nat) (l : List UInt8) (w : World) (h : Rd w g l l.length) (hl : l.length ≤ 1000000) :
    Calls Tryd.prog 54 #[.pointer (some ⟨g, 0, none⟩)] w fun e w' => e = .returned (.int .i64 0) ∧ ∃ n, w' = w.drewN n := by
  have := left_any g l l.length w h (Nat.le_refl _) hl
  rw [Nat.sub_self] at this
  exact this

/-- take.All's answer over a record's bytes -/
def AllOut (gx : Nat) (l : List UInt8) (w : World) (e : Ending) (w' : World) : Prop :=
  Turn (· = gx) w w' ∧ ((∃ x, body? l = some x ∧ e = .returned (.int .i64 0) ∧ Box w' gx 47 (rootV x)) ∨ (body? l = none ∧ ∃ y x, y ≠ 0 ∧ e = .returned (.int .i64 y) ∧ Box w' gx 47 (rootV x)))

set_option maxRecDepth 100000 in
set_option maxHeartbeats 2000000 in
theorem all_any (gx : Nat) (l : List UInt8) (w : World) (hl : l.length ≤ 1000000) (hx : Box w gx 47 (rootV (0, 0, 0, 0, 0))) :
    Calls Tryd.prog 49 #[.string (str l), .func (.func 50) #[] #[.pointer (some ⟨gx, 0, none⟩)]] w (AllOut gx l w) := by
  have hmf : ∀ (fn : Fn) (first cap : Array Value) (w : World), (Instr.makeFunc fn first cap).run Tryd.prog w = .ok (.func fn first cap) w := fun _ _ _ _ => rfl
  have hgx : gx < w.heap.size := hx.lt
  have HX := Lib.hid hx
  clear hx
  have hb3 := Lib.hid (show Below w.heap.size w (((w.alloc (.cells #[.int .i64 0] 23)).alloc (.cells #[.string (str l), .int .i64 0, .bool true] 108)).alloc (.cells #[.pointer (some ⟨w.heap.size + 1, 0, none⟩)] 72)) from (by repeat (first | exact Below.refl _ _ | assumption | refine Below.drew ?_ | (refine Below.alloc ?_ (by simp <;> omega) _) | (refine Below.setCell ?_ (by simp <;> omega) _))))
  have R3 := Lib.hid (show Rd (((w.alloc (.cells #[.int .i64 0] 23)).alloc (.cells #[.string (str l), .int .i64 0, .bool true] 108)).alloc (.cells #[.pointer (some ⟨w.heap.size + 1, 0, none⟩)] 72)) (w.heap.size + 1) l 0 from (Box.lay (by simp)).alloc _)
  have E3 := Lib.hid (show Box (((w.alloc (.cells #[.int .i64 0] 23)).alloc (.cells #[.string (str l), .int .i64 0, .bool true] 108)).alloc (.cells #[.pointer (some ⟨w.heap.size + 1, 0, none⟩)] 72)) w.heap.size 23 #[.int .i64 0] from ((Box.lay rfl).alloc _).alloc _)
  have V3 := Lib.hid (show Box (((w.alloc (.cells #[.int .i64 0] 23)).alloc (.cells #[.string (str l), .int .i64 0, .bool true] 108)).alloc (.cells #[.pointer (some ⟨w.heap.size + 1, 0, none⟩)] 72)) (w.heap.size + 1 + 1) 72 #[.pointer (some ⟨w.heap.size + 1, 0, none⟩)] from Box.lay (by simp))
  have X3 := Lib.hid (HX.out.under hb3.out)
  have hQ : ∀ e w', Turn (· = gx) w w' → ((∃ x, body? l = some x ∧ e = .returned (.int .i64 0) ∧ Box w' gx 47 (rootV x)) ∨ (body? l = none ∧ ∃ y x, y ≠ 0 ∧ e = .returned (.int .i64 y) ∧ Box w' gx 47 (rootV x))) → AllOut gx l w e w' := fun e w' h1 h2 => ⟨h1, h2⟩
  have HQ := Lib.hid hQ
  clear hQ
  generalize hQ : AllOut gx l w = Q at *
  clear hQ
  have HT := Lib.hid (show ∀ w4, Turn (fun k => k = w.heap.size + 1 ∨ k = gx) (((w.alloc (.cells #[.int .i64 0] 23)).alloc (.cells #[.string (str l), .int .i64 0, .bool true] 108)).alloc (.cells #[.pointer (some ⟨w.heap.size + 1, 0, none⟩)] 72)) w4 → Turn (· = gx) w w4 by
    intro w4 h
    refine ⟨h.os, h.tape, h.output, Nat.le_trans (by simp; omega) h.size, fun k hk hp => ?_⟩
    rw [h.block k (by simp; omega) (by rintro (e | e); omega; exact hp e)]
    exact hb3.out.block k hk)
  go_enter_defers Tryd.func49, Tryd.ntmps49
  go_wp2_with fail
  generalize ((w.alloc (.cells #[.int .i64 0] 23)).alloc (.cells #[.string (str l), .int .i64 0, .bool true] 108)).alloc (.cells #[.pointer (some ⟨w.heap.size + 1, 0, none⟩)] 72) = w3 at *
  refine (read_any (w.heap.size + 1) gx l w3 R3.out hl X3.out (by omega)).mono ?_
  rintro e w4 ⟨ht4, ⟨x, hb, rfl, hr4, hx4⟩ | ⟨hb, y, b, x, hy, rfl, hr4, hx4⟩⟩
  · have V4 := V3.out.turn ht4 (by omega)
    have E4 := E3.out.turn ht4 (by omega)
    have HT4 := Lib.hid (HT.out w4 ht4)
    have HR4 := Lib.hid hr4
    have HX4 := Lib.hid hx4
    have HB := Lib.hid hb
    have HE4 := Lib.hid E4
    have HV4 := Lib.hid V4
    obtain ⟨c0, f0⟩ := V4.one
    clear ht4 hr4 hx4 hb V4 E4
    have hzz : ((0 : Int) == 0) = true := rfl
    go_wp2_with fail
    go_quiet (first
      | (go_at_call 54; exact Calls.quiet_of (left_zero _ l _ (HR4.out.drewN _) hl))
      | (go_at_call 52; exact quiet_same (want_yes _ l l.length 3 _ (HR4.out.drewN _))))
    have E5 := HE4.out.drewN nq
    have HE5 := Lib.hid E5
    have HV5 := Lib.hid (HV4.out.drewN nq)
    have HR5 := Lib.hid (HR4.out.drewN nq)
    have HX5 := Lib.hid (HX4.out.drewN nq)
    have HT5 := Lib.hid (HT4.out.drewN nq)
    obtain ⟨k0, m0⟩ := E5.one
    clear E5 c0 f0
    generalize w4.drewN nq = w5 at *
    have E6 := HE5.out.set 0 (.int .i64 0)
    have V6 := HV5.out.far (p := ⟨w.heap.size, 0, none⟩) (by simp; omega) (.int .i64 0)
    have R6 := Box.far HR5.out (p := ⟨w.heap.size, 0, none⟩) (by simp) (.int .i64 0)
    have X6 := HX5.out.far (p := ⟨w.heap.size, 0, none⟩) (by simp; omega) (.int .i64 0)
    have E7 := E6.far (p := ⟨w.heap.size + 1, 2, none⟩) (by simp) (.bool false)
    have X7 := X6.far (p := ⟨w.heap.size + 1, 2, none⟩) (by simp; omega) (.bool false)
    have hce : ((w5.setCell ⟨w.heap.size, 0, none⟩ (.int .i64 0)).setCell ⟨w.heap.size + 1, 2, none⟩ (.bool false)).cell? ⟨w.heap.size, 0, none⟩ = some (.int .i64 0) := E7.cell 0
    have HT7 := Lib.hid (show Turn (· = gx) w ((w5.setCell ⟨w.heap.size, 0, none⟩ (.int .i64 0)).setCell ⟨w.heap.size + 1, 2, none⟩ (.bool false)) by
      refine ⟨HT5.out.os, HT5.out.tape, HT5.out.output, by have := HT5.out.size; simpa using this, fun k hk hp => ?_⟩
      rw [Below.heap_setCell _ _ _ _ (by simp; omega), Below.heap_setCell _ _ _ _ (by simp; omega)]
      exact HT5.out.block k hk hp)
    have HX7 := Lib.hid X7
    have Hq := Lib.hid (HQ.out _ _ HT7.out (.inl ⟨x, HB.out, rfl, HX7.out⟩))
    go_wp2_with fail
    refine leaves_cons (f := 77) (args := #[.pointer (some ⟨w.heap.size + 1 + 1, 0, none⟩), .pointer (some ⟨w.heap.size, 0, none⟩)]) (by simp) (by simp [go_sem]) ?_
    refine (catch_idle (w.heap.size + 1 + 1) w.heap.size (w.heap.size + 1) _ (V6.cell 0) (R6.cell 2) (R6.free 2)).mono ?_
    rintro e u' w'' ⟨rfl, rfl, rfl⟩
    clear V6 R6 X6 E6 E7 X7 k0 m0
    simp [Leaves, settle, results, Tryd.results49, go_sem, hce]
    exact Hq.out
  · have V4 := V3.out.turn ht4 (by omega)
    have E4 := E3.out.turn ht4 (by omega)
    have HT4 := Lib.hid (HT.out w4 ht4)
    have HR4 := Lib.hid hr4
    have HX4 := Lib.hid hx4
    have HB := Lib.hid hb
    have Hy := Lib.hid hy
    have hge : w.heap.size < w4.heap.size := E4.lt
    have E5 := E4.far (p := ⟨w.heap.size + 1, 2, none⟩) (by simp) (.bool false)
    have hce := E5.cell 0
    have hfe := E5.free 0
    have E6 := (E5.set 0 (.int .i64 y)).alloc (.cells #[.int .i64 y] 110)
    have X6 := ((hx4.far (p := ⟨w.heap.size + 1, 2, none⟩) (by simp; omega) (.bool false)).far (p := ⟨w.heap.size, 0, none⟩) (by simp; omega) (.int .i64 y)).alloc (.cells #[.int .i64 y] 110)
    have hcell : (((w4.setCell ⟨w.heap.size + 1, 2, none⟩ (.bool false)).setCell ⟨w.heap.size, 0, none⟩ (.int .i64 y)).alloc (.cells #[.int .i64 y] 110)).cell? ⟨w.heap.size, 0, none⟩ = some (.int .i64 y) := E6.cell 0
    have HT7 := Lib.hid (show Turn (· = gx) w (((w4.setCell ⟨w.heap.size + 1, 2, none⟩ (.bool false)).setCell ⟨w.heap.size, 0, none⟩ (.int .i64 y)).alloc (.cells #[.int .i64 y] 110)) by
      refine Turn.alloc ?_ _
      refine ⟨HT4.out.os, HT4.out.tape, HT4.out.output, by have := HT4.out.size; simpa using this, fun k hk hp => ?_⟩
      rw [Below.heap_setCell _ _ _ _ (by simp; omega), Below.heap_setCell _ _ _ _ (by simp; omega)]
      exact HT4.out.block k hk hp)
    have Hq := Lib.hid (HQ.out (.returned (.int .i64 y)) _ HT7.out (.inr ⟨HB.out, y, x, Hy.out, rfl, X6⟩))
    have HV4 := Lib.hid V4
    clear ht4 hr4 hx4 hb hy E4 E5 E6 X6 V4
    go_wp2_with fail
    refine leaves_cons (f := 77) (args := #[.pointer (some ⟨w.heap.size + 1 + 1, 0, none⟩), .pointer (some ⟨w.heap.size, 0, none⟩)]) (by simp) (by simp [go_sem]) ?_
    refine (catch_fault (w.heap.size + 1 + 1) w.heap.size (w.heap.size + 1) y w4 _ (HV4.out.cell 0) (Box.cell HR4.out 2) (Box.free HR4.out 2) hce hfe rfl hge).mono ?_
    rintro e u' w'' ⟨rfl, rfl, rfl⟩
    simp [Leaves, settle, results, Tryd.results49, go_sem, hcell]
    exact Hq.out

end Go.Proofs.YtpgmbpjjefecdaaDoor.Tk
