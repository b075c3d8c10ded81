/- The walk of SlotPuts: it returns true and writes nothing that was there. -/
import Derived.Test.YtpgmbpjjefecdaaDoorSix
import Derived.Test.YtpgmbpjjefecdaaDoorSl9
import Derived.Test.YtpgmbpjjefecdaaDoorSl25
namespace Go.Proofs.YtpgmbpjjefecdaaDoor.slotPuts
open Go.RowKit Base Crc Plain Txt Pg Sl
set_option linter.unusedVariables false
set_option linter.unusedSimpArgs false

set_option maxRecDepth 100000 in
set_option maxHeartbeats 1000000 in
theorem puts_no (r : Rt) (w : World) (h : ¬ Ok r) :
    Calls Tryd.prog 7 #[.agg (rtV r)] w fun e w' => e = .returned (.bool true) ∧ Below w.heap.size w w' := by
  have HP := Lib.hid (fun w => put_no r w h)
  have HI := Lib.hid (fun w => is_no r w h)
  have HC := Lib.hid (fun w => check_no r w h)
  have HW := Lib.hid Sl.awake_any
  clear h
  obtain ⟨g, p, m, c, n, t⟩ := r
  simp only [rtV] at *
  go_enter Tryd.func7, Tryd.ntmps7
  go_wp2_with fail
  refine (HP.out _).mono ?_
  rintro e w1 ⟨rfl, hb1⟩
  have HB1 := Lib.hid ((Box.new w 47 #[.int .i64 g, .int .i64 p, .int .i64 m, .int .i64 c, .int .i64 n, .int .i64 t]).under hb1)
  have Hb1 := Lib.hid (show Below w.heap.size w w1 from ((Below.refl _ _).alloc (Nat.le_refl _) _).trans (hb1.mono (by simp)))
  clear hb1
  obtain ⟨⟨k0, k1, k2, k3, k4, k5⟩, ⟨e0, e1, e2, e3, e4, e5⟩⟩ := Tk.Box.six HB1.out
  go_wp2_with fail
  refine (HI.out _).mono ?_
  rintro e w2 ⟨rfl, hb2⟩
  have HB2 := Lib.hid (HB1.out.under hb2)
  have Hb2 := Lib.hid (Hb1.out.trans (hb2.mono Hb1.out.size))
  clear hb2 HB1 Hb1 k0 k1 k2 k3 k4 k5 e0 e1 e2 e3 e4 e5
  obtain ⟨⟨k0, k1, k2, k3, k4, k5⟩, ⟨e0, e1, e2, e3, e4, e5⟩⟩ := Tk.Box.six HB2.out
  go_wp2_with fail
  refine (HC.out _).mono ?_
  rintro e w3 ⟨rfl, hb3⟩
  have HB3 := Lib.hid (HB2.out.under hb3)
  have Hb3 := Lib.hid (Hb2.out.trans (hb3.mono Hb2.out.size))
  clear hb3 HB2 Hb2 k0 k1 k2 k3 k4 k5 e0 e1 e2 e3 e4 e5
  obtain ⟨⟨k0, k1, k2, k3, k4, k5⟩, ⟨e0, e1, e2, e3, e4, e5⟩⟩ := Tk.Box.six HB3.out
  go_wp2_with fail
  refine (HW.out _).mono ?_
  rintro e w4 ⟨rfl, hb4⟩
  go_wp2_with fail
  go_ret
  exact ⟨rfl, Hb3.out.trans (hb4.mono Hb3.out.size)⟩
set_option maxRecDepth 100000 in
set_option maxHeartbeats 1000000 in
theorem puts_yes (r : Rt) (w : World) (h : Ok r) :
    Calls Tryd.prog 7 #[.agg (rtV r)] w fun e w' => e = .returned (.bool true) ∧ Below w.heap.size w w' := by
  have HP := Lib.hid (fun w => put_yes r w h)
  have HI := Lib.hid (fun w => is_yes r w h)
  have HC := Lib.hid (fun w => check_yes r w h)
  have HR := Lib.hid (fun w => rput_yes r w h)
  have HT := Lib.hid (fun w => take_yes (str (rec9 r)) r w (by rw [str_list]; exact stake_rec r h))
  have HW := Lib.hid Sl.awake_any
  clear h
  generalize str (rec9 r) = S at *
  obtain ⟨g, p, m, c, n, t⟩ := r
  simp only [rtV] at *
  go_enter Tryd.func7, Tryd.ntmps7
  go_wp2_with fail
  refine (HP.out _).mono ?_
  rintro e w1 ⟨rfl, hb1⟩
  have HB1 := Lib.hid ((Box.new w 47 #[.int .i64 g, .int .i64 p, .int .i64 m, .int .i64 c, .int .i64 n, .int .i64 t]).under hb1)
  have Hb1 := Lib.hid (show Below w.heap.size w w1 from ((Below.refl _ _).alloc (Nat.le_refl _) _).trans (hb1.mono (by simp)))
  clear hb1
  obtain ⟨⟨k0, k1, k2, k3, k4, k5⟩, ⟨e0, e1, e2, e3, e4, e5⟩⟩ := Tk.Box.six HB1.out
  go_wp2_with fail
  refine (HI.out _).mono ?_
  rintro e w2 ⟨rfl, hb2⟩
  have HB2 := Lib.hid (HB1.out.under hb2)
  have Hb2 := Lib.hid (Hb1.out.trans (hb2.mono Hb1.out.size))
  clear hb2 HB1 Hb1 k0 k1 k2 k3 k4 k5 e0 e1 e2 e3 e4 e5
  obtain ⟨⟨k0, k1, k2, k3, k4, k5⟩, ⟨e0, e1, e2, e3, e4, e5⟩⟩ := Tk.Box.six HB2.out
  go_wp2_with fail
  refine (HT.out _).mono ?_
  rintro e w3 ⟨rfl, hb3⟩
  have HB3 := Lib.hid ((HB2.out.under hb3).alloc (.cells #[.int .i64 g, .int .i64 p, .int .i64 m, .int .i64 c, .int .i64 n, .int .i64 t] 47))
  have HX3 := Lib.hid (Box.new w3 47 #[.int .i64 g, .int .i64 p, .int .i64 m, .int .i64 c, .int .i64 n, .int .i64 t])
  have Hb3' := Lib.hid (Hb2.out.trans (hb3.mono Hb2.out.size))
  have Hb3 := Lib.hid (Hb3'.out.alloc Hb3'.out.size (.cells #[.int .i64 g, .int .i64 p, .int .i64 m, .int .i64 c, .int .i64 n, .int .i64 t] 47))
  have hh := hb3
  clear k0 k1 k2 k3 k4 k5 e0 e1 e2 e3 e4 e5
  obtain ⟨⟨k0, k1, k2, k3, k4, k5⟩, ⟨e0, e1, e2, e3, e4, e5⟩⟩ := Tk.Box.six (HB2.out.under hh)
  have hlt3 : w.heap.size < w3.heap.size := (HB2.out.under hh).lt
  clear hb3 HB2 Hb2 hh Hb3'
  go_wp2_with fail
  generalize w3.alloc (.cells #[.int .i64 g, .int .i64 p, .int .i64 m, .int .i64 c, .int .i64 n, .int .i64 t] 47) = v3 at *
  generalize w3.heap.size = gx at *
  refine (HR.out _).mono ?_
  rintro e w4 ⟨rfl, hb4⟩
  have HB4 := Lib.hid (HB3.out.under hb4)
  have HX4 := Lib.hid (HX3.out.under hb4)
  have Hb4 := Lib.hid (Hb3.out.trans (hb4.mono Hb3.out.size))
  clear hb4 k0 k1 k2 k3 k4 k5 e0 e1 e2 e3 e4 e5 HB3 HX3 Hb3
  obtain ⟨⟨k0, k1, k2, k3, k4, k5⟩, ⟨e0, e1, e2, e3, e4, e5⟩⟩ := Tk.Box.six HB4.out
  go_wp2_with fail
  refine (HC.out _).mono ?_
  rintro e w5 ⟨rfl, hb5⟩
  have HB5 := Lib.hid (HB4.out.under hb5)
  have HX5 := Lib.hid (HX4.out.under hb5)
  have Hb5 := Lib.hid (Hb4.out.trans (hb5.mono Hb4.out.size))
  clear hb5 k0 k1 k2 k3 k4 k5 e0 e1 e2 e3 e4 e5 HB4 HX4 Hb4
  obtain ⟨⟨k0, k1, k2, k3, k4, k5⟩, ⟨e0, e1, e2, e3, e4, e5⟩⟩ := Tk.Box.six HB5.out
  obtain ⟨⟨q0, q1, q2, q3, q4, q5⟩, ⟨f0, f1, f2, f3, f4, f5⟩⟩ := Tk.Box.six HX5.out
  go_wp2_with fail
  refine (HW.out _).mono ?_
  rintro e w6 ⟨rfl, hb6⟩
  go_wp2_with fail
  go_ret
  exact ⟨rfl, Hb5.out.trans (hb6.mono Hb5.out.size)⟩
theorem walk (r : Rt) (w : World) (wr : (Lit.int .i64 r.g).wf = true ∧ (Lit.int .i64 r.p).wf = true ∧ (Lit.int .i64 r.m).wf = true ∧ (Lit.int .i64 r.c).wf = true ∧ (Lit.int .i64 r.n).wf = true ∧ (Lit.int .i64 r.t).wf = true) :
    Calls Tryd.prog 7 #[.agg (rtV r)] w fun e w' => e = .returned (.bool true) ∧ Below w.heap.size w w' := by
  by_cases h : Ok r
  · exact puts_yes r w h
  · exact puts_no r w h

end Go.Proofs.YtpgmbpjjefecdaaDoor.slotPuts
