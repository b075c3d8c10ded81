/- The walk of SlotChooses: it returns true and writes nothing that was there (gensl32.py prints it). -/
import Derived.Test.YtpgmbpjjefecdaaDoorSl9
import Derived.Test.YtpgmbpjjefecdaaDoorSl31
import Derived.Deep.Cut
namespace Go.Proofs.YtpgmbpjjefecdaaDoor.slotChooses
open Go.RowKit Base Crc Plain Txt Pg Sl
set_option linter.unusedVariables false
set_option linter.unusedSimpArgs false

set_option maxRecDepth 100000 in
set_option maxHeartbeats 1000000 in
theorem long1 (s1 s2 : ByteArray) (g : Int) (w : World) (hm1 : s1.size ≤ maxLen) (hm2 : s2.size ≤ maxLen) (hs : 1000 < s1.size) :
    Calls Tryd.prog 9 #[.string s1, .string s2, .int .i64 g] w fun e w' => e = .returned (.bool true) ∧ Below w.heap.size w w' := by
  unfold maxLen at hm1 hm2
  have HW := Lib.hid Sl.awake_any
  go_enter Tryd.func9, Tryd.ntmps9
  go_wp2_with fail
  refine (HW.out _).mono ?_
  rintro e w5 ⟨rfl, hb5⟩
  go_wp2_with fail
  go_ret
  exact ⟨rfl, hb5⟩
set_option maxRecDepth 100000 in
set_option maxHeartbeats 1000000 in
theorem long2 (s1 s2 : ByteArray) (g : Int) (w : World) (hm1 : s1.size ≤ maxLen) (hm2 : s2.size ≤ maxLen) (hs1 : s1.size ≤ 1000) (hs : 1000 < s2.size) :
    Calls Tryd.prog 9 #[.string s1, .string s2, .int .i64 g] w fun e w' => e = .returned (.bool true) ∧ Below w.heap.size w w' := by
  unfold maxLen at hm1 hm2
  have HW := Lib.hid Sl.awake_any
  go_enter Tryd.func9, Tryd.ntmps9
  go_wp2_with fail
  refine (HW.out _).mono ?_
  rintro e w5 ⟨rfl, hb5⟩
  go_wp2_with fail
  go_ret
  exact ⟨rfl, hb5⟩
set_option maxRecDepth 100000 in
set_option maxHeartbeats 1000000 in
theorem ch_tn (s1 s2 : ByteArray) (g : Int) (w : World) (x : Rt) (hs1 : s1.size ≤ 1000) (hs2 : s2.size ≤ 1000) (wg : (Lit.int .i64 g).wf = true) (hg : g < 0 ∧ g % 2 = 1)
    (h0 : ∀ w, Calls Tryd.prog 38 #[.string s1, .string s2] w fun e w' => e = .returned (.tuple #[.agg (rtV x), .bool true]) ∧ Below w.heap.size w w')
    (h1 : ∀ w, Calls Tryd.prog 39 #[.string s1, .string s2] w fun e w' => e = .returned (.tuple #[.agg (rtV x), .bool true]) ∧ Below w.heap.size w w') :
    Calls Tryd.prog 9 #[.string s1, .string s2, .int .i64 g] w fun e w' => e = .returned (.bool true) ∧ Below w.heap.size w w' := by
  have H0 := Lib.hid h0
  have H1 := Lib.hid h1
  have HW := Lib.hid Sl.awake_any
  have HPl := Lib.hid (fun w => place_any g w)
  rw [place_mod g wg] at HPl
  have hgb := bounds_i64 wg
  have htm : g.tmod 2 = -1 := by
    have := Int.tmod_eq_emod (a := g) (b := 2)
    rw [this, if_neg (by omega)]; simp; omega
  clear h0 h1 wg
  have he : g % 2 = 1 := hg.2
  rw [he] at HPl
  clear he hg
  obtain ⟨xg, xp, xm, xc, xn, xs⟩ := x
  simp only [rtV] at *
  go_enter Tryd.func9, Tryd.ntmps9
  go_wp2_with fail
  refine (H0.out _).mono ?_
  rintro e w0 ⟨rfl, hb0⟩
  have hq0 := Lib.hid (show Below w.heap.size w w0 from hb0)
  have HB0_0 := Lib.hid (Box.new w0 47 #[.int .i64 xg, .int .i64 xp, .int .i64 xm, .int .i64 xc, .int .i64 xn, .int .i64 xs])
  have Hb0 := Lib.hid (hq0.out.alloc hq0.out.size (.cells #[.int .i64 xg, .int .i64 xp, .int .i64 xm, .int .i64 xc, .int .i64 xn, .int .i64 xs] 47))
  clear hb0 hq0  
  go_wp2_with fail
  generalize w0.alloc (.cells #[.int .i64 xg, .int .i64 xp, .int .i64 xm, .int .i64 xc, .int .i64 xn, .int .i64 xs] 47) = v0 at *
  generalize w0.heap.size = g0 at *
  refine (H1.out _).mono ?_
  rintro e w1 ⟨rfl, hb1⟩
  have hq1 := Lib.hid (show Below w.heap.size w w1 from Hb0.out.trans (hb1.mono Hb0.out.size))
  have HB0_1 := Lib.hid ((HB0_0.out.under hb1).alloc (.cells #[.int .i64 xg, .int .i64 xp, .int .i64 xm, .int .i64 xc, .int .i64 xn, .int .i64 xs] 47))
  have hl0 : g0 < w1.heap.size := (HB0_0.out.under hb1).lt
  have HB1_1 := Lib.hid (Box.new w1 47 #[.int .i64 xg, .int .i64 xp, .int .i64 xm, .int .i64 xc, .int .i64 xn, .int .i64 xs])
  have Hb1 := Lib.hid (hq1.out.alloc hq1.out.size (.cells #[.int .i64 xg, .int .i64 xp, .int .i64 xm, .int .i64 xc, .int .i64 xn, .int .i64 xs] 47))
  clear hb1 hq1 HB0_0 Hb0
  go_upto_region 5 with fail
  generalize w1.alloc (.cells #[.int .i64 xg, .int .i64 xp, .int .i64 xm, .int .i64 xc, .int .i64 xn, .int .i64 xs] 47) = v1 at *
  generalize w1.heap.size = g1 at *
  clear hl0
  obtain ⟨⟨a0, a1, a2, a3, a4, a5⟩, ⟨p0, p1, p2, p3, p4, p5⟩⟩ := Tk.Box.six HB0_1.out
  obtain ⟨⟨b0, b1, b2, b3, b4, b5⟩, ⟨q0, q1, q2, q3, q4, q5⟩⟩ := Tk.Box.six HB1_1.out
  clear p0 p1 p2 p3 p4 p5 q0 q1 q2 q3 q4 q5
  go_wp2_with fail
  refine (HPl.out _).mono ?_
  rintro e w' ⟨rfl, rfl⟩
  go_wp2_with fail
  refine (HW.out _).mono ?_
  rintro e w5 ⟨rfl, hb5⟩
  go_wp2_with fail
  go_ret
  exact ⟨rfl, Hb1.out.trans (hb5.mono Hb1.out.size)⟩
set_option maxRecDepth 100000 in
set_option maxHeartbeats 1000000 in
theorem ch_tp (s1 s2 : ByteArray) (g : Int) (w : World) (x : Rt) (hs1 : s1.size ≤ 1000) (hs2 : s2.size ≤ 1000) (wg : (Lit.int .i64 g).wf = true) (hg : 0 ≤ g ∨ g % 2 = 0)
    (h0 : ∀ w, Calls Tryd.prog 38 #[.string s1, .string s2] w fun e w' => e = .returned (.tuple #[.agg (rtV x), .bool true]) ∧ Below w.heap.size w w')
    (h1 : ∀ w, Calls Tryd.prog 39 #[.string s1, .string s2] w fun e w' => e = .returned (.tuple #[.agg (rtV x), .bool true]) ∧ Below w.heap.size w w') :
    Calls Tryd.prog 9 #[.string s1, .string s2, .int .i64 g] w fun e w' => e = .returned (.bool true) ∧ Below w.heap.size w w' := by
  have H0 := Lib.hid h0
  have H1 := Lib.hid h1
  have HW := Lib.hid Sl.awake_any
  have HPl := Lib.hid (fun w => place_any g w)
  rw [place_mod g wg] at HPl
  have hgb := bounds_i64 wg
  have htm : g.tmod 2 = g % 2 := by
    have := Int.tmod_eq_emod (a := g) (b := 2)
    rw [this]; split <;> simp_all <;> omega
  clear h0 h1 wg
  obtain ⟨q, hq⟩ : ∃ q, q = g % 2 := ⟨_, rfl⟩
  have hq0 : 0 ≤ q := by omega
  have hq2 : q ≤ 1 := by omega
  rw [← hq] at HPl htm
  have hqq : (q == q) = true := by simp
  have hqn : decide (q < 0) = false := by simp; omega
  clear hq hg
  obtain ⟨xg, xp, xm, xc, xn, xs⟩ := x
  simp only [rtV] at *
  go_enter Tryd.func9, Tryd.ntmps9
  go_wp2_with fail
  refine (H0.out _).mono ?_
  rintro e w0 ⟨rfl, hb0⟩
  have hq0 := Lib.hid (show Below w.heap.size w w0 from hb0)
  have HB0_0 := Lib.hid (Box.new w0 47 #[.int .i64 xg, .int .i64 xp, .int .i64 xm, .int .i64 xc, .int .i64 xn, .int .i64 xs])
  have Hb0 := Lib.hid (hq0.out.alloc hq0.out.size (.cells #[.int .i64 xg, .int .i64 xp, .int .i64 xm, .int .i64 xc, .int .i64 xn, .int .i64 xs] 47))
  clear hb0 hq0  
  go_wp2_with fail
  generalize w0.alloc (.cells #[.int .i64 xg, .int .i64 xp, .int .i64 xm, .int .i64 xc, .int .i64 xn, .int .i64 xs] 47) = v0 at *
  generalize w0.heap.size = g0 at *
  refine (H1.out _).mono ?_
  rintro e w1 ⟨rfl, hb1⟩
  have hq1 := Lib.hid (show Below w.heap.size w w1 from Hb0.out.trans (hb1.mono Hb0.out.size))
  have HB0_1 := Lib.hid ((HB0_0.out.under hb1).alloc (.cells #[.int .i64 xg, .int .i64 xp, .int .i64 xm, .int .i64 xc, .int .i64 xn, .int .i64 xs] 47))
  have hl0 : g0 < w1.heap.size := (HB0_0.out.under hb1).lt
  have HB1_1 := Lib.hid (Box.new w1 47 #[.int .i64 xg, .int .i64 xp, .int .i64 xm, .int .i64 xc, .int .i64 xn, .int .i64 xs])
  have Hb1 := Lib.hid (hq1.out.alloc hq1.out.size (.cells #[.int .i64 xg, .int .i64 xp, .int .i64 xm, .int .i64 xc, .int .i64 xn, .int .i64 xs] 47))
  clear hb1 hq1 HB0_0 Hb0
  go_upto_region 5 with fail
  generalize w1.alloc (.cells #[.int .i64 xg, .int .i64 xp, .int .i64 xm, .int .i64 xc, .int .i64 xn, .int .i64 xs] 47) = v1 at *
  generalize w1.heap.size = g1 at *
  clear hl0
  obtain ⟨⟨a0, a1, a2, a3, a4, a5⟩, ⟨p0, p1, p2, p3, p4, p5⟩⟩ := Tk.Box.six HB0_1.out
  obtain ⟨⟨b0, b1, b2, b3, b4, b5⟩, ⟨q0, q1, q2, q3, q4, q5⟩⟩ := Tk.Box.six HB1_1.out
  clear p0 p1 p2 p3 p4 p5 q0 q1 q2 q3 q4 q5
  go_wp2_with fail
  refine (HPl.out _).mono ?_
  rintro e w' ⟨rfl, rfl⟩
  go_wp2_with fail
  refine (HW.out _).mono ?_
  rintro e w5 ⟨rfl, hb5⟩
  go_wp2_with fail
  go_ret
  exact ⟨rfl, Hb1.out.trans (hb5.mono Hb1.out.size)⟩
set_option maxRecDepth 100000 in
set_option maxHeartbeats 1000000 in
theorem ch_fn (s1 s2 : ByteArray) (g : Int) (w : World) (x : Rt) (hs1 : s1.size ≤ 1000) (hs2 : s2.size ≤ 1000) (wg : (Lit.int .i64 g).wf = true) (hg : g < 0 ∧ g % 2 = 1)
    (h0 : ∀ w, Calls Tryd.prog 38 #[.string s1, .string s2] w fun e w' => e = .returned (.tuple #[.agg (rtV x), .bool false]) ∧ Below w.heap.size w w')
    (h1 : ∀ w, Calls Tryd.prog 39 #[.string s1, .string s2] w fun e w' => e = .returned (.tuple #[.agg (rtV x), .bool false]) ∧ Below w.heap.size w w') :
    Calls Tryd.prog 9 #[.string s1, .string s2, .int .i64 g] w fun e w' => e = .returned (.bool true) ∧ Below w.heap.size w w' := by
  have H0 := Lib.hid h0
  have H1 := Lib.hid h1
  have HW := Lib.hid Sl.awake_any
  have HPl := Lib.hid (fun w => place_any g w)
  rw [place_mod g wg] at HPl
  have hgb := bounds_i64 wg
  have htm : g.tmod 2 = -1 := by
    have := Int.tmod_eq_emod (a := g) (b := 2)
    rw [this, if_neg (by omega)]; simp; omega
  clear h0 h1 wg
  have he : g % 2 = 1 := hg.2
  rw [he] at HPl
  clear he hg
  obtain ⟨xg, xp, xm, xc, xn, xs⟩ := x
  simp only [rtV] at *
  go_enter Tryd.func9, Tryd.ntmps9
  go_wp2_with fail
  refine (H0.out _).mono ?_
  rintro e w0 ⟨rfl, hb0⟩
  have hq0 := Lib.hid (show Below w.heap.size w w0 from hb0)
  have HB0_0 := Lib.hid (Box.new w0 47 #[.int .i64 xg, .int .i64 xp, .int .i64 xm, .int .i64 xc, .int .i64 xn, .int .i64 xs])
  have Hb0 := Lib.hid (hq0.out.alloc hq0.out.size (.cells #[.int .i64 xg, .int .i64 xp, .int .i64 xm, .int .i64 xc, .int .i64 xn, .int .i64 xs] 47))
  clear hb0 hq0  
  go_wp2_with fail
  generalize w0.alloc (.cells #[.int .i64 xg, .int .i64 xp, .int .i64 xm, .int .i64 xc, .int .i64 xn, .int .i64 xs] 47) = v0 at *
  generalize w0.heap.size = g0 at *
  refine (H1.out _).mono ?_
  rintro e w1 ⟨rfl, hb1⟩
  have hq1 := Lib.hid (show Below w.heap.size w w1 from Hb0.out.trans (hb1.mono Hb0.out.size))
  have HB0_1 := Lib.hid ((HB0_0.out.under hb1).alloc (.cells #[.int .i64 xg, .int .i64 xp, .int .i64 xm, .int .i64 xc, .int .i64 xn, .int .i64 xs] 47))
  have hl0 : g0 < w1.heap.size := (HB0_0.out.under hb1).lt
  have HB1_1 := Lib.hid (Box.new w1 47 #[.int .i64 xg, .int .i64 xp, .int .i64 xm, .int .i64 xc, .int .i64 xn, .int .i64 xs])
  have Hb1 := Lib.hid (hq1.out.alloc hq1.out.size (.cells #[.int .i64 xg, .int .i64 xp, .int .i64 xm, .int .i64 xc, .int .i64 xn, .int .i64 xs] 47))
  clear hb1 hq1 HB0_0 Hb0
  go_upto_region 5 with fail
  generalize w1.alloc (.cells #[.int .i64 xg, .int .i64 xp, .int .i64 xm, .int .i64 xc, .int .i64 xn, .int .i64 xs] 47) = v1 at *
  generalize w1.heap.size = g1 at *
  clear hl0
  obtain ⟨⟨a0, a1, a2, a3, a4, a5⟩, ⟨p0, p1, p2, p3, p4, p5⟩⟩ := Tk.Box.six HB0_1.out
  obtain ⟨⟨b0, b1, b2, b3, b4, b5⟩, ⟨q0, q1, q2, q3, q4, q5⟩⟩ := Tk.Box.six HB1_1.out
  clear p0 p1 p2 p3 p4 p5 q0 q1 q2 q3 q4 q5
  go_wp2_with fail
  refine (HPl.out _).mono ?_
  rintro e w' ⟨rfl, rfl⟩
  go_wp2_with fail
  refine (HW.out _).mono ?_
  rintro e w5 ⟨rfl, hb5⟩
  go_wp2_with fail
  go_ret
  exact ⟨rfl, Hb1.out.trans (hb5.mono Hb1.out.size)⟩
set_option maxRecDepth 100000 in
set_option maxHeartbeats 1000000 in
theorem ch_fp (s1 s2 : ByteArray) (g : Int) (w : World) (x : Rt) (hs1 : s1.size ≤ 1000) (hs2 : s2.size ≤ 1000) (wg : (Lit.int .i64 g).wf = true) (hg : 0 ≤ g ∨ g % 2 = 0)
    (h0 : ∀ w, Calls Tryd.prog 38 #[.string s1, .string s2] w fun e w' => e = .returned (.tuple #[.agg (rtV x), .bool false]) ∧ Below w.heap.size w w')
    (h1 : ∀ w, Calls Tryd.prog 39 #[.string s1, .string s2] w fun e w' => e = .returned (.tuple #[.agg (rtV x), .bool false]) ∧ Below w.heap.size w w') :
    Calls Tryd.prog 9 #[.string s1, .string s2, .int .i64 g] w fun e w' => e = .returned (.bool true) ∧ Below w.heap.size w w' := by
  have H0 := Lib.hid h0
  have H1 := Lib.hid h1
  have HW := Lib.hid Sl.awake_any
  have HPl := Lib.hid (fun w => place_any g w)
  rw [place_mod g wg] at HPl
  have hgb := bounds_i64 wg
  have htm : g.tmod 2 = g % 2 := by
    have := Int.tmod_eq_emod (a := g) (b := 2)
    rw [this]; split <;> simp_all <;> omega
  clear h0 h1 wg
  obtain ⟨q, hq⟩ : ∃ q, q = g % 2 := ⟨_, rfl⟩
  have hq0 : 0 ≤ q := by omega
  have hq2 : q ≤ 1 := by omega
  rw [← hq] at HPl htm
  have hqq : (q == q) = true := by simp
  have hqn : decide (q < 0) = false := by simp; omega
  clear hq hg
  obtain ⟨xg, xp, xm, xc, xn, xs⟩ := x
  simp only [rtV] at *
  go_enter Tryd.func9, Tryd.ntmps9
  go_wp2_with fail
  refine (H0.out _).mono ?_
  rintro e w0 ⟨rfl, hb0⟩
  have hq0 := Lib.hid (show Below w.heap.size w w0 from hb0)
  have HB0_0 := Lib.hid (Box.new w0 47 #[.int .i64 xg, .int .i64 xp, .int .i64 xm, .int .i64 xc, .int .i64 xn, .int .i64 xs])
  have Hb0 := Lib.hid (hq0.out.alloc hq0.out.size (.cells #[.int .i64 xg, .int .i64 xp, .int .i64 xm, .int .i64 xc, .int .i64 xn, .int .i64 xs] 47))
  clear hb0 hq0  
  go_wp2_with fail
  generalize w0.alloc (.cells #[.int .i64 xg, .int .i64 xp, .int .i64 xm, .int .i64 xc, .int .i64 xn, .int .i64 xs] 47) = v0 at *
  generalize w0.heap.size = g0 at *
  refine (H1.out _).mono ?_
  rintro e w1 ⟨rfl, hb1⟩
  have hq1 := Lib.hid (show Below w.heap.size w w1 from Hb0.out.trans (hb1.mono Hb0.out.size))
  have HB0_1 := Lib.hid ((HB0_0.out.under hb1).alloc (.cells #[.int .i64 xg, .int .i64 xp, .int .i64 xm, .int .i64 xc, .int .i64 xn, .int .i64 xs] 47))
  have hl0 : g0 < w1.heap.size := (HB0_0.out.under hb1).lt
  have HB1_1 := Lib.hid (Box.new w1 47 #[.int .i64 xg, .int .i64 xp, .int .i64 xm, .int .i64 xc, .int .i64 xn, .int .i64 xs])
  have Hb1 := Lib.hid (hq1.out.alloc hq1.out.size (.cells #[.int .i64 xg, .int .i64 xp, .int .i64 xm, .int .i64 xc, .int .i64 xn, .int .i64 xs] 47))
  clear hb1 hq1 HB0_0 Hb0
  go_upto_region 5 with fail
  generalize w1.alloc (.cells #[.int .i64 xg, .int .i64 xp, .int .i64 xm, .int .i64 xc, .int .i64 xn, .int .i64 xs] 47) = v1 at *
  generalize w1.heap.size = g1 at *
  clear hl0
  obtain ⟨⟨a0, a1, a2, a3, a4, a5⟩, ⟨p0, p1, p2, p3, p4, p5⟩⟩ := Tk.Box.six HB0_1.out
  obtain ⟨⟨b0, b1, b2, b3, b4, b5⟩, ⟨q0, q1, q2, q3, q4, q5⟩⟩ := Tk.Box.six HB1_1.out
  clear p0 p1 p2 p3 p4 p5 q0 q1 q2 q3 q4 q5
  go_wp2_with fail
  refine (HPl.out _).mono ?_
  rintro e w' ⟨rfl, rfl⟩
  go_wp2_with fail
  refine (HW.out _).mono ?_
  rintro e w5 ⟨rfl, hb5⟩
  go_wp2_with fail
  go_ret
  exact ⟨rfl, Hb1.out.trans (hb5.mono Hb1.out.size)⟩

theorem walk (s1 s2 : ByteArray) (g : Int) (w : World) (hm1 : s1.size ≤ maxLen) (hm2 : s2.size ≤ maxLen) (wg : (Lit.int .i64 g).wf = true) :
    Calls Tryd.prog 9 #[.string s1, .string s2, .int .i64 g] w fun e w' => e = .returned (.bool true) ∧ Below w.heap.size w w' := by
  by_cases hs1 : 1000 < s1.size
  · exact long1 s1 s2 g w hm1 hm2 hs1
  by_cases hs2 : 1000 < s2.size
  · exact long2 s1 s2 g w hm1 hm2 (by omega) hs2
  rcases hc : Sl.choose s1.data.toList s2.data.toList with _ | r
  · have h0 : ∀ w, Calls Tryd.prog 38 #[.string s1, .string s2] w fun e w' => e = .returned (.tuple #[.agg (rtV zeroR), .bool false]) ∧ Below w.heap.size w w' := fun w => (choose_any s1 s2 w hm1 hm2).mono (by
      rintro e w' ⟨hb, ⟨r, h, _⟩ | ⟨_, rfl⟩⟩
      · rw [hc] at h; cases h
      · exact ⟨rfl, hb⟩)
    have h1 : ∀ w, Calls Tryd.prog 39 #[.string s1, .string s2] w fun e w' => e = .returned (.tuple #[.agg (rtV zeroR), .bool false]) ∧ Below w.heap.size w w' := fun w => (rchoose_any s1 s2 w hm1 hm2).mono (by
      rintro e w' ⟨hb, ⟨r, h, _⟩ | ⟨_, rfl⟩⟩
      · rw [hc] at h; cases h
      · exact ⟨rfl, hb⟩)
    by_cases hg : g < 0 ∧ g % 2 = 1
    · exact ch_fn s1 s2 g w _ (by omega) (by omega) wg hg h0 h1
    · exact ch_fp s1 s2 g w _ (by omega) (by omega) wg (by omega) h0 h1
  · have h0 : ∀ w, Calls Tryd.prog 38 #[.string s1, .string s2] w fun e w' => e = .returned (.tuple #[.agg (rtV r), .bool true]) ∧ Below w.heap.size w w' := fun w => (choose_any s1 s2 w hm1 hm2).mono (by
      rintro e w' ⟨hb, ⟨r', h, rfl⟩ | ⟨h, _⟩⟩
      · rw [hc] at h
        injection h with h
        subst h
        exact ⟨rfl, hb⟩
      · rw [hc] at h; cases h)
    have h1 : ∀ w, Calls Tryd.prog 39 #[.string s1, .string s2] w fun e w' => e = .returned (.tuple #[.agg (rtV r), .bool true]) ∧ Below w.heap.size w w' := fun w => (rchoose_any s1 s2 w hm1 hm2).mono (by
      rintro e w' ⟨hb, ⟨r', h, rfl⟩ | ⟨h, _⟩⟩
      · rw [hc] at h
        injection h with h
        subst h
        exact ⟨rfl, hb⟩
      · rw [hc] at h; cases h)
    by_cases hg : g < 0 ∧ g % 2 = 1
    · exact ch_tn s1 s2 g w _ (by omega) (by omega) wg hg h0 h1
    · exact ch_tp s1 s2 g w _ (by omega) (by omega) wg (by omega) h0 h1

end Go.Proofs.YtpgmbpjjefecdaaDoor.slotChooses
