/- The walk of SlotTakes: it returns true and writes nothing that was there (gensl32.py prints it). -/
import Derived.Test.YtpgmbpjjefecdaaDoorSl9
import Derived.Test.YtpgmbpjjefecdaaDoorSl29
import Derived.Deep.Cut
namespace Go.Proofs.YtpgmbpjjefecdaaDoor.slotTakes
open Go.RowKit Base Crc Plain Txt Pg Sl
set_option linter.unusedVariables false
set_option linter.unusedSimpArgs false

set_option maxRecDepth 100000 in
set_option maxHeartbeats 1000000 in
theorem takes_long (s : ByteArray) (i : Int) (w : World) (hm : s.size ≤ maxLen) (hs : 1000 < s.size) :
    Calls Tryd.prog 8 #[.string s, .int .i64 i] w fun e w' => e = .returned (.bool true) ∧ Below w.heap.size w w' := by
  unfold maxLen at hm
  have HW := Lib.hid Sl.awake_any
  go_enter Tryd.func8, Tryd.ntmps8
  go_wp2_with fail
  refine (HW.out _).mono ?_
  rintro e w5 ⟨rfl, hb5⟩
  go_wp2_with fail
  go_ret
  exact ⟨rfl, hb5⟩
set_option maxRecDepth 100000 in
set_option maxHeartbeats 1000000 in
theorem takes_yy (s : ByteArray) (i : Int) (w : World) (x z : Rt) (hs : s.size ≤ 1000)
    (h0 : ∀ w, Calls Tryd.prog 33 #[.string s] w fun e w' => e = .returned (.tuple #[.agg (rtV x), .int .i64 0]) ∧ Below w.heap.size w w')
    (h1 : ∀ w, Calls Tryd.prog 35 #[.string s] w fun e w' => e = .returned (.tuple #[.agg (rtV x), .bool true]) ∧ Below w.heap.size w w')
    (h2 : ∀ w, Calls Tryd.prog 36 #[.int .i64 i, .string s] w fun e w' => e = .returned (.tuple #[.agg (rtV z), .bool true]) ∧ Below w.heap.size w w')
    (h3 : ∀ w, Calls Tryd.prog 37 #[.int .i64 i, .string s] w fun e w' => e = .returned (.tuple #[.agg (rtV z), .bool true]) ∧ Below w.heap.size w w') :
    Calls Tryd.prog 8 #[.string s, .int .i64 i] w fun e w' => e = .returned (.bool true) ∧ Below w.heap.size w w' := by
  have H0 := Lib.hid h0
  have H1 := Lib.hid h1
  have H2 := Lib.hid h2
  have H3 := Lib.hid h3
  have HW := Lib.hid Sl.awake_any
  clear h0 h1 h2 h3
  obtain ⟨xg, xp, xm, xc, xn, xs⟩ := x
  obtain ⟨zg, zp, zm, zc, zn, zs⟩ := z
  simp only [rtV] at *
  go_enter Tryd.func8, Tryd.ntmps8
  go_wp2_with fail
  refine (H0.out _).mono ?_
  rintro e w0 ⟨rfl, hb0⟩
  have hq0 := Lib.hid (show Below w.heap.size w w0 from hb0)
  have HB0_0 := Lib.hid (Box.new w0 47 #[.int .i64 xg, .int .i64 xp, .int .i64 xm, .int .i64 xc, .int .i64 xn, .int .i64 xs])
  have Hb0 := Lib.hid (hq0.out.alloc hq0.out.size (.cells #[.int .i64 xg, .int .i64 xp, .int .i64 xm, .int .i64 xc, .int .i64 xn, .int .i64 xs] 47))
  clear hb0 hq0  
  go_wp2_with fail
  generalize w0.alloc (.cells #[.int .i64 xg, .int .i64 xp, .int .i64 xm, .int .i64 xc, .int .i64 xn, .int .i64 xs] 47) = v0 at *
  generalize w0.heap.size = g0 at *
  refine (H1.out _).mono ?_
  rintro e w1 ⟨rfl, hb1⟩
  have hq1 := Lib.hid (show Below w.heap.size w w1 from Hb0.out.trans (hb1.mono Hb0.out.size))
  have HB0_1 := Lib.hid ((HB0_0.out.under hb1).alloc (.cells #[.int .i64 xg, .int .i64 xp, .int .i64 xm, .int .i64 xc, .int .i64 xn, .int .i64 xs] 47))
  have hl0 : g0 < w1.heap.size := (HB0_0.out.under hb1).lt
  have HB1_1 := Lib.hid (Box.new w1 47 #[.int .i64 xg, .int .i64 xp, .int .i64 xm, .int .i64 xc, .int .i64 xn, .int .i64 xs])
  have Hb1 := Lib.hid (hq1.out.alloc hq1.out.size (.cells #[.int .i64 xg, .int .i64 xp, .int .i64 xm, .int .i64 xc, .int .i64 xn, .int .i64 xs] 47))
  clear hb1 hq1 HB0_0 Hb0
  go_wp2_with fail
  generalize w1.alloc (.cells #[.int .i64 xg, .int .i64 xp, .int .i64 xm, .int .i64 xc, .int .i64 xn, .int .i64 xs] 47) = v1 at *
  generalize w1.heap.size = g1 at *
  clear hl0
  refine (H2.out _).mono ?_
  rintro e w2 ⟨rfl, hb2⟩
  have hq2 := Lib.hid (show Below w.heap.size w w2 from Hb1.out.trans (hb2.mono Hb1.out.size))
  have HB0_2 := Lib.hid ((HB0_1.out.under hb2).alloc (.cells #[.int .i64 zg, .int .i64 zp, .int .i64 zm, .int .i64 zc, .int .i64 zn, .int .i64 zs] 47))
  have hl0 : g0 < w2.heap.size := (HB0_1.out.under hb2).lt
  have HB1_2 := Lib.hid ((HB1_1.out.under hb2).alloc (.cells #[.int .i64 zg, .int .i64 zp, .int .i64 zm, .int .i64 zc, .int .i64 zn, .int .i64 zs] 47))
  have hl1 : g1 < w2.heap.size := (HB1_1.out.under hb2).lt
  have HB2_2 := Lib.hid (Box.new w2 47 #[.int .i64 zg, .int .i64 zp, .int .i64 zm, .int .i64 zc, .int .i64 zn, .int .i64 zs])
  have Hb2 := Lib.hid (hq2.out.alloc hq2.out.size (.cells #[.int .i64 zg, .int .i64 zp, .int .i64 zm, .int .i64 zc, .int .i64 zn, .int .i64 zs] 47))
  clear hb2 hq2 HB0_1 HB1_1 Hb1
  go_wp2_with fail
  generalize w2.alloc (.cells #[.int .i64 zg, .int .i64 zp, .int .i64 zm, .int .i64 zc, .int .i64 zn, .int .i64 zs] 47) = v2 at *
  generalize w2.heap.size = g2 at *
  clear hl0 hl1
  refine (H3.out _).mono ?_
  rintro e w3 ⟨rfl, hb3⟩
  have hq3 := Lib.hid (show Below w.heap.size w w3 from Hb2.out.trans (hb3.mono Hb2.out.size))
  have HB0_3 := Lib.hid ((HB0_2.out.under hb3).alloc (.cells #[.int .i64 zg, .int .i64 zp, .int .i64 zm, .int .i64 zc, .int .i64 zn, .int .i64 zs] 47))
  have hl0 : g0 < w3.heap.size := (HB0_2.out.under hb3).lt
  have HB1_3 := Lib.hid ((HB1_2.out.under hb3).alloc (.cells #[.int .i64 zg, .int .i64 zp, .int .i64 zm, .int .i64 zc, .int .i64 zn, .int .i64 zs] 47))
  have hl1 : g1 < w3.heap.size := (HB1_2.out.under hb3).lt
  have HB2_3 := Lib.hid ((HB2_2.out.under hb3).alloc (.cells #[.int .i64 zg, .int .i64 zp, .int .i64 zm, .int .i64 zc, .int .i64 zn, .int .i64 zs] 47))
  have hl2 : g2 < w3.heap.size := (HB2_2.out.under hb3).lt
  have HB3_3 := Lib.hid (Box.new w3 47 #[.int .i64 zg, .int .i64 zp, .int .i64 zm, .int .i64 zc, .int .i64 zn, .int .i64 zs])
  have Hb3 := Lib.hid (hq3.out.alloc hq3.out.size (.cells #[.int .i64 zg, .int .i64 zp, .int .i64 zm, .int .i64 zc, .int .i64 zn, .int .i64 zs] 47))
  clear hb3 hq3 HB0_2 HB1_2 HB2_2 Hb2
  go_upto_region 7 with fail
  generalize w3.alloc (.cells #[.int .i64 zg, .int .i64 zp, .int .i64 zm, .int .i64 zc, .int .i64 zn, .int .i64 zs] 47) = v3 at *
  generalize w3.heap.size = g3 at *
  clear hl0 hl1 hl2
  obtain ⟨⟨a0, a1, a2, a3, a4, a5⟩, ⟨p0, p1, p2, p3, p4, p5⟩⟩ := Tk.Box.six HB0_3.out
  obtain ⟨⟨b0, b1, b2, b3, b4, b5⟩, ⟨q0, q1, q2, q3, q4, q5⟩⟩ := Tk.Box.six HB1_3.out
  obtain ⟨⟨c0, c1, c2, c3, c4, c5⟩, ⟨r0, r1, r2, r3, r4, r5⟩⟩ := Tk.Box.six HB2_3.out
  obtain ⟨⟨d0, d1, d2, d3, d4, d5⟩, ⟨u0, u1, u2, u3, u4, u5⟩⟩ := Tk.Box.six HB3_3.out
  clear p0 p1 p2 p3 p4 p5 q0 q1 q2 q3 q4 q5 r0 r1 r2 r3 r4 r5 u0 u1 u2 u3 u4 u5
  go_wp2_with fail
  refine (HW.out _).mono ?_
  rintro e w5 ⟨rfl, hb5⟩
  go_wp2_with fail
  go_ret
  exact ⟨rfl, Hb3.out.trans (hb5.mono Hb3.out.size)⟩
set_option maxRecDepth 100000 in
set_option maxHeartbeats 1000000 in
theorem takes_yn (s : ByteArray) (i : Int) (w : World) (x z : Rt) (hs : s.size ≤ 1000)
    (h0 : ∀ w, Calls Tryd.prog 33 #[.string s] w fun e w' => e = .returned (.tuple #[.agg (rtV x), .int .i64 0]) ∧ Below w.heap.size w w')
    (h1 : ∀ w, Calls Tryd.prog 35 #[.string s] w fun e w' => e = .returned (.tuple #[.agg (rtV x), .bool true]) ∧ Below w.heap.size w w')
    (h2 : ∀ w, Calls Tryd.prog 36 #[.int .i64 i, .string s] w fun e w' => e = .returned (.tuple #[.agg (rtV z), .bool false]) ∧ Below w.heap.size w w')
    (h3 : ∀ w, Calls Tryd.prog 37 #[.int .i64 i, .string s] w fun e w' => e = .returned (.tuple #[.agg (rtV z), .bool false]) ∧ Below w.heap.size w w') :
    Calls Tryd.prog 8 #[.string s, .int .i64 i] w fun e w' => e = .returned (.bool true) ∧ Below w.heap.size w w' := by
  have H0 := Lib.hid h0
  have H1 := Lib.hid h1
  have H2 := Lib.hid h2
  have H3 := Lib.hid h3
  have HW := Lib.hid Sl.awake_any
  clear h0 h1 h2 h3
  obtain ⟨xg, xp, xm, xc, xn, xs⟩ := x
  obtain ⟨zg, zp, zm, zc, zn, zs⟩ := z
  simp only [rtV] at *
  go_enter Tryd.func8, Tryd.ntmps8
  go_wp2_with fail
  refine (H0.out _).mono ?_
  rintro e w0 ⟨rfl, hb0⟩
  have hq0 := Lib.hid (show Below w.heap.size w w0 from hb0)
  have HB0_0 := Lib.hid (Box.new w0 47 #[.int .i64 xg, .int .i64 xp, .int .i64 xm, .int .i64 xc, .int .i64 xn, .int .i64 xs])
  have Hb0 := Lib.hid (hq0.out.alloc hq0.out.size (.cells #[.int .i64 xg, .int .i64 xp, .int .i64 xm, .int .i64 xc, .int .i64 xn, .int .i64 xs] 47))
  clear hb0 hq0  
  go_wp2_with fail
  generalize w0.alloc (.cells #[.int .i64 xg, .int .i64 xp, .int .i64 xm, .int .i64 xc, .int .i64 xn, .int .i64 xs] 47) = v0 at *
  generalize w0.heap.size = g0 at *
  refine (H1.out _).mono ?_
  rintro e w1 ⟨rfl, hb1⟩
  have hq1 := Lib.hid (show Below w.heap.size w w1 from Hb0.out.trans (hb1.mono Hb0.out.size))
  have HB0_1 := Lib.hid ((HB0_0.out.under hb1).alloc (.cells #[.int .i64 xg, .int .i64 xp, .int .i64 xm, .int .i64 xc, .int .i64 xn, .int .i64 xs] 47))
  have hl0 : g0 < w1.heap.size := (HB0_0.out.under hb1).lt
  have HB1_1 := Lib.hid (Box.new w1 47 #[.int .i64 xg, .int .i64 xp, .int .i64 xm, .int .i64 xc, .int .i64 xn, .int .i64 xs])
  have Hb1 := Lib.hid (hq1.out.alloc hq1.out.size (.cells #[.int .i64 xg, .int .i64 xp, .int .i64 xm, .int .i64 xc, .int .i64 xn, .int .i64 xs] 47))
  clear hb1 hq1 HB0_0 Hb0
  go_wp2_with fail
  generalize w1.alloc (.cells #[.int .i64 xg, .int .i64 xp, .int .i64 xm, .int .i64 xc, .int .i64 xn, .int .i64 xs] 47) = v1 at *
  generalize w1.heap.size = g1 at *
  clear hl0
  refine (H2.out _).mono ?_
  rintro e w2 ⟨rfl, hb2⟩
  have hq2 := Lib.hid (show Below w.heap.size w w2 from Hb1.out.trans (hb2.mono Hb1.out.size))
  have HB0_2 := Lib.hid ((HB0_1.out.under hb2).alloc (.cells #[.int .i64 zg, .int .i64 zp, .int .i64 zm, .int .i64 zc, .int .i64 zn, .int .i64 zs] 47))
  have hl0 : g0 < w2.heap.size := (HB0_1.out.under hb2).lt
  have HB1_2 := Lib.hid ((HB1_1.out.under hb2).alloc (.cells #[.int .i64 zg, .int .i64 zp, .int .i64 zm, .int .i64 zc, .int .i64 zn, .int .i64 zs] 47))
  have hl1 : g1 < w2.heap.size := (HB1_1.out.under hb2).lt
  have HB2_2 := Lib.hid (Box.new w2 47 #[.int .i64 zg, .int .i64 zp, .int .i64 zm, .int .i64 zc, .int .i64 zn, .int .i64 zs])
  have Hb2 := Lib.hid (hq2.out.alloc hq2.out.size (.cells #[.int .i64 zg, .int .i64 zp, .int .i64 zm, .int .i64 zc, .int .i64 zn, .int .i64 zs] 47))
  clear hb2 hq2 HB0_1 HB1_1 Hb1
  go_wp2_with fail
  generalize w2.alloc (.cells #[.int .i64 zg, .int .i64 zp, .int .i64 zm, .int .i64 zc, .int .i64 zn, .int .i64 zs] 47) = v2 at *
  generalize w2.heap.size = g2 at *
  clear hl0 hl1
  refine (H3.out _).mono ?_
  rintro e w3 ⟨rfl, hb3⟩
  have hq3 := Lib.hid (show Below w.heap.size w w3 from Hb2.out.trans (hb3.mono Hb2.out.size))
  have HB0_3 := Lib.hid ((HB0_2.out.under hb3).alloc (.cells #[.int .i64 zg, .int .i64 zp, .int .i64 zm, .int .i64 zc, .int .i64 zn, .int .i64 zs] 47))
  have hl0 : g0 < w3.heap.size := (HB0_2.out.under hb3).lt
  have HB1_3 := Lib.hid ((HB1_2.out.under hb3).alloc (.cells #[.int .i64 zg, .int .i64 zp, .int .i64 zm, .int .i64 zc, .int .i64 zn, .int .i64 zs] 47))
  have hl1 : g1 < w3.heap.size := (HB1_2.out.under hb3).lt
  have HB2_3 := Lib.hid ((HB2_2.out.under hb3).alloc (.cells #[.int .i64 zg, .int .i64 zp, .int .i64 zm, .int .i64 zc, .int .i64 zn, .int .i64 zs] 47))
  have hl2 : g2 < w3.heap.size := (HB2_2.out.under hb3).lt
  have HB3_3 := Lib.hid (Box.new w3 47 #[.int .i64 zg, .int .i64 zp, .int .i64 zm, .int .i64 zc, .int .i64 zn, .int .i64 zs])
  have Hb3 := Lib.hid (hq3.out.alloc hq3.out.size (.cells #[.int .i64 zg, .int .i64 zp, .int .i64 zm, .int .i64 zc, .int .i64 zn, .int .i64 zs] 47))
  clear hb3 hq3 HB0_2 HB1_2 HB2_2 Hb2
  go_upto_region 7 with fail
  generalize w3.alloc (.cells #[.int .i64 zg, .int .i64 zp, .int .i64 zm, .int .i64 zc, .int .i64 zn, .int .i64 zs] 47) = v3 at *
  generalize w3.heap.size = g3 at *
  clear hl0 hl1 hl2
  obtain ⟨⟨a0, a1, a2, a3, a4, a5⟩, ⟨p0, p1, p2, p3, p4, p5⟩⟩ := Tk.Box.six HB0_3.out
  obtain ⟨⟨b0, b1, b2, b3, b4, b5⟩, ⟨q0, q1, q2, q3, q4, q5⟩⟩ := Tk.Box.six HB1_3.out
  obtain ⟨⟨c0, c1, c2, c3, c4, c5⟩, ⟨r0, r1, r2, r3, r4, r5⟩⟩ := Tk.Box.six HB2_3.out
  obtain ⟨⟨d0, d1, d2, d3, d4, d5⟩, ⟨u0, u1, u2, u3, u4, u5⟩⟩ := Tk.Box.six HB3_3.out
  clear p0 p1 p2 p3 p4 p5 q0 q1 q2 q3 q4 q5 r0 r1 r2 r3 r4 r5 u0 u1 u2 u3 u4 u5
  go_wp2_with fail
  refine (HW.out _).mono ?_
  rintro e w5 ⟨rfl, hb5⟩
  go_wp2_with fail
  go_ret
  exact ⟨rfl, Hb3.out.trans (hb5.mono Hb3.out.size)⟩
set_option maxRecDepth 100000 in
set_option maxHeartbeats 1000000 in
theorem takes_nn (s : ByteArray) (i : Int) (w : World) (x z : Rt) (hs : s.size ≤ 1000)
    (h0 : ∀ w, Calls Tryd.prog 33 #[.string s] w fun e w' => e = .returned (.tuple #[.agg (rtV x), .int .i64 3]) ∧ Below w.heap.size w w')
    (h1 : ∀ w, Calls Tryd.prog 35 #[.string s] w fun e w' => e = .returned (.tuple #[.agg (rtV x), .bool false]) ∧ Below w.heap.size w w')
    (h2 : ∀ w, Calls Tryd.prog 36 #[.int .i64 i, .string s] w fun e w' => e = .returned (.tuple #[.agg (rtV z), .bool false]) ∧ Below w.heap.size w w')
    (h3 : ∀ w, Calls Tryd.prog 37 #[.int .i64 i, .string s] w fun e w' => e = .returned (.tuple #[.agg (rtV z), .bool false]) ∧ Below w.heap.size w w') :
    Calls Tryd.prog 8 #[.string s, .int .i64 i] w fun e w' => e = .returned (.bool true) ∧ Below w.heap.size w w' := by
  have H0 := Lib.hid h0
  have H1 := Lib.hid h1
  have H2 := Lib.hid h2
  have H3 := Lib.hid h3
  have HW := Lib.hid Sl.awake_any
  clear h0 h1 h2 h3
  obtain ⟨xg, xp, xm, xc, xn, xs⟩ := x
  obtain ⟨zg, zp, zm, zc, zn, zs⟩ := z
  simp only [rtV] at *
  go_enter Tryd.func8, Tryd.ntmps8
  go_wp2_with fail
  refine (H0.out _).mono ?_
  rintro e w0 ⟨rfl, hb0⟩
  have hq0 := Lib.hid (show Below w.heap.size w w0 from hb0)
  have HB0_0 := Lib.hid (Box.new w0 47 #[.int .i64 xg, .int .i64 xp, .int .i64 xm, .int .i64 xc, .int .i64 xn, .int .i64 xs])
  have Hb0 := Lib.hid (hq0.out.alloc hq0.out.size (.cells #[.int .i64 xg, .int .i64 xp, .int .i64 xm, .int .i64 xc, .int .i64 xn, .int .i64 xs] 47))
  clear hb0 hq0  
  go_wp2_with fail
  generalize w0.alloc (.cells #[.int .i64 xg, .int .i64 xp, .int .i64 xm, .int .i64 xc, .int .i64 xn, .int .i64 xs] 47) = v0 at *
  generalize w0.heap.size = g0 at *
  refine (H1.out _).mono ?_
  rintro e w1 ⟨rfl, hb1⟩
  have hq1 := Lib.hid (show Below w.heap.size w w1 from Hb0.out.trans (hb1.mono Hb0.out.size))
  have HB0_1 := Lib.hid ((HB0_0.out.under hb1).alloc (.cells #[.int .i64 xg, .int .i64 xp, .int .i64 xm, .int .i64 xc, .int .i64 xn, .int .i64 xs] 47))
  have hl0 : g0 < w1.heap.size := (HB0_0.out.under hb1).lt
  have HB1_1 := Lib.hid (Box.new w1 47 #[.int .i64 xg, .int .i64 xp, .int .i64 xm, .int .i64 xc, .int .i64 xn, .int .i64 xs])
  have Hb1 := Lib.hid (hq1.out.alloc hq1.out.size (.cells #[.int .i64 xg, .int .i64 xp, .int .i64 xm, .int .i64 xc, .int .i64 xn, .int .i64 xs] 47))
  clear hb1 hq1 HB0_0 Hb0
  go_wp2_with fail
  generalize w1.alloc (.cells #[.int .i64 xg, .int .i64 xp, .int .i64 xm, .int .i64 xc, .int .i64 xn, .int .i64 xs] 47) = v1 at *
  generalize w1.heap.size = g1 at *
  clear hl0
  refine (H2.out _).mono ?_
  rintro e w2 ⟨rfl, hb2⟩
  have hq2 := Lib.hid (show Below w.heap.size w w2 from Hb1.out.trans (hb2.mono Hb1.out.size))
  have HB0_2 := Lib.hid ((HB0_1.out.under hb2).alloc (.cells #[.int .i64 zg, .int .i64 zp, .int .i64 zm, .int .i64 zc, .int .i64 zn, .int .i64 zs] 47))
  have hl0 : g0 < w2.heap.size := (HB0_1.out.under hb2).lt
  have HB1_2 := Lib.hid ((HB1_1.out.under hb2).alloc (.cells #[.int .i64 zg, .int .i64 zp, .int .i64 zm, .int .i64 zc, .int .i64 zn, .int .i64 zs] 47))
  have hl1 : g1 < w2.heap.size := (HB1_1.out.under hb2).lt
  have HB2_2 := Lib.hid (Box.new w2 47 #[.int .i64 zg, .int .i64 zp, .int .i64 zm, .int .i64 zc, .int .i64 zn, .int .i64 zs])
  have Hb2 := Lib.hid (hq2.out.alloc hq2.out.size (.cells #[.int .i64 zg, .int .i64 zp, .int .i64 zm, .int .i64 zc, .int .i64 zn, .int .i64 zs] 47))
  clear hb2 hq2 HB0_1 HB1_1 Hb1
  go_wp2_with fail
  generalize w2.alloc (.cells #[.int .i64 zg, .int .i64 zp, .int .i64 zm, .int .i64 zc, .int .i64 zn, .int .i64 zs] 47) = v2 at *
  generalize w2.heap.size = g2 at *
  clear hl0 hl1
  refine (H3.out _).mono ?_
  rintro e w3 ⟨rfl, hb3⟩
  have hq3 := Lib.hid (show Below w.heap.size w w3 from Hb2.out.trans (hb3.mono Hb2.out.size))
  have HB0_3 := Lib.hid ((HB0_2.out.under hb3).alloc (.cells #[.int .i64 zg, .int .i64 zp, .int .i64 zm, .int .i64 zc, .int .i64 zn, .int .i64 zs] 47))
  have hl0 : g0 < w3.heap.size := (HB0_2.out.under hb3).lt
  have HB1_3 := Lib.hid ((HB1_2.out.under hb3).alloc (.cells #[.int .i64 zg, .int .i64 zp, .int .i64 zm, .int .i64 zc, .int .i64 zn, .int .i64 zs] 47))
  have hl1 : g1 < w3.heap.size := (HB1_2.out.under hb3).lt
  have HB2_3 := Lib.hid ((HB2_2.out.under hb3).alloc (.cells #[.int .i64 zg, .int .i64 zp, .int .i64 zm, .int .i64 zc, .int .i64 zn, .int .i64 zs] 47))
  have hl2 : g2 < w3.heap.size := (HB2_2.out.under hb3).lt
  have HB3_3 := Lib.hid (Box.new w3 47 #[.int .i64 zg, .int .i64 zp, .int .i64 zm, .int .i64 zc, .int .i64 zn, .int .i64 zs])
  have Hb3 := Lib.hid (hq3.out.alloc hq3.out.size (.cells #[.int .i64 zg, .int .i64 zp, .int .i64 zm, .int .i64 zc, .int .i64 zn, .int .i64 zs] 47))
  clear hb3 hq3 HB0_2 HB1_2 HB2_2 Hb2
  go_upto_region 7 with fail
  generalize w3.alloc (.cells #[.int .i64 zg, .int .i64 zp, .int .i64 zm, .int .i64 zc, .int .i64 zn, .int .i64 zs] 47) = v3 at *
  generalize w3.heap.size = g3 at *
  clear hl0 hl1 hl2
  obtain ⟨⟨a0, a1, a2, a3, a4, a5⟩, ⟨p0, p1, p2, p3, p4, p5⟩⟩ := Tk.Box.six HB0_3.out
  obtain ⟨⟨b0, b1, b2, b3, b4, b5⟩, ⟨q0, q1, q2, q3, q4, q5⟩⟩ := Tk.Box.six HB1_3.out
  obtain ⟨⟨c0, c1, c2, c3, c4, c5⟩, ⟨r0, r1, r2, r3, r4, r5⟩⟩ := Tk.Box.six HB2_3.out
  obtain ⟨⟨d0, d1, d2, d3, d4, d5⟩, ⟨u0, u1, u2, u3, u4, u5⟩⟩ := Tk.Box.six HB3_3.out
  clear p0 p1 p2 p3 p4 p5 q0 q1 q2 q3 q4 q5 r0 r1 r2 r3 r4 r5 u0 u1 u2 u3 u4 u5
  go_wp2_with fail
  refine (HW.out _).mono ?_
  rintro e w5 ⟨rfl, hb5⟩
  go_wp2_with fail
  go_ret
  exact ⟨rfl, Hb3.out.trans (hb5.mono Hb3.out.size)⟩

theorem stands_none {i : Int} {l : List UInt8} (h : stake l = none) : stands i l = none := by unfold stands; rw [h]
theorem walk (s : ByteArray) (i : Int) (w : World) (hm : s.size ≤ maxLen) (wi : (Lit.int .i64 i).wf = true) :
    Calls Tryd.prog 8 #[.string s, .int .i64 i] w fun e w' => e = .returned (.bool true) ∧ Below w.heap.size w w' := by
  by_cases hs : 1000 < s.size
  · exact takes_long s i w hm hs
  · have hsS : ∀ o, stands i s.data.toList = o → ∃ z b, (b = o.isSome ∧ z = o.getD zeroR) ∧ (∀ w, Calls Tryd.prog 36 #[.int .i64 i, .string s] w fun e w' => e = .returned (.tuple #[.agg (rtV z), .bool b]) ∧ Below w.heap.size w w') ∧ (∀ w, Calls Tryd.prog 37 #[.int .i64 i, .string s] w fun e w' => e = .returned (.tuple #[.agg (rtV z), .bool b]) ∧ Below w.heap.size w w') := by
      intro o ho
      refine ⟨o.getD zeroR, o.isSome, ⟨rfl, rfl⟩, fun w => (stands_any i s w hm).mono ?_, fun w => (rstands_any i s w hm).mono ?_⟩
      all_goals
        rintro e w' ⟨hb, ⟨r, h, rfl⟩ | ⟨h, rfl⟩⟩
        · rw [ho] at h
          subst h
          exact ⟨rfl, hb⟩
        · rw [ho] at h
          subst h
          exact ⟨rfl, hb⟩
    rcases hst : stake s.data.toList with _ | r
    · obtain ⟨z, b, ⟨rfl, rfl⟩, k2, k3⟩ := hsS none (stands_none hst)
      refine takes_nn s i w zeroR _ (by omega) (fun w => (take_no s w hm hst).mono fun e w' h => h) (fun w => (rtake9_any s w hm).mono ?_) k2 k3
      rintro e w' ⟨hb, ⟨r, h, _⟩ | ⟨_, rfl⟩⟩
      · rw [hst] at h; cases h
      · exact ⟨rfl, hb⟩
    · have hT : ∀ w, Calls Tryd.prog 35 #[.string s] w fun e w' => e = .returned (.tuple #[.agg (rtV r), .bool true]) ∧ Below w.heap.size w w' := fun w => (rtake9_any s w hm).mono (by
        rintro e w' ⟨hb, ⟨r', h, rfl⟩ | ⟨h, _⟩⟩
        · rw [hst] at h
          injection h with h
          subst h
          exact ⟨rfl, hb⟩
        · rw [hst] at h; cases h)
      rcases ho : stands i s.data.toList with _ | z
      · obtain ⟨z, b, ⟨rfl, rfl⟩, k2, k3⟩ := hsS none ho
        exact takes_yn s i w r _ (by omega) (fun w => take_yes s r w hst) hT k2 k3
      · obtain ⟨z, b, ⟨rfl, rfl⟩, k2, k3⟩ := hsS _ ho
        exact takes_yy s i w r _ (by omega) (fun w => take_yes s r w hst) hT k2 k3

end Go.Proofs.YtpgmbpjjefecdaaDoor.slotTakes
