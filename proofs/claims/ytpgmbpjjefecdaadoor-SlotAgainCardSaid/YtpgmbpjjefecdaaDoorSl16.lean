/- The walk of SlotAgain, part 16 (gensl15.py prints it). -/
import Derived.Test.YtpgmbpjjefecdaaDoorSl11
namespace Go.Proofs.YtpgmbpjjefecdaaDoor.Sl
open Go.RowKit Base Crc Txt Plain Pg
set_option linter.unusedVariables false
set_option linter.unusedSimpArgs false

set_option maxRecDepth 100000 in
set_option maxHeartbeats 600000 in
theorem again6 (a b c : Rt) (k m : Int) (w : World) (s1 s2 s3 : ByteArray) (e2 e3 : Int) (ha : PutsTo a s1 0) (hb : PutsTo b s2 0) (hc : PutsTo c s3 0) (hg : a.g < c.g) (hgb : b.g = c.g) (hk : k < 0) :
    Calls Tryd.prog 11 #[.agg (rtV a), .agg (rtV b), .agg (rtV c), .int .i64 k, .int .i64 m] w fun e w' => e = .returned (.bool true) ∧ Below w.heap.size w w' := by
  have HA := Lib.hid ha
  have HB := Lib.hid hb
  have HC := Lib.hid hc
  clear ha hb hc
  have HW := Lib.hid awake_any
  obtain ⟨ag, ap, am, ac, an, at1⟩ := a
  obtain ⟨bg, bp, bm, bc, bn, bt1⟩ := b
  obtain ⟨cg, cp, cm, cc, cn, ct1⟩ := c
  simp only [rtV] at *
  have hne : (bg != cg) = false := by simpa using hgb
  clear hgb
  go_enter Tryd.func11, Tryd.ntmps11
  go_wp2_with fail
  refine (HA.out _).mono ?_
  rintro e w1 ⟨rfl, hb1⟩
  have sz1 : (w.alloc (.cells #[.int .i64 ag, .int .i64 ap, .int .i64 am, .int .i64 ac, .int .i64 an, .int .i64 at1] 47)).heap.size = w.heap.size + 1 := by simp
  have sz2 : ((w.alloc (.cells #[.int .i64 ag, .int .i64 ap, .int .i64 am, .int .i64 ac, .int .i64 an, .int .i64 at1] 47)).alloc (.cells #[.int .i64 bg, .int .i64 bp, .int .i64 bm, .int .i64 bc, .int .i64 bn, .int .i64 bt1] 47)).heap.size = w.heap.size + 2 := by simp
  have hA1 := Lib.hid ((((Box.new w 47 #[.int .i64 ag, .int .i64 ap, .int .i64 am, .int .i64 ac, .int .i64 an, .int .i64 at1]).alloc (.cells #[.int .i64 bg, .int .i64 bp, .int .i64 bm, .int .i64 bc, .int .i64 bn, .int .i64 bt1] 47)).alloc (.cells #[.int .i64 cg, .int .i64 cp, .int .i64 cm, .int .i64 cc, .int .i64 cn, .int .i64 ct1] 47)).under hb1)
  have hB1 := Lib.hid (show Box w1 (w.heap.size + 1) 47 #[.int .i64 bg, .int .i64 bp, .int .i64 bm, .int .i64 bc, .int .i64 bn, .int .i64 bt1] from sz1 ▸ ((Box.new (w.alloc (.cells #[.int .i64 ag, .int .i64 ap, .int .i64 am, .int .i64 ac, .int .i64 an, .int .i64 at1] 47)) 47 #[.int .i64 bg, .int .i64 bp, .int .i64 bm, .int .i64 bc, .int .i64 bn, .int .i64 bt1]).alloc (.cells #[.int .i64 cg, .int .i64 cp, .int .i64 cm, .int .i64 cc, .int .i64 cn, .int .i64 ct1] 47)).under hb1)
  have hC1 := Lib.hid (show Box w1 (w.heap.size + 2) 47 #[.int .i64 cg, .int .i64 cp, .int .i64 cm, .int .i64 cc, .int .i64 cn, .int .i64 ct1] from sz2 ▸ (Box.new ((w.alloc (.cells #[.int .i64 ag, .int .i64 ap, .int .i64 am, .int .i64 ac, .int .i64 an, .int .i64 at1] 47)).alloc (.cells #[.int .i64 bg, .int .i64 bp, .int .i64 bm, .int .i64 bc, .int .i64 bn, .int .i64 bt1] 47)) 47 #[.int .i64 cg, .int .i64 cp, .int .i64 cm, .int .i64 cc, .int .i64 cn, .int .i64 ct1]).under hb1)
  have Hb01 := Lib.hid (show Below w.heap.size w w1 from ((((Below.refl _ _).alloc (Nat.le_refl _) _).alloc (by simp) _).alloc (by simp; omega) _).trans (hb1.mono (by simp; omega)))
  have hl1 : w.heap.size + 2 < w1.heap.size := hC1.out.lt
  clear hb1 sz1 sz2
  obtain ⟨⟨m0, m1, m2, m3, m4, m5⟩, ⟨n0, n1, n2, n3, n4, n5⟩⟩ := Tk.Box.six hB1.out
  go_wp2_with fail
  refine (HB.out _).mono ?_
  rintro e w2 ⟨rfl, hb2⟩
  have hA2 := Lib.hid (hA1.out.under hb2)
  have hB2 := Lib.hid (hB1.out.under hb2)
  have hC2 := Lib.hid (hC1.out.under hb2)
  have Hb02 := Lib.hid (Hb01.out.trans (hb2.mono Hb01.out.size))
  have hl2 : w.heap.size + 2 < w2.heap.size := hC2.out.lt
  clear hb2 hA1 hB1 hC1 Hb01 hl1
  clear m0 m1 m2 m3 m4 m5 n0 n1 n2 n3 n4 n5
  obtain ⟨⟨o0, o1, o2, o3, o4, o5⟩, ⟨r0, r1, r2, r3, r4, r5⟩⟩ := Tk.Box.six hC2.out
  go_wp2_with fail
  refine (HC.out _).mono ?_
  rintro e w3 ⟨rfl, hb3⟩
  have hA3 := Lib.hid (hA2.out.under hb3)
  have hB3 := Lib.hid (hB2.out.under hb3)
  have hC3 := Lib.hid (hC2.out.under hb3)
  have Hb03 := Lib.hid (Hb02.out.trans (hb3.mono Hb02.out.size))
  have hl3 : w.heap.size + 2 < w3.heap.size := hC3.out.lt
  clear hb3 hA2 hB2 hC2 Hb02 hl2
  clear o0 o1 o2 o3 o4 o5 r0 r1 r2 r3 r4 r5
  obtain ⟨⟨k0, k1, k2, k3, k4, k5⟩, ⟨e0, e1, e2, e3, e4, e5⟩⟩ := Tk.Box.six hA3.out
  obtain ⟨⟨m0, m1, m2, m3, m4, m5⟩, ⟨n0, n1, n2, n3, n4, n5⟩⟩ := Tk.Box.six hB3.out
  obtain ⟨⟨o0, o1, o2, o3, o4, o5⟩, ⟨r0, r1, r2, r3, r4, r5⟩⟩ := Tk.Box.six hC3.out
  go_wp2_with fail
  refine (HW.out _).mono ?_
  rintro e w4 ⟨rfl, hb4⟩
  go_wp2_with fail
  go_ret
  exact ⟨rfl, Hb03.out.trans (hb4.mono Hb03.out.size)⟩
set_option maxRecDepth 100000 in
set_option maxHeartbeats 600000 in
theorem again7 (a b c : Rt) (k m : Int) (w : World) (s1 s2 s3 : ByteArray) (e2 e3 : Int) (ha : PutsTo a s1 0) (hb : PutsTo b s2 0) (hc : PutsTo c s3 0) (hg : a.g < c.g) (hgb : b.g = c.g) (hk0 : 0 ≤ k) (hk : 128 < k) (h1 : s1.size = 128) (h2 : s2.size = 128) :
    Calls Tryd.prog 11 #[.agg (rtV a), .agg (rtV b), .agg (rtV c), .int .i64 k, .int .i64 m] w fun e w' => e = .returned (.bool true) ∧ Below w.heap.size w w' := by
  have HA := Lib.hid ha
  have HB := Lib.hid hb
  have HC := Lib.hid hc
  clear ha hb hc
  have HW := Lib.hid awake_any
  obtain ⟨ag, ap, am, ac, an, at1⟩ := a
  obtain ⟨bg, bp, bm, bc, bn, bt1⟩ := b
  obtain ⟨cg, cp, cm, cc, cn, ct1⟩ := c
  simp only [rtV] at *
  have hne : (bg != cg) = false := by simpa using hgb
  clear hgb
  have hmn : min (128 : Int) 128 = 128 := rfl
  go_enter Tryd.func11, Tryd.ntmps11
  go_wp2_with fail
  refine (HA.out _).mono ?_
  rintro e w1 ⟨rfl, hb1⟩
  have sz1 : (w.alloc (.cells #[.int .i64 ag, .int .i64 ap, .int .i64 am, .int .i64 ac, .int .i64 an, .int .i64 at1] 47)).heap.size = w.heap.size + 1 := by simp
  have sz2 : ((w.alloc (.cells #[.int .i64 ag, .int .i64 ap, .int .i64 am, .int .i64 ac, .int .i64 an, .int .i64 at1] 47)).alloc (.cells #[.int .i64 bg, .int .i64 bp, .int .i64 bm, .int .i64 bc, .int .i64 bn, .int .i64 bt1] 47)).heap.size = w.heap.size + 2 := by simp
  have hA1 := Lib.hid ((((Box.new w 47 #[.int .i64 ag, .int .i64 ap, .int .i64 am, .int .i64 ac, .int .i64 an, .int .i64 at1]).alloc (.cells #[.int .i64 bg, .int .i64 bp, .int .i64 bm, .int .i64 bc, .int .i64 bn, .int .i64 bt1] 47)).alloc (.cells #[.int .i64 cg, .int .i64 cp, .int .i64 cm, .int .i64 cc, .int .i64 cn, .int .i64 ct1] 47)).under hb1)
  have hB1 := Lib.hid (show Box w1 (w.heap.size + 1) 47 #[.int .i64 bg, .int .i64 bp, .int .i64 bm, .int .i64 bc, .int .i64 bn, .int .i64 bt1] from sz1 ▸ ((Box.new (w.alloc (.cells #[.int .i64 ag, .int .i64 ap, .int .i64 am, .int .i64 ac, .int .i64 an, .int .i64 at1] 47)) 47 #[.int .i64 bg, .int .i64 bp, .int .i64 bm, .int .i64 bc, .int .i64 bn, .int .i64 bt1]).alloc (.cells #[.int .i64 cg, .int .i64 cp, .int .i64 cm, .int .i64 cc, .int .i64 cn, .int .i64 ct1] 47)).under hb1)
  have hC1 := Lib.hid (show Box w1 (w.heap.size + 2) 47 #[.int .i64 cg, .int .i64 cp, .int .i64 cm, .int .i64 cc, .int .i64 cn, .int .i64 ct1] from sz2 ▸ (Box.new ((w.alloc (.cells #[.int .i64 ag, .int .i64 ap, .int .i64 am, .int .i64 ac, .int .i64 an, .int .i64 at1] 47)).alloc (.cells #[.int .i64 bg, .int .i64 bp, .int .i64 bm, .int .i64 bc, .int .i64 bn, .int .i64 bt1] 47)) 47 #[.int .i64 cg, .int .i64 cp, .int .i64 cm, .int .i64 cc, .int .i64 cn, .int .i64 ct1]).under hb1)
  have Hb01 := Lib.hid (show Below w.heap.size w w1 from ((((Below.refl _ _).alloc (Nat.le_refl _) _).alloc (by simp) _).alloc (by simp; omega) _).trans (hb1.mono (by simp; omega)))
  have hl1 : w.heap.size + 2 < w1.heap.size := hC1.out.lt
  clear hb1 sz1 sz2
  obtain ⟨⟨m0, m1, m2, m3, m4, m5⟩, ⟨n0, n1, n2, n3, n4, n5⟩⟩ := Tk.Box.six hB1.out
  go_wp2_with fail
  refine (HB.out _).mono ?_
  rintro e w2 ⟨rfl, hb2⟩
  have hA2 := Lib.hid (hA1.out.under hb2)
  have hB2 := Lib.hid (hB1.out.under hb2)
  have hC2 := Lib.hid (hC1.out.under hb2)
  have Hb02 := Lib.hid (Hb01.out.trans (hb2.mono Hb01.out.size))
  have hl2 : w.heap.size + 2 < w2.heap.size := hC2.out.lt
  clear hb2 hA1 hB1 hC1 Hb01 hl1
  clear m0 m1 m2 m3 m4 m5 n0 n1 n2 n3 n4 n5
  obtain ⟨⟨o0, o1, o2, o3, o4, o5⟩, ⟨r0, r1, r2, r3, r4, r5⟩⟩ := Tk.Box.six hC2.out
  go_wp2_with fail
  refine (HC.out _).mono ?_
  rintro e w3 ⟨rfl, hb3⟩
  have hA3 := Lib.hid (hA2.out.under hb3)
  have hB3 := Lib.hid (hB2.out.under hb3)
  have hC3 := Lib.hid (hC2.out.under hb3)
  have Hb03 := Lib.hid (Hb02.out.trans (hb3.mono Hb02.out.size))
  have hl3 : w.heap.size + 2 < w3.heap.size := hC3.out.lt
  clear hb3 hA2 hB2 hC2 Hb02 hl2
  clear o0 o1 o2 o3 o4 o5 r0 r1 r2 r3 r4 r5
  obtain ⟨⟨k0, k1, k2, k3, k4, k5⟩, ⟨e0, e1, e2, e3, e4, e5⟩⟩ := Tk.Box.six hA3.out
  obtain ⟨⟨m0, m1, m2, m3, m4, m5⟩, ⟨n0, n1, n2, n3, n4, n5⟩⟩ := Tk.Box.six hB3.out
  obtain ⟨⟨o0, o1, o2, o3, o4, o5⟩, ⟨r0, r1, r2, r3, r4, r5⟩⟩ := Tk.Box.six hC3.out
  go_wp2_with fail
  refine (HW.out _).mono ?_
  rintro e w4 ⟨rfl, hb4⟩
  go_wp2_with fail
  go_ret
  exact ⟨rfl, Hb03.out.trans (hb4.mono Hb03.out.size)⟩
set_option maxRecDepth 100000 in
set_option maxHeartbeats 600000 in
theorem again8 (a b c : Rt) (k m : Int) (w : World) (s1 s2 s3 : ByteArray) (e2 e3 : Int) (ha : PutsTo a s1 0) (hb : PutsTo b s2 0) (hc : PutsTo c s3 0) (hg : a.g < c.g) (hgb : b.g = c.g) (hk0 : 0 ≤ k) (hk : k ≤ 128) (hm : m < 0) (h1 : s1.size = 128) (h2 : s2.size = 128) :
    Calls Tryd.prog 11 #[.agg (rtV a), .agg (rtV b), .agg (rtV c), .int .i64 k, .int .i64 m] w fun e w' => e = .returned (.bool true) ∧ Below w.heap.size w w' := by
  have HA := Lib.hid ha
  have HB := Lib.hid hb
  have HC := Lib.hid hc
  clear ha hb hc
  have HW := Lib.hid awake_any
  obtain ⟨ag, ap, am, ac, an, at1⟩ := a
  obtain ⟨bg, bp, bm, bc, bn, bt1⟩ := b
  obtain ⟨cg, cp, cm, cc, cn, ct1⟩ := c
  simp only [rtV] at *
  have hne : (bg != cg) = false := by simpa using hgb
  clear hgb
  have hmn : min (128 : Int) 128 = 128 := rfl
  go_enter Tryd.func11, Tryd.ntmps11
  go_wp2_with fail
  refine (HA.out _).mono ?_
  rintro e w1 ⟨rfl, hb1⟩
  have sz1 : (w.alloc (.cells #[.int .i64 ag, .int .i64 ap, .int .i64 am, .int .i64 ac, .int .i64 an, .int .i64 at1] 47)).heap.size = w.heap.size + 1 := by simp
  have sz2 : ((w.alloc (.cells #[.int .i64 ag, .int .i64 ap, .int .i64 am, .int .i64 ac, .int .i64 an, .int .i64 at1] 47)).alloc (.cells #[.int .i64 bg, .int .i64 bp, .int .i64 bm, .int .i64 bc, .int .i64 bn, .int .i64 bt1] 47)).heap.size = w.heap.size + 2 := by simp
  have hA1 := Lib.hid ((((Box.new w 47 #[.int .i64 ag, .int .i64 ap, .int .i64 am, .int .i64 ac, .int .i64 an, .int .i64 at1]).alloc (.cells #[.int .i64 bg, .int .i64 bp, .int .i64 bm, .int .i64 bc, .int .i64 bn, .int .i64 bt1] 47)).alloc (.cells #[.int .i64 cg, .int .i64 cp, .int .i64 cm, .int .i64 cc, .int .i64 cn, .int .i64 ct1] 47)).under hb1)
  have hB1 := Lib.hid (show Box w1 (w.heap.size + 1) 47 #[.int .i64 bg, .int .i64 bp, .int .i64 bm, .int .i64 bc, .int .i64 bn, .int .i64 bt1] from sz1 ▸ ((Box.new (w.alloc (.cells #[.int .i64 ag, .int .i64 ap, .int .i64 am, .int .i64 ac, .int .i64 an, .int .i64 at1] 47)) 47 #[.int .i64 bg, .int .i64 bp, .int .i64 bm, .int .i64 bc, .int .i64 bn, .int .i64 bt1]).alloc (.cells #[.int .i64 cg, .int .i64 cp, .int .i64 cm, .int .i64 cc, .int .i64 cn, .int .i64 ct1] 47)).under hb1)
  have hC1 := Lib.hid (show Box w1 (w.heap.size + 2) 47 #[.int .i64 cg, .int .i64 cp, .int .i64 cm, .int .i64 cc, .int .i64 cn, .int .i64 ct1] from sz2 ▸ (Box.new ((w.alloc (.cells #[.int .i64 ag, .int .i64 ap, .int .i64 am, .int .i64 ac, .int .i64 an, .int .i64 at1] 47)).alloc (.cells #[.int .i64 bg, .int .i64 bp, .int .i64 bm, .int .i64 bc, .int .i64 bn, .int .i64 bt1] 47)) 47 #[.int .i64 cg, .int .i64 cp, .int .i64 cm, .int .i64 cc, .int .i64 cn, .int .i64 ct1]).under hb1)
  have Hb01 := Lib.hid (show Below w.heap.size w w1 from ((((Below.refl _ _).alloc (Nat.le_refl _) _).alloc (by simp) _).alloc (by simp; omega) _).trans (hb1.mono (by simp; omega)))
  have hl1 : w.heap.size + 2 < w1.heap.size := hC1.out.lt
  clear hb1 sz1 sz2
  obtain ⟨⟨m0, m1, m2, m3, m4, m5⟩, ⟨n0, n1, n2, n3, n4, n5⟩⟩ := Tk.Box.six hB1.out
  go_wp2_with fail
  refine (HB.out _).mono ?_
  rintro e w2 ⟨rfl, hb2⟩
  have hA2 := Lib.hid (hA1.out.under hb2)
  have hB2 := Lib.hid (hB1.out.under hb2)
  have hC2 := Lib.hid (hC1.out.under hb2)
  have Hb02 := Lib.hid (Hb01.out.trans (hb2.mono Hb01.out.size))
  have hl2 : w.heap.size + 2 < w2.heap.size := hC2.out.lt
  clear hb2 hA1 hB1 hC1 Hb01 hl1
  clear m0 m1 m2 m3 m4 m5 n0 n1 n2 n3 n4 n5
  obtain ⟨⟨o0, o1, o2, o3, o4, o5⟩, ⟨r0, r1, r2, r3, r4, r5⟩⟩ := Tk.Box.six hC2.out
  go_wp2_with fail
  refine (HC.out _).mono ?_
  rintro e w3 ⟨rfl, hb3⟩
  have hA3 := Lib.hid (hA2.out.under hb3)
  have hB3 := Lib.hid (hB2.out.under hb3)
  have hC3 := Lib.hid (hC2.out.under hb3)
  have Hb03 := Lib.hid (Hb02.out.trans (hb3.mono Hb02.out.size))
  have hl3 : w.heap.size + 2 < w3.heap.size := hC3.out.lt
  clear hb3 hA2 hB2 hC2 Hb02 hl2
  clear o0 o1 o2 o3 o4 o5 r0 r1 r2 r3 r4 r5
  obtain ⟨⟨k0, k1, k2, k3, k4, k5⟩, ⟨e0, e1, e2, e3, e4, e5⟩⟩ := Tk.Box.six hA3.out
  obtain ⟨⟨m0, m1, m2, m3, m4, m5⟩, ⟨n0, n1, n2, n3, n4, n5⟩⟩ := Tk.Box.six hB3.out
  obtain ⟨⟨o0, o1, o2, o3, o4, o5⟩, ⟨r0, r1, r2, r3, r4, r5⟩⟩ := Tk.Box.six hC3.out
  go_wp2_with fail
  refine (HW.out _).mono ?_
  rintro e w4 ⟨rfl, hb4⟩
  go_wp2_with fail
  go_ret
  exact ⟨rfl, Hb03.out.trans (hb4.mono Hb03.out.size)⟩
set_option maxRecDepth 100000 in
set_option maxHeartbeats 600000 in
theorem again9 (a b c : Rt) (k m : Int) (w : World) (s1 s2 s3 : ByteArray) (e2 e3 : Int) (ha : PutsTo a s1 0) (hb : PutsTo b s2 0) (hc : PutsTo c s3 0) (hg : a.g < c.g) (hgb : b.g = c.g) (hk0 : 0 ≤ k) (hk : k ≤ 128) (hm0 : 0 ≤ m) (hm : 128 < m) (h1 : s1.size = 128) (h2 : s2.size = 128) (h3 : s3.size = 128) :
    Calls Tryd.prog 11 #[.agg (rtV a), .agg (rtV b), .agg (rtV c), .int .i64 k, .int .i64 m] w fun e w' => e = .returned (.bool true) ∧ Below w.heap.size w w' := by
  have HA := Lib.hid ha
  have HB := Lib.hid hb
  have HC := Lib.hid hc
  clear ha hb hc
  have HW := Lib.hid awake_any
  obtain ⟨ag, ap, am, ac, an, at1⟩ := a
  obtain ⟨bg, bp, bm, bc, bn, bt1⟩ := b
  obtain ⟨cg, cp, cm, cc, cn, ct1⟩ := c
  simp only [rtV] at *
  have hne : (bg != cg) = false := by simpa using hgb
  clear hgb
  have hmn : min (128 : Int) 128 = 128 := rfl
  go_enter Tryd.func11, Tryd.ntmps11
  go_wp2_with fail
  refine (HA.out _).mono ?_
  rintro e w1 ⟨rfl, hb1⟩
  have sz1 : (w.alloc (.cells #[.int .i64 ag, .int .i64 ap, .int .i64 am, .int .i64 ac, .int .i64 an, .int .i64 at1] 47)).heap.size = w.heap.size + 1 := by simp
  have sz2 : ((w.alloc (.cells #[.int .i64 ag, .int .i64 ap, .int .i64 am, .int .i64 ac, .int .i64 an, .int .i64 at1] 47)).alloc (.cells #[.int .i64 bg, .int .i64 bp, .int .i64 bm, .int .i64 bc, .int .i64 bn, .int .i64 bt1] 47)).heap.size = w.heap.size + 2 := by simp
  have hA1 := Lib.hid ((((Box.new w 47 #[.int .i64 ag, .int .i64 ap, .int .i64 am, .int .i64 ac, .int .i64 an, .int .i64 at1]).alloc (.cells #[.int .i64 bg, .int .i64 bp, .int .i64 bm, .int .i64 bc, .int .i64 bn, .int .i64 bt1] 47)).alloc (.cells #[.int .i64 cg, .int .i64 cp, .int .i64 cm, .int .i64 cc, .int .i64 cn, .int .i64 ct1] 47)).under hb1)
  have hB1 := Lib.hid (show Box w1 (w.heap.size + 1) 47 #[.int .i64 bg, .int .i64 bp, .int .i64 bm, .int .i64 bc, .int .i64 bn, .int .i64 bt1] from sz1 ▸ ((Box.new (w.alloc (.cells #[.int .i64 ag, .int .i64 ap, .int .i64 am, .int .i64 ac, .int .i64 an, .int .i64 at1] 47)) 47 #[.int .i64 bg, .int .i64 bp, .int .i64 bm, .int .i64 bc, .int .i64 bn, .int .i64 bt1]).alloc (.cells #[.int .i64 cg, .int .i64 cp, .int .i64 cm, .int .i64 cc, .int .i64 cn, .int .i64 ct1] 47)).under hb1)
  have hC1 := Lib.hid (show Box w1 (w.heap.size + 2) 47 #[.int .i64 cg, .int .i64 cp, .int .i64 cm, .int .i64 cc, .int .i64 cn, .int .i64 ct1] from sz2 ▸ (Box.new ((w.alloc (.cells #[.int .i64 ag, .int .i64 ap, .int .i64 am, .int .i64 ac, .int .i64 an, .int .i64 at1] 47)).alloc (.cells #[.int .i64 bg, .int .i64 bp, .int .i64 bm, .int .i64 bc, .int .i64 bn, .int .i64 bt1] 47)) 47 #[.int .i64 cg, .int .i64 cp, .int .i64 cm, .int .i64 cc, .int .i64 cn, .int .i64 ct1]).under hb1)
  have Hb01 := Lib.hid (show Below w.heap.size w w1 from ((((Below.refl _ _).alloc (Nat.le_refl _) _).alloc (by simp) _).alloc (by simp; omega) _).trans (hb1.mono (by simp; omega)))
  have hl1 : w.heap.size + 2 < w1.heap.size := hC1.out.lt
  clear hb1 sz1 sz2
  obtain ⟨⟨m0, m1, m2, m3, m4, m5⟩, ⟨n0, n1, n2, n3, n4, n5⟩⟩ := Tk.Box.six hB1.out
  go_wp2_with fail
  refine (HB.out _).mono ?_
  rintro e w2 ⟨rfl, hb2⟩
  have hA2 := Lib.hid (hA1.out.under hb2)
  have hB2 := Lib.hid (hB1.out.under hb2)
  have hC2 := Lib.hid (hC1.out.under hb2)
  have Hb02 := Lib.hid (Hb01.out.trans (hb2.mono Hb01.out.size))
  have hl2 : w.heap.size + 2 < w2.heap.size := hC2.out.lt
  clear hb2 hA1 hB1 hC1 Hb01 hl1
  clear m0 m1 m2 m3 m4 m5 n0 n1 n2 n3 n4 n5
  obtain ⟨⟨o0, o1, o2, o3, o4, o5⟩, ⟨r0, r1, r2, r3, r4, r5⟩⟩ := Tk.Box.six hC2.out
  go_wp2_with fail
  refine (HC.out _).mono ?_
  rintro e w3 ⟨rfl, hb3⟩
  have hA3 := Lib.hid (hA2.out.under hb3)
  have hB3 := Lib.hid (hB2.out.under hb3)
  have hC3 := Lib.hid (hC2.out.under hb3)
  have Hb03 := Lib.hid (Hb02.out.trans (hb3.mono Hb02.out.size))
  have hl3 : w.heap.size + 2 < w3.heap.size := hC3.out.lt
  clear hb3 hA2 hB2 hC2 Hb02 hl2
  clear o0 o1 o2 o3 o4 o5 r0 r1 r2 r3 r4 r5
  obtain ⟨⟨k0, k1, k2, k3, k4, k5⟩, ⟨e0, e1, e2, e3, e4, e5⟩⟩ := Tk.Box.six hA3.out
  obtain ⟨⟨m0, m1, m2, m3, m4, m5⟩, ⟨n0, n1, n2, n3, n4, n5⟩⟩ := Tk.Box.six hB3.out
  obtain ⟨⟨o0, o1, o2, o3, o4, o5⟩, ⟨r0, r1, r2, r3, r4, r5⟩⟩ := Tk.Box.six hC3.out
  go_wp2_with fail
  refine (HW.out _).mono ?_
  rintro e w4 ⟨rfl, hb4⟩
  go_wp2_with fail
  go_ret
  exact ⟨rfl, Hb03.out.trans (hb4.mono Hb03.out.size)⟩

end Go.Proofs.YtpgmbpjjefecdaaDoor.Sl
