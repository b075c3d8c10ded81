/- The walk of SlotTears (gensl11.py prints it). -/
import Derived.Test.YtpgmbpjjefecdaaDoorSl10
namespace Go.Proofs.YtpgmbpjjefecdaaDoor.Sl
open Go.RowKit Base Crc Txt Plain Pg
set_option linter.unusedVariables false
set_option linter.unusedSimpArgs false

abbrev PutsTo (r : Rt) (s : ByteArray) (e : Int) : Prop := ∀ w, Calls Tryd.prog 29 #[.agg (rtV r)] w fun x w' => x = .returned (.tuple #[.string s, .int .i64 e]) ∧ Below w.heap.size w w'
set_option maxRecDepth 100000 in
set_option maxHeartbeats 400000 in
theorem tears1 (a b : Rt) (k : Int) (w : World) (s1 s2 : ByteArray) (e2 : Int) (ha : PutsTo a s1 2) (hb : PutsTo b s2 e2)  :
    Calls Tryd.prog 10 #[.agg (rtV a), .agg (rtV b), .int .i64 k] w fun e w' => e = .returned (.bool true) ∧ Below w.heap.size w w' := by
  have HA := Lib.hid ha
  have HB := Lib.hid hb
  clear ha hb
  have HW := Lib.hid awake_any
  obtain ⟨ag, ap, am, ac, an, at1⟩ := a
  obtain ⟨bg, bp, bm, bc, bn, bt⟩ := b
  simp only [rtV] at *
  go_enter Tryd.func10, Tryd.ntmps10
  go_wp2_with fail
  refine (HA.out _).mono ?_
  rintro e w1 ⟨rfl, hb1⟩
  have hB1 := Lib.hid (((Box.new w 47 #[.int .i64 ag, .int .i64 ap, .int .i64 am, .int .i64 ac, .int .i64 an, .int .i64 at1]).alloc (.cells #[.int .i64 bg, .int .i64 bp, .int .i64 bm, .int .i64 bc, .int .i64 bn, .int .i64 bt] 47)).under hb1)
  have hG1 := Lib.hid (show Box w1 (w.heap.size + 1) 47 #[.int .i64 bg, .int .i64 bp, .int .i64 bm, .int .i64 bc, .int .i64 bn, .int .i64 bt] by
    have h := (Box.new (w.alloc (.cells #[.int .i64 ag, .int .i64 ap, .int .i64 am, .int .i64 ac, .int .i64 an, .int .i64 at1] 47)) 47 #[.int .i64 bg, .int .i64 bp, .int .i64 bm, .int .i64 bc, .int .i64 bn, .int .i64 bt]).under hb1
    rw [show (w.alloc (.cells #[.int .i64 ag, .int .i64 ap, .int .i64 am, .int .i64 ac, .int .i64 an, .int .i64 at1] 47)).heap.size = w.heap.size + 1 by simp] at h
    exact h)
  have Hb01 := Lib.hid (show Below w.heap.size w w1 from (((Below.refl _ _).alloc (Nat.le_refl _) _).alloc (by simp) _).trans (hb1.mono (by simp; omega)))
  have hl1 : w.heap.size + 1 < w1.heap.size := hG1.out.lt
  clear hb1
  obtain ⟨⟨k0, k1, k2, k3, k4, k5⟩, ⟨e0, e1, e2, e3, e4, e5⟩⟩ := Tk.Box.six hG1.out
  go_wp2_with fail
  refine (HB.out _).mono ?_
  rintro e w2 ⟨rfl, hb2⟩
  have hB2 := Lib.hid (hB1.out.under hb2)
  have hG2 := Lib.hid (hG1.out.under hb2)
  have Hb02 := Lib.hid (Hb01.out.trans (hb2.mono Hb01.out.size))
  have hl2 : w.heap.size + 1 < w2.heap.size := hG2.out.lt
  clear hb2 k0 k1 k2 k3 k4 k5 e0 e1 e2 e3 e4 e5 hB1 hG1 Hb01 hl1
  obtain ⟨⟨k0, k1, k2, k3, k4, k5⟩, ⟨e0, e1, e2, e3, e4, e5⟩⟩ := Tk.Box.six hB2.out
  obtain ⟨⟨m0, m1, m2, m3, m4, m5⟩, ⟨n0, n1, n2, n3, n4, n5⟩⟩ := Tk.Box.six hG2.out
  go_wp2_with fail
  refine (HW.out _).mono ?_
  rintro e w3 ⟨rfl, hb3⟩
  go_wp2_with fail
  go_ret
  exact ⟨rfl, Hb02.out.trans (hb3.mono Hb02.out.size)⟩
set_option maxRecDepth 100000 in
set_option maxHeartbeats 400000 in
theorem tears2 (a b : Rt) (k : Int) (w : World) (s1 s2 : ByteArray) (e2 : Int) (ha : PutsTo a s1 0) (hb : PutsTo b s2 2)  :
    Calls Tryd.prog 10 #[.agg (rtV a), .agg (rtV b), .int .i64 k] w fun e w' => e = .returned (.bool true) ∧ Below w.heap.size w w' := by
  have HA := Lib.hid ha
  have HB := Lib.hid hb
  clear ha hb
  have HW := Lib.hid awake_any
  obtain ⟨ag, ap, am, ac, an, at1⟩ := a
  obtain ⟨bg, bp, bm, bc, bn, bt⟩ := b
  simp only [rtV] at *
  go_enter Tryd.func10, Tryd.ntmps10
  go_wp2_with fail
  refine (HA.out _).mono ?_
  rintro e w1 ⟨rfl, hb1⟩
  have hB1 := Lib.hid (((Box.new w 47 #[.int .i64 ag, .int .i64 ap, .int .i64 am, .int .i64 ac, .int .i64 an, .int .i64 at1]).alloc (.cells #[.int .i64 bg, .int .i64 bp, .int .i64 bm, .int .i64 bc, .int .i64 bn, .int .i64 bt] 47)).under hb1)
  have hG1 := Lib.hid (show Box w1 (w.heap.size + 1) 47 #[.int .i64 bg, .int .i64 bp, .int .i64 bm, .int .i64 bc, .int .i64 bn, .int .i64 bt] by
    have h := (Box.new (w.alloc (.cells #[.int .i64 ag, .int .i64 ap, .int .i64 am, .int .i64 ac, .int .i64 an, .int .i64 at1] 47)) 47 #[.int .i64 bg, .int .i64 bp, .int .i64 bm, .int .i64 bc, .int .i64 bn, .int .i64 bt]).under hb1
    rw [show (w.alloc (.cells #[.int .i64 ag, .int .i64 ap, .int .i64 am, .int .i64 ac, .int .i64 an, .int .i64 at1] 47)).heap.size = w.heap.size + 1 by simp] at h
    exact h)
  have Hb01 := Lib.hid (show Below w.heap.size w w1 from (((Below.refl _ _).alloc (Nat.le_refl _) _).alloc (by simp) _).trans (hb1.mono (by simp; omega)))
  have hl1 : w.heap.size + 1 < w1.heap.size := hG1.out.lt
  clear hb1
  obtain ⟨⟨k0, k1, k2, k3, k4, k5⟩, ⟨e0, e1, e2, e3, e4, e5⟩⟩ := Tk.Box.six hG1.out
  go_wp2_with fail
  refine (HB.out _).mono ?_
  rintro e w2 ⟨rfl, hb2⟩
  have hB2 := Lib.hid (hB1.out.under hb2)
  have hG2 := Lib.hid (hG1.out.under hb2)
  have Hb02 := Lib.hid (Hb01.out.trans (hb2.mono Hb01.out.size))
  have hl2 : w.heap.size + 1 < w2.heap.size := hG2.out.lt
  clear hb2 k0 k1 k2 k3 k4 k5 e0 e1 e2 e3 e4 e5 hB1 hG1 Hb01 hl1
  obtain ⟨⟨k0, k1, k2, k3, k4, k5⟩, ⟨e0, e1, e2, e3, e4, e5⟩⟩ := Tk.Box.six hB2.out
  obtain ⟨⟨m0, m1, m2, m3, m4, m5⟩, ⟨n0, n1, n2, n3, n4, n5⟩⟩ := Tk.Box.six hG2.out
  go_wp2_with fail
  refine (HW.out _).mono ?_
  rintro e w3 ⟨rfl, hb3⟩
  go_wp2_with fail
  go_ret
  exact ⟨rfl, Hb02.out.trans (hb3.mono Hb02.out.size)⟩
set_option maxRecDepth 100000 in
set_option maxHeartbeats 400000 in
theorem tears3 (a b : Rt) (k : Int) (w : World) (s1 s2 : ByteArray) (e2 : Int) (ha : PutsTo a s1 0) (hb : PutsTo b s2 0) (hg : a.g = b.g) :
    Calls Tryd.prog 10 #[.agg (rtV a), .agg (rtV b), .int .i64 k] w fun e w' => e = .returned (.bool true) ∧ Below w.heap.size w w' := by
  have HA := Lib.hid ha
  have HB := Lib.hid hb
  clear ha hb
  have HW := Lib.hid awake_any
  obtain ⟨ag, ap, am, ac, an, at1⟩ := a
  obtain ⟨bg, bp, bm, bc, bn, bt⟩ := b
  simp only [rtV] at *
  have hge : (ag == bg) = true := by simpa using hg
  clear hg
  go_enter Tryd.func10, Tryd.ntmps10
  go_wp2_with fail
  refine (HA.out _).mono ?_
  rintro e w1 ⟨rfl, hb1⟩
  have hB1 := Lib.hid (((Box.new w 47 #[.int .i64 ag, .int .i64 ap, .int .i64 am, .int .i64 ac, .int .i64 an, .int .i64 at1]).alloc (.cells #[.int .i64 bg, .int .i64 bp, .int .i64 bm, .int .i64 bc, .int .i64 bn, .int .i64 bt] 47)).under hb1)
  have hG1 := Lib.hid (show Box w1 (w.heap.size + 1) 47 #[.int .i64 bg, .int .i64 bp, .int .i64 bm, .int .i64 bc, .int .i64 bn, .int .i64 bt] by
    have h := (Box.new (w.alloc (.cells #[.int .i64 ag, .int .i64 ap, .int .i64 am, .int .i64 ac, .int .i64 an, .int .i64 at1] 47)) 47 #[.int .i64 bg, .int .i64 bp, .int .i64 bm, .int .i64 bc, .int .i64 bn, .int .i64 bt]).under hb1
    rw [show (w.alloc (.cells #[.int .i64 ag, .int .i64 ap, .int .i64 am, .int .i64 ac, .int .i64 an, .int .i64 at1] 47)).heap.size = w.heap.size + 1 by simp] at h
    exact h)
  have Hb01 := Lib.hid (show Below w.heap.size w w1 from (((Below.refl _ _).alloc (Nat.le_refl _) _).alloc (by simp) _).trans (hb1.mono (by simp; omega)))
  have hl1 : w.heap.size + 1 < w1.heap.size := hG1.out.lt
  clear hb1
  obtain ⟨⟨k0, k1, k2, k3, k4, k5⟩, ⟨e0, e1, e2, e3, e4, e5⟩⟩ := Tk.Box.six hG1.out
  go_wp2_with fail
  refine (HB.out _).mono ?_
  rintro e w2 ⟨rfl, hb2⟩
  have hB2 := Lib.hid (hB1.out.under hb2)
  have hG2 := Lib.hid (hG1.out.under hb2)
  have Hb02 := Lib.hid (Hb01.out.trans (hb2.mono Hb01.out.size))
  have hl2 : w.heap.size + 1 < w2.heap.size := hG2.out.lt
  clear hb2 k0 k1 k2 k3 k4 k5 e0 e1 e2 e3 e4 e5 hB1 hG1 Hb01 hl1
  obtain ⟨⟨k0, k1, k2, k3, k4, k5⟩, ⟨e0, e1, e2, e3, e4, e5⟩⟩ := Tk.Box.six hB2.out
  obtain ⟨⟨m0, m1, m2, m3, m4, m5⟩, ⟨n0, n1, n2, n3, n4, n5⟩⟩ := Tk.Box.six hG2.out
  go_wp2_with fail
  refine (HW.out _).mono ?_
  rintro e w3 ⟨rfl, hb3⟩
  go_wp2_with fail
  go_ret
  exact ⟨rfl, Hb02.out.trans (hb3.mono Hb02.out.size)⟩
set_option maxRecDepth 100000 in
set_option maxHeartbeats 400000 in
theorem tears4 (a b : Rt) (k : Int) (w : World) (s1 s2 : ByteArray) (e2 : Int) (ha : PutsTo a s1 0) (hb : PutsTo b s2 0) (hg : a.g ≠ b.g) (hk : k < 0) :
    Calls Tryd.prog 10 #[.agg (rtV a), .agg (rtV b), .int .i64 k] w fun e w' => e = .returned (.bool true) ∧ Below w.heap.size w w' := by
  have HA := Lib.hid ha
  have HB := Lib.hid hb
  clear ha hb
  have HW := Lib.hid awake_any
  obtain ⟨ag, ap, am, ac, an, at1⟩ := a
  obtain ⟨bg, bp, bm, bc, bn, bt⟩ := b
  simp only [rtV] at *
  have hge : (ag == bg) = false := by simpa using hg
  go_enter Tryd.func10, Tryd.ntmps10
  go_wp2_with fail
  refine (HA.out _).mono ?_
  rintro e w1 ⟨rfl, hb1⟩
  have hB1 := Lib.hid (((Box.new w 47 #[.int .i64 ag, .int .i64 ap, .int .i64 am, .int .i64 ac, .int .i64 an, .int .i64 at1]).alloc (.cells #[.int .i64 bg, .int .i64 bp, .int .i64 bm, .int .i64 bc, .int .i64 bn, .int .i64 bt] 47)).under hb1)
  have hG1 := Lib.hid (show Box w1 (w.heap.size + 1) 47 #[.int .i64 bg, .int .i64 bp, .int .i64 bm, .int .i64 bc, .int .i64 bn, .int .i64 bt] by
    have h := (Box.new (w.alloc (.cells #[.int .i64 ag, .int .i64 ap, .int .i64 am, .int .i64 ac, .int .i64 an, .int .i64 at1] 47)) 47 #[.int .i64 bg, .int .i64 bp, .int .i64 bm, .int .i64 bc, .int .i64 bn, .int .i64 bt]).under hb1
    rw [show (w.alloc (.cells #[.int .i64 ag, .int .i64 ap, .int .i64 am, .int .i64 ac, .int .i64 an, .int .i64 at1] 47)).heap.size = w.heap.size + 1 by simp] at h
    exact h)
  have Hb01 := Lib.hid (show Below w.heap.size w w1 from (((Below.refl _ _).alloc (Nat.le_refl _) _).alloc (by simp) _).trans (hb1.mono (by simp; omega)))
  have hl1 : w.heap.size + 1 < w1.heap.size := hG1.out.lt
  clear hb1
  obtain ⟨⟨k0, k1, k2, k3, k4, k5⟩, ⟨e0, e1, e2, e3, e4, e5⟩⟩ := Tk.Box.six hG1.out
  go_wp2_with fail
  refine (HB.out _).mono ?_
  rintro e w2 ⟨rfl, hb2⟩
  have hB2 := Lib.hid (hB1.out.under hb2)
  have hG2 := Lib.hid (hG1.out.under hb2)
  have Hb02 := Lib.hid (Hb01.out.trans (hb2.mono Hb01.out.size))
  have hl2 : w.heap.size + 1 < w2.heap.size := hG2.out.lt
  clear hb2 k0 k1 k2 k3 k4 k5 e0 e1 e2 e3 e4 e5 hB1 hG1 Hb01 hl1
  obtain ⟨⟨k0, k1, k2, k3, k4, k5⟩, ⟨e0, e1, e2, e3, e4, e5⟩⟩ := Tk.Box.six hB2.out
  obtain ⟨⟨m0, m1, m2, m3, m4, m5⟩, ⟨n0, n1, n2, n3, n4, n5⟩⟩ := Tk.Box.six hG2.out
  go_wp2_with fail
  refine (HW.out _).mono ?_
  rintro e w3 ⟨rfl, hb3⟩
  go_wp2_with fail
  go_ret
  exact ⟨rfl, Hb02.out.trans (hb3.mono Hb02.out.size)⟩
set_option maxRecDepth 100000 in
set_option maxHeartbeats 400000 in
theorem tears5 (a b : Rt) (k : Int) (w : World) (s1 s2 : ByteArray) (e2 : Int) (ha : PutsTo a s1 0) (hb : PutsTo b s2 0) (hg : a.g ≠ b.g) (hk : 128 < k) (h1 : s1.size = 128) (h2 : s2.size = 128) :
    Calls Tryd.prog 10 #[.agg (rtV a), .agg (rtV b), .int .i64 k] w fun e w' => e = .returned (.bool true) ∧ Below w.heap.size w w' := by
  have HA := Lib.hid ha
  have HB := Lib.hid hb
  clear ha hb
  have HW := Lib.hid awake_any
  obtain ⟨ag, ap, am, ac, an, at1⟩ := a
  obtain ⟨bg, bp, bm, bc, bn, bt⟩ := b
  simp only [rtV] at *
  have hge : (ag == bg) = false := by simpa using hg
  have hmn : min (128 : Int) 128 = 128 := rfl
  go_enter Tryd.func10, Tryd.ntmps10
  go_wp2_with fail
  refine (HA.out _).mono ?_
  rintro e w1 ⟨rfl, hb1⟩
  have hB1 := Lib.hid (((Box.new w 47 #[.int .i64 ag, .int .i64 ap, .int .i64 am, .int .i64 ac, .int .i64 an, .int .i64 at1]).alloc (.cells #[.int .i64 bg, .int .i64 bp, .int .i64 bm, .int .i64 bc, .int .i64 bn, .int .i64 bt] 47)).under hb1)
  have hG1 := Lib.hid (show Box w1 (w.heap.size + 1) 47 #[.int .i64 bg, .int .i64 bp, .int .i64 bm, .int .i64 bc, .int .i64 bn, .int .i64 bt] by
    have h := (Box.new (w.alloc (.cells #[.int .i64 ag, .int .i64 ap, .int .i64 am, .int .i64 ac, .int .i64 an, .int .i64 at1] 47)) 47 #[.int .i64 bg, .int .i64 bp, .int .i64 bm, .int .i64 bc, .int .i64 bn, .int .i64 bt]).under hb1
    rw [show (w.alloc (.cells #[.int .i64 ag, .int .i64 ap, .int .i64 am, .int .i64 ac, .int .i64 an, .int .i64 at1] 47)).heap.size = w.heap.size + 1 by simp] at h
    exact h)
  have Hb01 := Lib.hid (show Below w.heap.size w w1 from (((Below.refl _ _).alloc (Nat.le_refl _) _).alloc (by simp) _).trans (hb1.mono (by simp; omega)))
  have hl1 : w.heap.size + 1 < w1.heap.size := hG1.out.lt
  clear hb1
  obtain ⟨⟨k0, k1, k2, k3, k4, k5⟩, ⟨e0, e1, e2, e3, e4, e5⟩⟩ := Tk.Box.six hG1.out
  go_wp2_with fail
  refine (HB.out _).mono ?_
  rintro e w2 ⟨rfl, hb2⟩
  have hB2 := Lib.hid (hB1.out.under hb2)
  have hG2 := Lib.hid (hG1.out.under hb2)
  have Hb02 := Lib.hid (Hb01.out.trans (hb2.mono Hb01.out.size))
  have hl2 : w.heap.size + 1 < w2.heap.size := hG2.out.lt
  clear hb2 k0 k1 k2 k3 k4 k5 e0 e1 e2 e3 e4 e5 hB1 hG1 Hb01 hl1
  obtain ⟨⟨k0, k1, k2, k3, k4, k5⟩, ⟨e0, e1, e2, e3, e4, e5⟩⟩ := Tk.Box.six hB2.out
  obtain ⟨⟨m0, m1, m2, m3, m4, m5⟩, ⟨n0, n1, n2, n3, n4, n5⟩⟩ := Tk.Box.six hG2.out
  go_wp2_with fail
  refine (HW.out _).mono ?_
  rintro e w3 ⟨rfl, hb3⟩
  go_wp2_with fail
  go_ret
  exact ⟨rfl, Hb02.out.trans (hb3.mono Hb02.out.size)⟩

end Go.Proofs.YtpgmbpjjefecdaaDoor.Sl
