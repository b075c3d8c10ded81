/- The walk of SlotTears, part 14 (gensl11.py prints it). -/
import Derived.Test.YtpgmbpjjefecdaaDoorSl11
namespace Go.Proofs.YtpgmbpjjefecdaaDoor.Sl
open Go.RowKit Base Crc Txt Plain Pg
set_option linter.unusedVariables false
set_option linter.unusedSimpArgs false

set_option maxRecDepth 100000 in
set_option maxHeartbeats 400000 in
theorem tears8 (a b : Rt) (k : Nat) (w : World) (A B : List UInt8) (ha : PutsTo a (str A) 0) (hb : PutsTo b (str B) 0) (hg : a.g ≠ b.g) (hk : k ≤ 128) (la : A.length = 128) (lb : B.length = 128)
    (HT0 : ∀ w, Calls Tryd.prog 33 #[.string (str (torn A B k))] w fun e w' => e = .returned (.tuple #[.agg (rtV b), .int .i64 0]) ∧ Below w.heap.size w w') :
    Calls Tryd.prog 10 #[.agg (rtV a), .agg (rtV b), .int .i64 (k : Int)] w fun e w' => e = .returned (.bool true) ∧ Below w.heap.size w w' := by
  have HA := Lib.hid ha
  have HB := Lib.hid hb
  have HT := Lib.hid HT0
  clear ha hb HT0
  have HW := Lib.hid awake_any
  obtain ⟨ag, ap, am, ac, an, at1⟩ := a
  obtain ⟨bg, bp, bm, bc, bn, bt⟩ := b
  simp only [rtV] at *
  have hge : (ag == bg) = false := by simpa using hg
  have hge' : (bg == ag) = false := by simpa using fun h => hg h.symm
  have h1 : (str A).size = 128 := by rw [str_size, la]
  have h2 : (str B).size = 128 := by rw [str_size, lb]
  have hmn : min (128 : Int) 128 = 128 := rfl
  have ht : (str B).extract 0 k ++ (str A).extract k 128 = str (torn A B k) := by
    rw [extract_str, extract_str, str_app]
    unfold torn
    simp only [str_list, List.drop_zero, Nat.sub_zero]
    rw [List.take_of_length_le (l := A.drop k) (by rw [List.length_drop, la]; exact Nat.le_refl _)]
  rw [← ht] at HT
  clear ht hg
  go_enter Tryd.func10, Tryd.ntmps10
  go_wp2_with fail
  refine (HA.out _).mono ?_
  rintro e w1 ⟨rfl, hb1⟩
  have hB1 := Lib.hid (((Box.new w 47 #[.int .i64 ag, .int .i64 ap, .int .i64 am, .int .i64 ac, .int .i64 an, .int .i64 at1]).alloc (.cells #[.int .i64 bg, .int .i64 bp, .int .i64 bm, .int .i64 bc, .int .i64 bn, .int .i64 bt] 47)).under hb1)
  have hG1 := Lib.hid (show Box w1 (w.heap.size + 1) 47 #[.int .i64 bg, .int .i64 bp, .int .i64 bm, .int .i64 bc, .int .i64 bn, .int .i64 bt] by
    have h := (Box.new (w.alloc (.cells #[.int .i64 ag, .int .i64 ap, .int .i64 am, .int .i64 ac, .int .i64 an, .int .i64 at1] 47)) 47 #[.int .i64 bg, .int .i64 bp, .int .i64 bm, .int .i64 bc, .int .i64 bn, .int .i64 bt]).under hb1
    rw [show (w.alloc (.cells #[.int .i64 ag, .int .i64 ap, .int .i64 am, .int .i64 ac, .int .i64 an, .int .i64 at1] 47)).heap.size = w.heap.size + 1 by simp] at h
    exact h)
  have Hb01 := Lib.hid (show Below w.heap.size w w1 from (((Below.refl _ _).alloc (Nat.le_refl _) _).alloc (by simp) _).trans (hb1.mono (by simp; omega)))
  have hl1 : w.heap.size + 1 < w1.heap.size := hG1.out.lt
  clear hb1
  obtain ⟨⟨k0, k1, k2, k3, k4, k5⟩, ⟨e0, e1, e2, e3, e4, e5⟩⟩ := Tk.Box.six hG1.out
  go_wp2_with fail
  refine (HB.out _).mono ?_
  rintro e w2 ⟨rfl, hb2⟩
  have hB2 := Lib.hid (hB1.out.under hb2)
  have hG2 := Lib.hid (hG1.out.under hb2)
  have Hb02 := Lib.hid (Hb01.out.trans (hb2.mono Hb01.out.size))
  have hl2 : w.heap.size + 1 < w2.heap.size := hG2.out.lt
  clear hb2 k0 k1 k2 k3 k4 k5 e0 e1 e2 e3 e4 e5 hB1 hG1 Hb01 hl1
  obtain ⟨⟨k0, k1, k2, k3, k4, k5⟩, ⟨e0, e1, e2, e3, e4, e5⟩⟩ := Tk.Box.six hB2.out
  obtain ⟨⟨m0, m1, m2, m3, m4, m5⟩, ⟨n0, n1, n2, n3, n4, n5⟩⟩ := Tk.Box.six hG2.out
  go_wp2_with fail
  go_region_with ((go_at_call 33; refine (HT.out _).mono ?_; rintro e w3 ⟨rfl, hb3⟩; first | (have hN : Box w3 w2.heap.size 47 #[.int .i64 0, .int .i64 0, .int .i64 0, .int .i64 0, .int .i64 0, .int .i64 0] := (Box.new w2.drew 47 #[.int .i64 0, .int .i64 0, .int .i64 0, .int .i64 0, .int .i64 0, .int .i64 0]).under hb3; obtain ⟨⟨q0, q1, q2, q3, q4, q5⟩, ⟨f0, f1, f2, f3, f4, f5⟩⟩ := Tk.Box.six hN) | skip))
  · have hB4 := Lib.hid (show Box (w3.alloc (.cells #[.int .i64 bg, .int .i64 bp, .int .i64 bm, .int .i64 bc, .int .i64 bn, .int .i64 bt] 47)) w.heap.size 47 #[.int .i64 ag, .int .i64 ap, .int .i64 am, .int .i64 ac, .int .i64 an, .int .i64 at1] from (Box.under (w := w2.drew) hB2.out hb3).alloc _)
    have hG4 := Lib.hid (show Box (w3.alloc (.cells #[.int .i64 bg, .int .i64 bp, .int .i64 bm, .int .i64 bc, .int .i64 bn, .int .i64 bt] 47)) (w.heap.size + 1) 47 #[.int .i64 bg, .int .i64 bp, .int .i64 bm, .int .i64 bc, .int .i64 bn, .int .i64 bt] from (Box.under (w := w2.drew) hG2.out hb3).alloc _)
    have hX4 := Lib.hid (Box.new w3 47 #[.int .i64 bg, .int .i64 bp, .int .i64 bm, .int .i64 bc, .int .i64 bn, .int .i64 bt])
    have Hb03 := Lib.hid (show Below w.heap.size w w3 from Hb02.out.drew.trans (hb3.mono Hb02.out.size))
    have Hb04 := Lib.hid (Hb03.out.alloc Hb03.out.size (.cells #[.int .i64 bg, .int .i64 bp, .int .i64 bm, .int .i64 bc, .int .i64 bn, .int .i64 bt] 47))
    clear hb3
    generalize w3.alloc (.cells #[.int .i64 bg, .int .i64 bp, .int .i64 bm, .int .i64 bc, .int .i64 bn, .int .i64 bt] 47) = w4 at *
    clear k0 k1 k2 k3 k4 k5 e0 e1 e2 e3 e4 e5 m0 m1 m2 m3 m4 m5 n0 n1 n2 n3 n4 n5
    obtain ⟨⟨k0, k1, k2, k3, k4, k5⟩, ⟨e0, e1, e2, e3, e4, e5⟩⟩ := Tk.Box.six hB4.out
    obtain ⟨⟨m0, m1, m2, m3, m4, m5⟩, ⟨n0, n1, n2, n3, n4, n5⟩⟩ := Tk.Box.six hG4.out
    obtain ⟨⟨q0, q1, q2, q3, q4, q5⟩, ⟨f0, f1, f2, f3, f4, f5⟩⟩ := Tk.Box.six hX4.out
    have hl4 : w.heap.size + 1 < w4.heap.size := hG4.out.lt
    go_wp2_with fail
    refine (HW.out _).mono ?_
    rintro e w5 ⟨rfl, hb5⟩
    go_wp2_with fail
    go_ret
    exact ⟨by first | rfl | (simp; done), Hb04.out.trans (hb5.mono Hb04.out.size)⟩
  · have ne1 : w.heap.size ≠ w2.heap.size := by omega
    have ne2 : w.heap.size + 1 ≠ w2.heap.size := by omega
    have hB4 := Lib.hid (show Box ((((((w3.setCell ⟨w2.heap.size, 0, none⟩ (.int .i64 bg)).setCell ⟨w2.heap.size, 1, none⟩ (.int .i64 bp)).setCell ⟨w2.heap.size, 2, none⟩ (.int .i64 bm)).setCell ⟨w2.heap.size, 3, none⟩ (.int .i64 bc)).setCell ⟨w2.heap.size, 4, none⟩ (.int .i64 bn)).setCell ⟨w2.heap.size, 5, none⟩ (.int .i64 bt)) w.heap.size 47 #[.int .i64 ag, .int .i64 ap, .int .i64 am, .int .i64 ac, .int .i64 an, .int .i64 at1] from ((((((Box.under (w := (w2.alloc (.cells #[.int .i64 0, .int .i64 0, .int .i64 0, .int .i64 0, .int .i64 0, .int .i64 0] 47)).drew) (hB2.out.alloc _) hb3).far (p := ⟨w2.heap.size, 0, none⟩) ne1 _).far (p := ⟨w2.heap.size, 1, none⟩) ne1 _).far (p := ⟨w2.heap.size, 2, none⟩) ne1 _).far (p := ⟨w2.heap.size, 3, none⟩) ne1 _).far (p := ⟨w2.heap.size, 4, none⟩) ne1 _).far (p := ⟨w2.heap.size, 5, none⟩) ne1 _)
    have hG4 := Lib.hid (show Box ((((((w3.setCell ⟨w2.heap.size, 0, none⟩ (.int .i64 bg)).setCell ⟨w2.heap.size, 1, none⟩ (.int .i64 bp)).setCell ⟨w2.heap.size, 2, none⟩ (.int .i64 bm)).setCell ⟨w2.heap.size, 3, none⟩ (.int .i64 bc)).setCell ⟨w2.heap.size, 4, none⟩ (.int .i64 bn)).setCell ⟨w2.heap.size, 5, none⟩ (.int .i64 bt)) (w.heap.size + 1) 47 #[.int .i64 bg, .int .i64 bp, .int .i64 bm, .int .i64 bc, .int .i64 bn, .int .i64 bt] from ((((((Box.under (w := (w2.alloc (.cells #[.int .i64 0, .int .i64 0, .int .i64 0, .int .i64 0, .int .i64 0, .int .i64 0] 47)).drew) (hG2.out.alloc _) hb3).far (p := ⟨w2.heap.size, 0, none⟩) ne2 _).far (p := ⟨w2.heap.size, 1, none⟩) ne2 _).far (p := ⟨w2.heap.size, 2, none⟩) ne2 _).far (p := ⟨w2.heap.size, 3, none⟩) ne2 _).far (p := ⟨w2.heap.size, 4, none⟩) ne2 _).far (p := ⟨w2.heap.size, 5, none⟩) ne2 _)
    have hX4 := Lib.hid (show Box ((((((w3.setCell ⟨w2.heap.size, 0, none⟩ (.int .i64 bg)).setCell ⟨w2.heap.size, 1, none⟩ (.int .i64 bp)).setCell ⟨w2.heap.size, 2, none⟩ (.int .i64 bm)).setCell ⟨w2.heap.size, 3, none⟩ (.int .i64 bc)).setCell ⟨w2.heap.size, 4, none⟩ (.int .i64 bn)).setCell ⟨w2.heap.size, 5, none⟩ (.int .i64 bt)) w2.heap.size 47 #[.int .i64 bg, .int .i64 bp, .int .i64 bm, .int .i64 bc, .int .i64 bn, .int .i64 bt] from ((((((hN.set 0 _).set 1 _).set 2 _).set 3 _).set 4 _).set 5 _))
    have Hb03 := Lib.hid (show Below w.heap.size w w3 from (Hb02.out.alloc Hb02.out.size _).drew.trans (hb3.mono (Nat.le_trans Hb02.out.size (by show w2.heap.size ≤ (w2.alloc (.cells #[.int .i64 0, .int .i64 0, .int .i64 0, .int .i64 0, .int .i64 0, .int .i64 0] 47)).heap.size; simp))))
    have Hb04 := Lib.hid (show Below w.heap.size w ((((((w3.setCell ⟨w2.heap.size, 0, none⟩ (.int .i64 bg)).setCell ⟨w2.heap.size, 1, none⟩ (.int .i64 bp)).setCell ⟨w2.heap.size, 2, none⟩ (.int .i64 bm)).setCell ⟨w2.heap.size, 3, none⟩ (.int .i64 bc)).setCell ⟨w2.heap.size, 4, none⟩ (.int .i64 bn)).setCell ⟨w2.heap.size, 5, none⟩ (.int .i64 bt)) from below_set6 Hb03.out Hb02.out.size)
    clear hb3 hN q0 q1 q2 q3 q4 q5 f0 f1 f2 f3 f4 f5
    generalize ((((((w3.setCell ⟨w2.heap.size, 0, none⟩ (.int .i64 bg)).setCell ⟨w2.heap.size, 1, none⟩ (.int .i64 bp)).setCell ⟨w2.heap.size, 2, none⟩ (.int .i64 bm)).setCell ⟨w2.heap.size, 3, none⟩ (.int .i64 bc)).setCell ⟨w2.heap.size, 4, none⟩ (.int .i64 bn)).setCell ⟨w2.heap.size, 5, none⟩ (.int .i64 bt)) = w4 at *
    clear k0 k1 k2 k3 k4 k5 e0 e1 e2 e3 e4 e5 m0 m1 m2 m3 m4 m5 n0 n1 n2 n3 n4 n5
    obtain ⟨⟨k0, k1, k2, k3, k4, k5⟩, ⟨e0, e1, e2, e3, e4, e5⟩⟩ := Tk.Box.six hB4.out
    obtain ⟨⟨m0, m1, m2, m3, m4, m5⟩, ⟨n0, n1, n2, n3, n4, n5⟩⟩ := Tk.Box.six hG4.out
    obtain ⟨⟨q0, q1, q2, q3, q4, q5⟩, ⟨f0, f1, f2, f3, f4, f5⟩⟩ := Tk.Box.six hX4.out
    have hl4 : w.heap.size + 1 < w4.heap.size := hG4.out.lt
    go_wp2_with fail
    refine (HW.out _).mono ?_
    rintro e w5 ⟨rfl, hb5⟩
    go_wp2_with fail
    go_ret
    exact ⟨by first | rfl | (simp; done), Hb04.out.trans (hb5.mono Hb04.out.size)⟩


end Go.Proofs.YtpgmbpjjefecdaaDoor.Sl
