/- The walk of SlotAgain, part 17 (gensl15.py prints it). -/
import Derived.Test.YtpgmbpjjefecdaaDoorSl11
namespace Go.Proofs.YtpgmbpjjefecdaaDoor.Sl
open Go.RowKit Base Crc Txt Plain Pg
set_option linter.unusedVariables false
set_option linter.unusedSimpArgs false

set_option maxRecDepth 100000 in
set_option maxHeartbeats 600000 in
theorem again10 (a b c : Rt) (k m : Nat) (w : World) (LA LB LC : List UInt8) (ha : PutsTo a (str LA) 0) (hb : PutsTo b (str LB) 0) (hc : PutsTo c (str LC) 0) (hg : a.g < c.g) (hgb : b.g = c.g) (hk : k ≤ 128) (hm : m ≤ 128)
    (la : LA.length = 128) (lb : LB.length = 128) (lc : LC.length = 128) (HT0 : ∀ w, Calls Tryd.prog 33 #[.string (str (torn LA LB k))] w fun e w' => e = .returned (.tuple #[.agg (rtV b), .int .i64 0]) ∧ Below w.heap.size w w')  :
    Calls Tryd.prog 11 #[.agg (rtV a), .agg (rtV b), .agg (rtV c), .int .i64 (k : Int), .int .i64 (m : Int)] w fun e w' => e = .returned (.bool true) ∧ Below w.heap.size w w' := by
  have HA := Lib.hid ha
  have HB := Lib.hid hb
  have HC := Lib.hid hc
  have HT := Lib.hid HT0
  clear ha hb hc HT0
  have HW := Lib.hid awake_any
  obtain ⟨ag, ap, am, ac, an, at1⟩ := a
  obtain ⟨bg, bp, bm, bc, bn, bt1⟩ := b
  obtain ⟨cg, cp, cm, cc, cn, ct1⟩ := c
  simp only [rtV] at *
  have hgs : (ag == cg) = false := by simp; omega
  have hgs' : (cg == ag) = false := by simp; omega
  have hgs2 : (bg == cg) = true := by simpa using hgb
  have hne : (bg != cg) = false := by simpa using hgb
  clear hgb
  have hmn : min (128 : Int) 128 = 128 := rfl
  have h1 : (str LA).size = 128 := by rw [str_size, la]
  have h2 : (str LB).size = 128 := by rw [str_size, lb]
  have h3 : (str LC).size = 128 := by rw [str_size, lc]
  have ht : (str LB).extract 0 k ++ (str LA).extract k 128 = str (torn LA LB k) := by
    rw [extract_str, extract_str, str_app]
    unfold torn
    simp only [str_list, List.drop_zero, Nat.sub_zero]
    rw [List.take_of_length_le (l := LA.drop k) (by rw [List.length_drop, la]; exact Nat.le_refl _)]
  have hl : (str (torn LA LB k)).size = 128 := by rw [str_size, torn_len _ _ _ la lb hk]
  have hu : (str LC).extract 0 m ++ (str (torn LA LB k)).extract m 128 = str (torn (torn LA LB k) LC m) := by
    rw [extract_str, extract_str, str_app]
    generalize torn LA LB k = L at *
    unfold torn
    simp only [str_list, List.drop_zero, Nat.sub_zero]
    rw [List.take_of_length_le (l := L.drop m) (by rw [List.length_drop]; rw [str_size] at hl; omega)]
  clear hu
  generalize hL : str (torn LA LB k) = L at *
  clear hL
  go_enter Tryd.func11, Tryd.ntmps11
  go_wp2_with fail
  refine (HA.out _).mono ?_
  rintro e w1 ⟨rfl, hb1⟩
  have sz1 : (w.alloc (.cells #[.int .i64 ag, .int .i64 ap, .int .i64 am, .int .i64 ac, .int .i64 an, .int .i64 at1] 47)).heap.size = w.heap.size + 1 := by simp
  have sz2 : ((w.alloc (.cells #[.int .i64 ag, .int .i64 ap, .int .i64 am, .int .i64 ac, .int .i64 an, .int .i64 at1] 47)).alloc (.cells #[.int .i64 bg, .int .i64 bp, .int .i64 bm, .int .i64 bc, .int .i64 bn, .int .i64 bt1] 47)).heap.size = w.heap.size + 2 := by simp
  have hA1 := Lib.hid ((((Box.new w 47 #[.int .i64 ag, .int .i64 ap, .int .i64 am, .int .i64 ac, .int .i64 an, .int .i64 at1]).alloc (.cells #[.int .i64 bg, .int .i64 bp, .int .i64 bm, .int .i64 bc, .int .i64 bn, .int .i64 bt1] 47)).alloc (.cells #[.int .i64 cg, .int .i64 cp, .int .i64 cm, .int .i64 cc, .int .i64 cn, .int .i64 ct1] 47)).under hb1)
  have hB1 := Lib.hid (show Box w1 (w.heap.size + 1) 47 #[.int .i64 bg, .int .i64 bp, .int .i64 bm, .int .i64 bc, .int .i64 bn, .int .i64 bt1] from sz1 ▸ ((Box.new (w.alloc (.cells #[.int .i64 ag, .int .i64 ap, .int .i64 am, .int .i64 ac, .int .i64 an, .int .i64 at1] 47)) 47 #[.int .i64 bg, .int .i64 bp, .int .i64 bm, .int .i64 bc, .int .i64 bn, .int .i64 bt1]).alloc (.cells #[.int .i64 cg, .int .i64 cp, .int .i64 cm, .int .i64 cc, .int .i64 cn, .int .i64 ct1] 47)).under hb1)
  have hC1 := Lib.hid (show Box w1 (w.heap.size + 2) 47 #[.int .i64 cg, .int .i64 cp, .int .i64 cm, .int .i64 cc, .int .i64 cn, .int .i64 ct1] from sz2 ▸ (Box.new ((w.alloc (.cells #[.int .i64 ag, .int .i64 ap, .int .i64 am, .int .i64 ac, .int .i64 an, .int .i64 at1] 47)).alloc (.cells #[.int .i64 bg, .int .i64 bp, .int .i64 bm, .int .i64 bc, .int .i64 bn, .int .i64 bt1] 47)) 47 #[.int .i64 cg, .int .i64 cp, .int .i64 cm, .int .i64 cc, .int .i64 cn, .int .i64 ct1]).under hb1)
  have Hb01 := Lib.hid (show Below w.heap.size w w1 from ((((Below.refl _ _).alloc (Nat.le_refl _) _).alloc (by simp) _).alloc (by simp; omega) _).trans (hb1.mono (by simp; omega)))
  have hl1 : w.heap.size + 2 < w1.heap.size := hC1.out.lt
  clear hb1 sz1 sz2
  obtain ⟨⟨m0, m1, m2, m3, m4, m5⟩, ⟨n0, n1, n2, n3, n4, n5⟩⟩ := Tk.Box.six hB1.out
  go_wp2_with fail
  refine (HB.out _).mono ?_
  rintro e w2 ⟨rfl, hb2⟩
  have hA2 := Lib.hid (hA1.out.under hb2)
  have hB2 := Lib.hid (hB1.out.under hb2)
  have hC2 := Lib.hid (hC1.out.under hb2)
  have Hb02 := Lib.hid (Hb01.out.trans (hb2.mono Hb01.out.size))
  have hl2 : w.heap.size + 2 < w2.heap.size := hC2.out.lt
  clear hb2 hA1 hB1 hC1 Hb01 hl1
  clear m0 m1 m2 m3 m4 m5 n0 n1 n2 n3 n4 n5
  obtain ⟨⟨o0, o1, o2, o3, o4, o5⟩, ⟨r0, r1, r2, r3, r4, r5⟩⟩ := Tk.Box.six hC2.out
  go_wp2_with fail
  refine (HC.out _).mono ?_
  rintro e w3 ⟨rfl, hb3⟩
  have hA3 := Lib.hid (hA2.out.under hb3)
  have hB3 := Lib.hid (hB2.out.under hb3)
  have hC3 := Lib.hid (hC2.out.under hb3)
  have Hb03 := Lib.hid (Hb02.out.trans (hb3.mono Hb02.out.size))
  have hl3 : w.heap.size + 2 < w3.heap.size := hC3.out.lt
  clear hb3 hA2 hB2 hC2 Hb02 hl2
  clear o0 o1 o2 o3 o4 o5 r0 r1 r2 r3 r4 r5
  obtain ⟨⟨k0, k1, k2, k3, k4, k5⟩, ⟨e0, e1, e2, e3, e4, e5⟩⟩ := Tk.Box.six hA3.out
  obtain ⟨⟨m0, m1, m2, m3, m4, m5⟩, ⟨n0, n1, n2, n3, n4, n5⟩⟩ := Tk.Box.six hB3.out
  obtain ⟨⟨o0, o1, o2, o3, o4, o5⟩, ⟨r0, r1, r2, r3, r4, r5⟩⟩ := Tk.Box.six hC3.out
  go_wp2_with fail
  go_region
  go_wp2_with fail
  clear ht
  refine (HT.out _).mono ?_
  rintro e w4 ⟨rfl, hb4⟩
  have hA4 := Lib.hid (Box.under (w := w3.drew) hA3.out hb4)
  have hB4 := Lib.hid (Box.under (w := w3.drew) hB3.out hb4)
  have hC4 := Lib.hid (Box.under (w := w3.drew) hC3.out hb4)
  have Hb04 := Lib.hid (show Below w.heap.size w w4 from Hb03.out.drew.trans (hb4.mono Hb03.out.size))
  have hl4 : w.heap.size + 2 < w4.heap.size := hC4.out.lt
  have hl41 : w.heap.size + 1 < w4.heap.size := by omega
  have hl40 : w.heap.size < w4.heap.size := by omega
  clear hb4 hA3 hB3 hC3 Hb03 hl3
  clear k0 k1 k2 k3 k4 k5 e0 e1 e2 e3 e4 e5 m0 m1 m2 m3 m4 m5 n0 n1 n2 n3 n4 n5 o0 o1 o2 o3 o4 o5 r0 r1 r2 r3 r4 r5
  obtain ⟨⟨k0, k1, k2, k3, k4, k5⟩, ⟨e0, e1, e2, e3, e4, e5⟩⟩ := Tk.Box.six hA4.out
  obtain ⟨⟨m0, m1, m2, m3, m4, m5⟩, ⟨n0, n1, n2, n3, n4, n5⟩⟩ := Tk.Box.six hB4.out
  obtain ⟨⟨o0, o1, o2, o3, o4, o5⟩, ⟨r0, r1, r2, r3, r4, r5⟩⟩ := Tk.Box.six hC4.out
  go_wp2_with fail
  refine (HW.out _).mono ?_
  rintro e w6 ⟨rfl, hb6⟩
  go_wp2_with fail
  go_ret
  have q := Hb04.out.alloc Hb04.out.size (.cells #[.int .i64 bg, .int .i64 bp, .int .i64 bm, .int .i64 bc, .int .i64 bn, .int .i64 bt1] 47)
  exact ⟨by first | rfl | (simp; done), q.trans (hb6.mono q.size)⟩

end Go.Proofs.YtpgmbpjjefecdaaDoor.Sl
