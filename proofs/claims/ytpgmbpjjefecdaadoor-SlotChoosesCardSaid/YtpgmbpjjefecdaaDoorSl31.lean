/- Layer 9: the document's Choose (gensl29.py prints it). -/
import Derived.Test.YtpgmbpjjefecdaaDoorSl29
namespace Go.Proofs.YtpgmbpjjefecdaaDoor.Sl
open Go.RowKit Base Crc Txt Plain Pg
set_option linter.unusedVariables false
set_option linter.unusedSimpArgs false

set_option maxRecDepth 100000 in
set_option maxHeartbeats 400000 in
theorem rch_ff (s1 s2 : ByteArray) (w : World) (x y : Rt) (hx : ∀ w, Calls Tryd.prog 37 #[.int .i64 0, .string s1] w fun e w' => e = .returned (.tuple #[.agg (rtV x), .bool false]) ∧ Below w.heap.size w w')
    (hy : ∀ w, Calls Tryd.prog 37 #[.int .i64 1, .string s2] w fun e w' => e = .returned (.tuple #[.agg (rtV y), .bool false]) ∧ Below w.heap.size w w')  :
    Calls Tryd.prog 39 #[.string s1, .string s2] w fun e w' => e = .returned (.tuple #[.agg (rtV x), .bool false]) ∧ Below w.heap.size w w' := by
  have HX := Lib.hid hx
  have HY := Lib.hid hy
  clear hx hy
  obtain ⟨xg, xp, xm, xc, xn, xt⟩ := x
  obtain ⟨yg, yp, ym, yc, yn, yt⟩ := y
  simp only [rtV] at *
  go_enter Tryd.func39, Tryd.ntmps39
  go_wp2_with fail
  refine (HX.out _).mono ?_
  rintro e w1 ⟨rfl, hb1⟩
  have hB1 := Lib.hid ((Box.new w 47 #[.int .i64 0, .int .i64 0, .int .i64 0, .int .i64 0, .int .i64 0, .int .i64 0]).under hb1)
  have Hb01 := Lib.hid (show Below w.heap.size w w1 from ((Below.refl _ _).alloc (Nat.le_refl _) _).trans (hb1.mono (by simp)))
  have hlt : w.heap.size < w1.heap.size := hB1.out.lt
  clear hb1
  go_wp2_with fail
  refine (HY.out _).mono ?_
  rintro e w2 ⟨rfl, hb2⟩
  have hG1 := Lib.hid ((Box.new w1 47 #[.int .i64 xg, .int .i64 xp, .int .i64 xm, .int .i64 xc, .int .i64 xn, .int .i64 xt]).under hb2)
  have hB2 := Lib.hid ((hB1.out.alloc (.cells #[.int .i64 xg, .int .i64 xp, .int .i64 xm, .int .i64 xc, .int .i64 xn, .int .i64 xt] 47)).under hb2)
  have Hb02 := Lib.hid (show Below w.heap.size w w2 from (Hb01.out.alloc (Nat.le_of_lt hlt) _).trans (hb2.mono (by simp; omega)))
  have hlt2 : w1.heap.size < w2.heap.size := hG1.out.lt
  obtain ⟨⟨k0, k1, k2, k3, k4, k5⟩, ⟨e0, e1, e2, e3, e4, e5⟩⟩ := Tk.Box.six hB2.out
  obtain ⟨⟨m0, m1, m2, m3, m4, m5⟩, ⟨n0, n1, n2, n3, n4, n5⟩⟩ := Tk.Box.six hG1.out
  have hlt3 : w.heap.size < w2.heap.size := by omega
  have hne1 : ¬ w.heap.size = w1.heap.size := by omega
  have hne2 : ¬ w1.heap.size = w.heap.size := by omega
  clear hb2
  go_wp2_with fail
  refine bodyPost_ret (v := .tuple #[.agg #[.int .i64 xg, .int .i64 xp, .int .i64 xm, .int .i64 xc, .int .i64 xn, .int .i64 xt], .bool false]) (by simp [results, Tryd.results39, go_sem, snone, rtV, zeroR, k0, k1, k2, k3, k4, k5, hlt3]) rfl ⟨rfl, ?_⟩
  exact (below_set6 Hb02.out (Nat.le_refl _)).alloc (by simp; omega) _
set_option maxRecDepth 100000 in
set_option maxHeartbeats 400000 in
theorem rch_tf (s1 s2 : ByteArray) (w : World) (x y : Rt) (hx : ∀ w, Calls Tryd.prog 37 #[.int .i64 0, .string s1] w fun e w' => e = .returned (.tuple #[.agg (rtV x), .bool true]) ∧ Below w.heap.size w w')
    (hy : ∀ w, Calls Tryd.prog 37 #[.int .i64 1, .string s2] w fun e w' => e = .returned (.tuple #[.agg (rtV y), .bool false]) ∧ Below w.heap.size w w')  :
    Calls Tryd.prog 39 #[.string s1, .string s2] w fun e w' => e = .returned (.tuple #[.agg (rtV x), .bool true]) ∧ Below w.heap.size w w' := by
  have HX := Lib.hid hx
  have HY := Lib.hid hy
  clear hx hy
  obtain ⟨xg, xp, xm, xc, xn, xt⟩ := x
  obtain ⟨yg, yp, ym, yc, yn, yt⟩ := y
  simp only [rtV] at *
  go_enter Tryd.func39, Tryd.ntmps39
  go_wp2_with fail
  refine (HX.out _).mono ?_
  rintro e w1 ⟨rfl, hb1⟩
  have hB1 := Lib.hid ((Box.new w 47 #[.int .i64 0, .int .i64 0, .int .i64 0, .int .i64 0, .int .i64 0, .int .i64 0]).under hb1)
  have Hb01 := Lib.hid (show Below w.heap.size w w1 from ((Below.refl _ _).alloc (Nat.le_refl _) _).trans (hb1.mono (by simp)))
  have hlt : w.heap.size < w1.heap.size := hB1.out.lt
  clear hb1
  go_wp2_with fail
  refine (HY.out _).mono ?_
  rintro e w2 ⟨rfl, hb2⟩
  have hG1 := Lib.hid ((Box.new w1 47 #[.int .i64 xg, .int .i64 xp, .int .i64 xm, .int .i64 xc, .int .i64 xn, .int .i64 xt]).under hb2)
  have hB2 := Lib.hid ((hB1.out.alloc (.cells #[.int .i64 xg, .int .i64 xp, .int .i64 xm, .int .i64 xc, .int .i64 xn, .int .i64 xt] 47)).under hb2)
  have Hb02 := Lib.hid (show Below w.heap.size w w2 from (Hb01.out.alloc (Nat.le_of_lt hlt) _).trans (hb2.mono (by simp; omega)))
  have hlt2 : w1.heap.size < w2.heap.size := hG1.out.lt
  obtain ⟨⟨k0, k1, k2, k3, k4, k5⟩, ⟨e0, e1, e2, e3, e4, e5⟩⟩ := Tk.Box.six hB2.out
  obtain ⟨⟨m0, m1, m2, m3, m4, m5⟩, ⟨n0, n1, n2, n3, n4, n5⟩⟩ := Tk.Box.six hG1.out
  have hlt3 : w.heap.size < w2.heap.size := by omega
  have hne1 : ¬ w.heap.size = w1.heap.size := by omega
  have hne2 : ¬ w1.heap.size = w.heap.size := by omega
  clear hb2
  go_wp2_with fail
  refine bodyPost_ret (v := .tuple #[.agg #[.int .i64 xg, .int .i64 xp, .int .i64 xm, .int .i64 xc, .int .i64 xn, .int .i64 xt], .bool true]) (by simp [results, Tryd.results39, go_sem, snone, rtV, zeroR, k0, k1, k2, k3, k4, k5, hlt3]) rfl ⟨rfl, ?_⟩
  exact (below_set6 Hb02.out (Nat.le_refl _)).alloc (by simp; omega) _
set_option maxRecDepth 100000 in
set_option maxHeartbeats 400000 in
theorem rch_ft (s1 s2 : ByteArray) (w : World) (x y : Rt) (hx : ∀ w, Calls Tryd.prog 37 #[.int .i64 0, .string s1] w fun e w' => e = .returned (.tuple #[.agg (rtV x), .bool false]) ∧ Below w.heap.size w w')
    (hy : ∀ w, Calls Tryd.prog 37 #[.int .i64 1, .string s2] w fun e w' => e = .returned (.tuple #[.agg (rtV y), .bool true]) ∧ Below w.heap.size w w')  :
    Calls Tryd.prog 39 #[.string s1, .string s2] w fun e w' => e = .returned (.tuple #[.agg (rtV y), .bool true]) ∧ Below w.heap.size w w' := by
  have HX := Lib.hid hx
  have HY := Lib.hid hy
  clear hx hy
  obtain ⟨xg, xp, xm, xc, xn, xt⟩ := x
  obtain ⟨yg, yp, ym, yc, yn, yt⟩ := y
  simp only [rtV] at *
  go_enter Tryd.func39, Tryd.ntmps39
  go_wp2_with fail
  refine (HX.out _).mono ?_
  rintro e w1 ⟨rfl, hb1⟩
  have hB1 := Lib.hid ((Box.new w 47 #[.int .i64 0, .int .i64 0, .int .i64 0, .int .i64 0, .int .i64 0, .int .i64 0]).under hb1)
  have Hb01 := Lib.hid (show Below w.heap.size w w1 from ((Below.refl _ _).alloc (Nat.le_refl _) _).trans (hb1.mono (by simp)))
  have hlt : w.heap.size < w1.heap.size := hB1.out.lt
  clear hb1
  go_wp2_with fail
  refine (HY.out _).mono ?_
  rintro e w2 ⟨rfl, hb2⟩
  have hG1 := Lib.hid ((Box.new w1 47 #[.int .i64 xg, .int .i64 xp, .int .i64 xm, .int .i64 xc, .int .i64 xn, .int .i64 xt]).under hb2)
  have hB2 := Lib.hid ((hB1.out.alloc (.cells #[.int .i64 xg, .int .i64 xp, .int .i64 xm, .int .i64 xc, .int .i64 xn, .int .i64 xt] 47)).under hb2)
  have Hb02 := Lib.hid (show Below w.heap.size w w2 from (Hb01.out.alloc (Nat.le_of_lt hlt) _).trans (hb2.mono (by simp; omega)))
  have hlt2 : w1.heap.size < w2.heap.size := hG1.out.lt
  obtain ⟨⟨k0, k1, k2, k3, k4, k5⟩, ⟨e0, e1, e2, e3, e4, e5⟩⟩ := Tk.Box.six hB2.out
  obtain ⟨⟨m0, m1, m2, m3, m4, m5⟩, ⟨n0, n1, n2, n3, n4, n5⟩⟩ := Tk.Box.six hG1.out
  have hlt3 : w.heap.size < w2.heap.size := by omega
  have hne1 : ¬ w.heap.size = w1.heap.size := by omega
  have hne2 : ¬ w1.heap.size = w.heap.size := by omega
  clear hb2
  go_wp2_with fail
  refine bodyPost_ret (v := .tuple #[.agg #[.int .i64 yg, .int .i64 yp, .int .i64 ym, .int .i64 yc, .int .i64 yn, .int .i64 yt], .bool true]) (by simp [results, Tryd.results39, go_sem, snone, rtV, zeroR, k0, k1, k2, k3, k4, k5, hlt3]) rfl ⟨rfl, ?_⟩
  exact (below_set6 Hb02.out (Nat.le_refl _)).alloc (by simp; omega) _
set_option maxRecDepth 100000 in
set_option maxHeartbeats 400000 in
theorem rch_lt (s1 s2 : ByteArray) (w : World) (x y : Rt) (hx : ∀ w, Calls Tryd.prog 37 #[.int .i64 0, .string s1] w fun e w' => e = .returned (.tuple #[.agg (rtV x), .bool true]) ∧ Below w.heap.size w w')
    (hy : ∀ w, Calls Tryd.prog 37 #[.int .i64 1, .string s2] w fun e w' => e = .returned (.tuple #[.agg (rtV y), .bool true]) ∧ Below w.heap.size w w') (h : x.g < y.g) :
    Calls Tryd.prog 39 #[.string s1, .string s2] w fun e w' => e = .returned (.tuple #[.agg (rtV y), .bool true]) ∧ Below w.heap.size w w' := by
  have HX := Lib.hid hx
  have HY := Lib.hid hy
  clear hx hy
  obtain ⟨xg, xp, xm, xc, xn, xt⟩ := x
  obtain ⟨yg, yp, ym, yc, yn, yt⟩ := y
  simp only [rtV] at *
  go_enter Tryd.func39, Tryd.ntmps39
  go_wp2_with fail
  refine (HX.out _).mono ?_
  rintro e w1 ⟨rfl, hb1⟩
  have hB1 := Lib.hid ((Box.new w 47 #[.int .i64 0, .int .i64 0, .int .i64 0, .int .i64 0, .int .i64 0, .int .i64 0]).under hb1)
  have Hb01 := Lib.hid (show Below w.heap.size w w1 from ((Below.refl _ _).alloc (Nat.le_refl _) _).trans (hb1.mono (by simp)))
  have hlt : w.heap.size < w1.heap.size := hB1.out.lt
  clear hb1
  go_wp2_with fail
  refine (HY.out _).mono ?_
  rintro e w2 ⟨rfl, hb2⟩
  have hG1 := Lib.hid ((Box.new w1 47 #[.int .i64 xg, .int .i64 xp, .int .i64 xm, .int .i64 xc, .int .i64 xn, .int .i64 xt]).under hb2)
  have hB2 := Lib.hid ((hB1.out.alloc (.cells #[.int .i64 xg, .int .i64 xp, .int .i64 xm, .int .i64 xc, .int .i64 xn, .int .i64 xt] 47)).under hb2)
  have Hb02 := Lib.hid (show Below w.heap.size w w2 from (Hb01.out.alloc (Nat.le_of_lt hlt) _).trans (hb2.mono (by simp; omega)))
  have hlt2 : w1.heap.size < w2.heap.size := hG1.out.lt
  obtain ⟨⟨k0, k1, k2, k3, k4, k5⟩, ⟨e0, e1, e2, e3, e4, e5⟩⟩ := Tk.Box.six hB2.out
  obtain ⟨⟨m0, m1, m2, m3, m4, m5⟩, ⟨n0, n1, n2, n3, n4, n5⟩⟩ := Tk.Box.six hG1.out
  have hlt3 : w.heap.size < w2.heap.size := by omega
  have hne1 : ¬ w.heap.size = w1.heap.size := by omega
  have hne2 : ¬ w1.heap.size = w.heap.size := by omega
  clear hb2
  go_wp2_with fail
  refine bodyPost_ret (v := .tuple #[.agg #[.int .i64 yg, .int .i64 yp, .int .i64 ym, .int .i64 yc, .int .i64 yn, .int .i64 yt], .bool true]) (by simp [results, Tryd.results39, go_sem, snone, rtV, zeroR, k0, k1, k2, k3, k4, k5, hlt3]) rfl ⟨rfl, ?_⟩
  exact (below_set6 Hb02.out (Nat.le_refl _)).alloc (by simp; omega) _
set_option maxRecDepth 100000 in
set_option maxHeartbeats 400000 in
theorem rch_ge (s1 s2 : ByteArray) (w : World) (x y : Rt) (hx : ∀ w, Calls Tryd.prog 37 #[.int .i64 0, .string s1] w fun e w' => e = .returned (.tuple #[.agg (rtV x), .bool true]) ∧ Below w.heap.size w w')
    (hy : ∀ w, Calls Tryd.prog 37 #[.int .i64 1, .string s2] w fun e w' => e = .returned (.tuple #[.agg (rtV y), .bool true]) ∧ Below w.heap.size w w') (h : y.g ≤ x.g) :
    Calls Tryd.prog 39 #[.string s1, .string s2] w fun e w' => e = .returned (.tuple #[.agg (rtV x), .bool true]) ∧ Below w.heap.size w w' := by
  have HX := Lib.hid hx
  have HY := Lib.hid hy
  clear hx hy
  obtain ⟨xg, xp, xm, xc, xn, xt⟩ := x
  obtain ⟨yg, yp, ym, yc, yn, yt⟩ := y
  simp only [rtV] at *
  go_enter Tryd.func39, Tryd.ntmps39
  go_wp2_with fail
  refine (HX.out _).mono ?_
  rintro e w1 ⟨rfl, hb1⟩
  have hB1 := Lib.hid ((Box.new w 47 #[.int .i64 0, .int .i64 0, .int .i64 0, .int .i64 0, .int .i64 0, .int .i64 0]).under hb1)
  have Hb01 := Lib.hid (show Below w.heap.size w w1 from ((Below.refl _ _).alloc (Nat.le_refl _) _).trans (hb1.mono (by simp)))
  have hlt : w.heap.size < w1.heap.size := hB1.out.lt
  clear hb1
  go_wp2_with fail
  refine (HY.out _).mono ?_
  rintro e w2 ⟨rfl, hb2⟩
  have hG1 := Lib.hid ((Box.new w1 47 #[.int .i64 xg, .int .i64 xp, .int .i64 xm, .int .i64 xc, .int .i64 xn, .int .i64 xt]).under hb2)
  have hB2 := Lib.hid ((hB1.out.alloc (.cells #[.int .i64 xg, .int .i64 xp, .int .i64 xm, .int .i64 xc, .int .i64 xn, .int .i64 xt] 47)).under hb2)
  have Hb02 := Lib.hid (show Below w.heap.size w w2 from (Hb01.out.alloc (Nat.le_of_lt hlt) _).trans (hb2.mono (by simp; omega)))
  have hlt2 : w1.heap.size < w2.heap.size := hG1.out.lt
  obtain ⟨⟨k0, k1, k2, k3, k4, k5⟩, ⟨e0, e1, e2, e3, e4, e5⟩⟩ := Tk.Box.six hB2.out
  obtain ⟨⟨m0, m1, m2, m3, m4, m5⟩, ⟨n0, n1, n2, n3, n4, n5⟩⟩ := Tk.Box.six hG1.out
  have hlt3 : w.heap.size < w2.heap.size := by omega
  have hne1 : ¬ w.heap.size = w1.heap.size := by omega
  have hne2 : ¬ w1.heap.size = w.heap.size := by omega
  clear hb2
  go_wp2_with fail
  refine bodyPost_ret (v := .tuple #[.agg #[.int .i64 xg, .int .i64 xp, .int .i64 xm, .int .i64 xc, .int .i64 xn, .int .i64 xt], .bool true]) (by simp [results, Tryd.results39, go_sem, snone, rtV, zeroR, k0, k1, k2, k3, k4, k5, hlt3]) rfl ⟨rfl, ?_⟩
  exact (below_set6 Hb02.out (Nat.le_refl _)).alloc (by simp; omega) _

theorem rchoose_any (s1 s2 : ByteArray) (w : World) (hm1 : s1.size ≤ maxLen) (hm2 : s2.size ≤ maxLen) :
    Calls Tryd.prog 39 #[.string s1, .string s2] w (ChooseOut s1.data.toList s2.data.toList w) := by
  obtain ⟨x, bx, hx, hx1, hx0⟩ := rstands_pair 0 s1 hm1
  obtain ⟨y, by_, hy, hy1, hy0⟩ := rstands_pair 1 s2 hm2
  cases by_
  · have h0 := (hy0 rfl).1
    cases bx
    · refine (rch_ff s1 s2 w x y hx hy).mono ?_
      rintro e w' ⟨rfl, hb⟩
      refine ⟨hb, .inr ⟨?_, ?_⟩⟩
      · unfold choose
        rw [h0]
        exact (hx0 rfl).1
      · rw [(hx0 rfl).2]
        rfl
    · refine (rch_tf s1 s2 w x y hx hy).mono ?_
      rintro e w' ⟨rfl, hb⟩
      refine ⟨hb, .inl ⟨x, ?_, rfl⟩⟩
      unfold choose
      rw [h0]
      exact hx1 rfl
  · have h1 := hy1 rfl
    have hyg := (stands_ok h1).g1
    cases bx
    · refine (rch_ft s1 s2 w x y hx hy).mono ?_
      rintro e w' ⟨rfl, hb⟩
      refine ⟨hb, .inl ⟨y, ?_, rfl⟩⟩
      unfold choose
      rw [h1, (hx0 rfl).1]
      simp only
      rw [if_pos]
      show (0 : Int) < y.g
      omega
    · by_cases hlt : x.g < y.g
      · refine (rch_lt s1 s2 w x y hx hy hlt).mono ?_
        rintro e w' ⟨rfl, hb⟩
        refine ⟨hb, .inl ⟨y, ?_, rfl⟩⟩
        unfold choose
        rw [h1, hx1 rfl]
        simp only
        rw [if_pos]
        exact hlt
      · refine (rch_ge s1 s2 w x y hx hy (by omega)).mono ?_
        rintro e w' ⟨rfl, hb⟩
        refine ⟨hb, .inl ⟨x, ?_, rfl⟩⟩
        unfold choose
        rw [h1, hx1 rfl]
        simp only
        rw [if_neg]
        exact hlt

end Go.Proofs.YtpgmbpjjefecdaaDoor.Sl
