/- Layer 9, eighth part: slot.Choose; the chapter's example (gensl8.py prints it). -/
import Derived.Test.YtpgmbpjjefecdaaDoorSl7
namespace Go.Proofs.YtpgmbpjjefecdaaDoor.Sl
open Go.RowKit Base Crc Txt Plain Pg
set_option linter.unusedVariables false
set_option linter.unusedSimpArgs false

/-- the version that counts -/
noncomputable def choose (a b : List UInt8) : Option Rt := match stands 1 b with
  | some y => if ((stands 0 a).getD zeroR).g < y.g then some y else stands 0 a
  | none => stands 0 a
def ChooseOut (a b : List UInt8) (w : World) (e : Ending) (w' : World) : Prop :=
  Below w.heap.size w w' ∧ ((∃ r, choose a b = some r ∧ e = .returned (.tuple #[.agg (rtV r), .bool true])) ∨ (choose a b = none ∧ e = .returned snone))
theorem stands_pair (i : Int) (s : ByteArray) (hm : s.size ≤ maxLen) : ∃ (r : Rt) (b : Bool), (∀ w, Calls Tryd.prog 36 #[.int .i64 i, .string s] w fun e w' => e = .returned (.tuple #[.agg (rtV r), .bool b]) ∧ Below w.heap.size w w') ∧ (b = true → stands i s.data.toList = some r) ∧ (b = false → stands i s.data.toList = none ∧ r = zeroR) := by
  rcases h : stands i s.data.toList with _ | r
  · refine ⟨zeroR, false, fun w => (stands_any i s w hm).mono ?_, (fun h => by cases h), fun _ => ⟨rfl, rfl⟩⟩
    rintro e w' ⟨hb, ⟨r', h', _⟩ | ⟨_, rfl⟩⟩
    · rw [h] at h'; cases h'
    · exact ⟨rfl, hb⟩
  · refine ⟨r, true, fun w => (stands_any i s w hm).mono ?_, fun _ => rfl, (fun h => by cases h)⟩
    rintro e w' ⟨hb, ⟨r', h', rfl⟩ | ⟨h', _⟩⟩
    · rw [h] at h'
      injection h' with h'
      subst h'
      exact ⟨rfl, hb⟩
    · rw [h] at h'; cases h'

set_option maxRecDepth 100000 in
set_option maxHeartbeats 2000000 in
theorem choose_any (s1 s2 : ByteArray) (w : World) (hm1 : s1.size ≤ maxLen) (hm2 : s2.size ≤ maxLen) :
    Calls Tryd.prog 38 #[.string s1, .string s2] w (ChooseOut s1.data.toList s2.data.toList w) := by
  obtain ⟨x, bx, hx, hx1, hx0⟩ := stands_pair 0 s1 hm1
  obtain ⟨y, by_, hy, hy1, hy0⟩ := stands_pair 1 s2 hm2
  have HQ := Lib.hid (show ∀ e w', Below w.heap.size w w' → ((∃ r, choose s1.data.toList s2.data.toList = some r ∧ e = .returned (.tuple #[.agg (rtV r), .bool true])) ∨ (choose s1.data.toList s2.data.toList = none ∧ e = .returned snone)) → ChooseOut s1.data.toList s2.data.toList w e w' from fun e w' a b => ⟨a, b⟩)
  generalize hQ : ChooseOut s1.data.toList s2.data.toList w = Q at *
  have hxg : ((stands 0 s1.data.toList).getD zeroR).g = x.g := by
    cases bx
    · rw [(hx0 rfl).1, (hx0 rfl).2]; rfl
    · rw [hx1 rfl]; rfl
  have HX := Lib.hid hx
  have HY := Lib.hid hy
  have HX1 := Lib.hid hx1
  have HX0 := Lib.hid hx0
  have HY1 := Lib.hid hy1
  have HY0 := Lib.hid hy0
  have Hxg := Lib.hid hxg
  clear hQ hx hy hx1 hx0 hy1 hy0 hxg hm1 hm2
  cases by_
  · have Hch := Lib.hid (show choose s1.data.toList s2.data.toList = stands 0 s1.data.toList by unfold choose; rw [(HY0.out rfl).1])
    cases bx
    · have Hr := Lib.hid (show choose s1.data.toList s2.data.toList = none by rw [Hch.out, (HX0.out rfl).1])
      clear HX1 HX0 HY1 HY0 Hxg Hch
      obtain ⟨xg, xp, xm, xc, xn, xt⟩ := x
      obtain ⟨yg, yp, ym, yc, yn, yt⟩ := y
      simp only [rtV] at *
      go_enter Tryd.func38, Tryd.ntmps38
      go_wp2_with fail
      refine (HX.out _).mono ?_
      rintro e w1 ⟨rfl, hb1⟩
      have hB1 := Lib.hid ((Box.new w 47 #[.int .i64 0, .int .i64 0, .int .i64 0, .int .i64 0, .int .i64 0, .int .i64 0]).under hb1)
      have Hb01 := Lib.hid (show Below w.heap.size w w1 from ((Below.refl _ _).alloc (Nat.le_refl _) _).trans (hb1.mono (by simp)))
      have hlt : w.heap.size < w1.heap.size := hB1.out.lt
      clear hb1
      go_wp2_with fail
      refine (HY.out _).mono ?_
      rintro e w2 ⟨rfl, hb2⟩
      have hG1 := Lib.hid ((Box.new w1 47 #[.int .i64 xg, .int .i64 xp, .int .i64 xm, .int .i64 xc, .int .i64 xn, .int .i64 xt]).under hb2)
      have hB2 := Lib.hid ((hB1.out.alloc (.cells #[.int .i64 xg, .int .i64 xp, .int .i64 xm, .int .i64 xc, .int .i64 xn, .int .i64 xt] 47)).under hb2)
      have Hb02 := Lib.hid (show Below w.heap.size w w2 from (Hb01.out.alloc (Nat.le_of_lt hlt) _).trans (hb2.mono (by simp; omega)))
      have hlt2 : w1.heap.size < w2.heap.size := hG1.out.lt
      obtain ⟨⟨k0, k1, k2, k3, k4, k5⟩, ⟨e0, e1, e2, e3, e4, e5⟩⟩ := Tk.Box.six hB2.out
      obtain ⟨⟨m0, m1, m2, m3, m4, m5⟩, ⟨n0, n1, n2, n3, n4, n5⟩⟩ := Tk.Box.six hG1.out
      have hlt3 : w.heap.size < w2.heap.size := by omega
      have hne1 : ¬ w.heap.size = w1.heap.size := by omega
      have hne2 : ¬ w1.heap.size = w.heap.size := by omega
      clear hb2
      go_wp2_with fail
      refine bodyPost_ret (v := snone) (by simp [results, Tryd.results38, go_sem, snone, rtV, zeroR, k0, k1, k2, k3, k4, k5, hlt3]) rfl (HQ.out _ _ ?_ (.inr ⟨Hr.out, rfl⟩))
      exact (below_set6 Hb02.out (Nat.le_refl _)).alloc (by simp; omega) _
    · have Hr := Lib.hid (show choose s1.data.toList s2.data.toList = some x by rw [Hch.out, HX1.out rfl])
      clear HX1 HX0 HY1 HY0 Hxg Hch
      obtain ⟨xg, xp, xm, xc, xn, xt⟩ := x
      obtain ⟨yg, yp, ym, yc, yn, yt⟩ := y
      simp only [rtV] at *
      go_enter Tryd.func38, Tryd.ntmps38
      go_wp2_with fail
      refine (HX.out _).mono ?_
      rintro e w1 ⟨rfl, hb1⟩
      have hB1 := Lib.hid ((Box.new w 47 #[.int .i64 0, .int .i64 0, .int .i64 0, .int .i64 0, .int .i64 0, .int .i64 0]).under hb1)
      have Hb01 := Lib.hid (show Below w.heap.size w w1 from ((Below.refl _ _).alloc (Nat.le_refl _) _).trans (hb1.mono (by simp)))
      have hlt : w.heap.size < w1.heap.size := hB1.out.lt
      clear hb1
      go_wp2_with fail
      refine (HY.out _).mono ?_
      rintro e w2 ⟨rfl, hb2⟩
      have hG1 := Lib.hid ((Box.new w1 47 #[.int .i64 xg, .int .i64 xp, .int .i64 xm, .int .i64 xc, .int .i64 xn, .int .i64 xt]).under hb2)
      have hB2 := Lib.hid ((hB1.out.alloc (.cells #[.int .i64 xg, .int .i64 xp, .int .i64 xm, .int .i64 xc, .int .i64 xn, .int .i64 xt] 47)).under hb2)
      have Hb02 := Lib.hid (show Below w.heap.size w w2 from (Hb01.out.alloc (Nat.le_of_lt hlt) _).trans (hb2.mono (by simp; omega)))
      have hlt2 : w1.heap.size < w2.heap.size := hG1.out.lt
      obtain ⟨⟨k0, k1, k2, k3, k4, k5⟩, ⟨e0, e1, e2, e3, e4, e5⟩⟩ := Tk.Box.six hB2.out
      obtain ⟨⟨m0, m1, m2, m3, m4, m5⟩, ⟨n0, n1, n2, n3, n4, n5⟩⟩ := Tk.Box.six hG1.out
      have hlt3 : w.heap.size < w2.heap.size := by omega
      have hne1 : ¬ w.heap.size = w1.heap.size := by omega
      have hne2 : ¬ w1.heap.size = w.heap.size := by omega
      clear hb2
      go_wp2_with fail
      refine bodyPost_ret (v := .tuple #[.agg #[.int .i64 xg, .int .i64 xp, .int .i64 xm, .int .i64 xc, .int .i64 xn, .int .i64 xt], .bool true]) (by simp [results, Tryd.results38, go_sem, snone, rtV, zeroR, k0, k1, k2, k3, k4, k5, hlt3]) rfl (HQ.out _ _ ?_ (.inl ⟨_, Hr.out, rfl⟩))
      exact (below_set6 Hb02.out (Nat.le_refl _)).alloc (by simp; omega) _
  · have Hch := Lib.hid (show choose s1.data.toList s2.data.toList = if x.g < y.g then some y else stands 0 s1.data.toList by unfold choose; rw [HY1.out rfl]; simp only; rw [Hxg.out])
    by_cases hgt : x.g < y.g
    · have Hr := Lib.hid (show choose s1.data.toList s2.data.toList = some y by rw [Hch.out, if_pos hgt])
      clear HX1 HX0 HY1 HY0 Hxg Hch
      obtain ⟨xg, xp, xm, xc, xn, xt⟩ := x
      obtain ⟨yg, yp, ym, yc, yn, yt⟩ := y
      simp only [rtV] at *
      go_enter Tryd.func38, Tryd.ntmps38
      go_wp2_with fail
      refine (HX.out _).mono ?_
      rintro e w1 ⟨rfl, hb1⟩
      have hB1 := Lib.hid ((Box.new w 47 #[.int .i64 0, .int .i64 0, .int .i64 0, .int .i64 0, .int .i64 0, .int .i64 0]).under hb1)
      have Hb01 := Lib.hid (show Below w.heap.size w w1 from ((Below.refl _ _).alloc (Nat.le_refl _) _).trans (hb1.mono (by simp)))
      have hlt : w.heap.size < w1.heap.size := hB1.out.lt
      clear hb1
      go_wp2_with fail
      refine (HY.out _).mono ?_
      rintro e w2 ⟨rfl, hb2⟩
      have hG1 := Lib.hid ((Box.new w1 47 #[.int .i64 xg, .int .i64 xp, .int .i64 xm, .int .i64 xc, .int .i64 xn, .int .i64 xt]).under hb2)
      have hB2 := Lib.hid ((hB1.out.alloc (.cells #[.int .i64 xg, .int .i64 xp, .int .i64 xm, .int .i64 xc, .int .i64 xn, .int .i64 xt] 47)).under hb2)
      have Hb02 := Lib.hid (show Below w.heap.size w w2 from (Hb01.out.alloc (Nat.le_of_lt hlt) _).trans (hb2.mono (by simp; omega)))
      have hlt2 : w1.heap.size < w2.heap.size := hG1.out.lt
      obtain ⟨⟨k0, k1, k2, k3, k4, k5⟩, ⟨e0, e1, e2, e3, e4, e5⟩⟩ := Tk.Box.six hB2.out
      obtain ⟨⟨m0, m1, m2, m3, m4, m5⟩, ⟨n0, n1, n2, n3, n4, n5⟩⟩ := Tk.Box.six hG1.out
      have hlt3 : w.heap.size < w2.heap.size := by omega
      have hne1 : ¬ w.heap.size = w1.heap.size := by omega
      have hne2 : ¬ w1.heap.size = w.heap.size := by omega
      clear hb2
      go_wp2_with fail
      refine bodyPost_ret (v := .tuple #[.agg #[.int .i64 yg, .int .i64 yp, .int .i64 ym, .int .i64 yc, .int .i64 yn, .int .i64 yt], .bool true]) (by simp [results, Tryd.results38, go_sem, snone, rtV, zeroR, k0, k1, k2, k3, k4, k5, hlt3]) rfl (HQ.out _ _ ?_ (.inl ⟨_, Hr.out, rfl⟩))
      exact (below_set6 Hb02.out (Nat.le_refl _)).alloc (by simp; omega) _
    · cases bx
      · have Hr := Lib.hid (show choose s1.data.toList s2.data.toList = none by rw [Hch.out, if_neg hgt, (HX0.out rfl).1])
        clear HX1 HX0 HY1 HY0 Hxg Hch
        obtain ⟨xg, xp, xm, xc, xn, xt⟩ := x
        obtain ⟨yg, yp, ym, yc, yn, yt⟩ := y
        simp only [rtV] at *
        go_enter Tryd.func38, Tryd.ntmps38
        go_wp2_with fail
        refine (HX.out _).mono ?_
        rintro e w1 ⟨rfl, hb1⟩
        have hB1 := Lib.hid ((Box.new w 47 #[.int .i64 0, .int .i64 0, .int .i64 0, .int .i64 0, .int .i64 0, .int .i64 0]).under hb1)
        have Hb01 := Lib.hid (show Below w.heap.size w w1 from ((Below.refl _ _).alloc (Nat.le_refl _) _).trans (hb1.mono (by simp)))
        have hlt : w.heap.size < w1.heap.size := hB1.out.lt
        clear hb1
        go_wp2_with fail
        refine (HY.out _).mono ?_
        rintro e w2 ⟨rfl, hb2⟩
        have hG1 := Lib.hid ((Box.new w1 47 #[.int .i64 xg, .int .i64 xp, .int .i64 xm, .int .i64 xc, .int .i64 xn, .int .i64 xt]).under hb2)
        have hB2 := Lib.hid ((hB1.out.alloc (.cells #[.int .i64 xg, .int .i64 xp, .int .i64 xm, .int .i64 xc, .int .i64 xn, .int .i64 xt] 47)).under hb2)
        have Hb02 := Lib.hid (show Below w.heap.size w w2 from (Hb01.out.alloc (Nat.le_of_lt hlt) _).trans (hb2.mono (by simp; omega)))
        have hlt2 : w1.heap.size < w2.heap.size := hG1.out.lt
        obtain ⟨⟨k0, k1, k2, k3, k4, k5⟩, ⟨e0, e1, e2, e3, e4, e5⟩⟩ := Tk.Box.six hB2.out
        obtain ⟨⟨m0, m1, m2, m3, m4, m5⟩, ⟨n0, n1, n2, n3, n4, n5⟩⟩ := Tk.Box.six hG1.out
        have hlt3 : w.heap.size < w2.heap.size := by omega
        have hne1 : ¬ w.heap.size = w1.heap.size := by omega
        have hne2 : ¬ w1.heap.size = w.heap.size := by omega
        clear hb2
        go_wp2_with fail
        refine bodyPost_ret (v := snone) (by simp [results, Tryd.results38, go_sem, snone, rtV, zeroR, k0, k1, k2, k3, k4, k5, hlt3]) rfl (HQ.out _ _ ?_ (.inr ⟨Hr.out, rfl⟩))
        exact (below_set6 Hb02.out (Nat.le_refl _)).alloc (by simp; omega) _
      · have Hr := Lib.hid (show choose s1.data.toList s2.data.toList = some x by rw [Hch.out, if_neg hgt, HX1.out rfl])
        clear HX1 HX0 HY1 HY0 Hxg Hch
        obtain ⟨xg, xp, xm, xc, xn, xt⟩ := x
        obtain ⟨yg, yp, ym, yc, yn, yt⟩ := y
        simp only [rtV] at *
        go_enter Tryd.func38, Tryd.ntmps38
        go_wp2_with fail
        refine (HX.out _).mono ?_
        rintro e w1 ⟨rfl, hb1⟩
        have hB1 := Lib.hid ((Box.new w 47 #[.int .i64 0, .int .i64 0, .int .i64 0, .int .i64 0, .int .i64 0, .int .i64 0]).under hb1)
        have Hb01 := Lib.hid (show Below w.heap.size w w1 from ((Below.refl _ _).alloc (Nat.le_refl _) _).trans (hb1.mono (by simp)))
        have hlt : w.heap.size < w1.heap.size := hB1.out.lt
        clear hb1
        go_wp2_with fail
        refine (HY.out _).mono ?_
        rintro e w2 ⟨rfl, hb2⟩
        have hG1 := Lib.hid ((Box.new w1 47 #[.int .i64 xg, .int .i64 xp, .int .i64 xm, .int .i64 xc, .int .i64 xn, .int .i64 xt]).under hb2)
        have hB2 := Lib.hid ((hB1.out.alloc (.cells #[.int .i64 xg, .int .i64 xp, .int .i64 xm, .int .i64 xc, .int .i64 xn, .int .i64 xt] 47)).under hb2)
        have Hb02 := Lib.hid (show Below w.heap.size w w2 from (Hb01.out.alloc (Nat.le_of_lt hlt) _).trans (hb2.mono (by simp; omega)))
        have hlt2 : w1.heap.size < w2.heap.size := hG1.out.lt
        obtain ⟨⟨k0, k1, k2, k3, k4, k5⟩, ⟨e0, e1, e2, e3, e4, e5⟩⟩ := Tk.Box.six hB2.out
        obtain ⟨⟨m0, m1, m2, m3, m4, m5⟩, ⟨n0, n1, n2, n3, n4, n5⟩⟩ := Tk.Box.six hG1.out
        have hlt3 : w.heap.size < w2.heap.size := by omega
        have hne1 : ¬ w.heap.size = w1.heap.size := by omega
        have hne2 : ¬ w1.heap.size = w.heap.size := by omega
        clear hb2
        go_wp2_with fail
        refine bodyPost_ret (v := .tuple #[.agg #[.int .i64 xg, .int .i64 xp, .int .i64 xm, .int .i64 xc, .int .i64 xn, .int .i64 xt], .bool true]) (by simp [results, Tryd.results38, go_sem, snone, rtV, zeroR, k0, k1, k2, k3, k4, k5, hlt3]) rfl (HQ.out _ _ ?_ (.inl ⟨_, Hr.out, rfl⟩))
        exact (below_set6 Hb02.out (Nat.le_refl _)).alloc (by simp; omega) _

def exR : Rt := ⟨3, 1, 0, 9, 0, 0⟩
theorem exOk : Ok exR := ⟨by decide, by decide, by decide, by decide, by decide, by decide, by decide, by decide, by decide, by decide, by decide, by decide⟩
theorem place3 : placeOf 3 = 1 := by rw [place_mod 3 (by decide)]; rfl
theorem stake_nil : stake [] = none := stake_form (fun h => by have := h.1; simp at this)

end Go.Proofs.YtpgmbpjjefecdaaDoor.Sl
