/- Layer 9: the document's Stands (gensl29.py prints it). -/
import Derived.Test.YtpgmbpjjefecdaaDoorSl28
namespace Go.Proofs.YtpgmbpjjefecdaaDoor.Sl
open Go.RowKit Base Crc Txt Plain Pg
set_option linter.unusedVariables false
set_option linter.unusedSimpArgs false

set_option maxRecDepth 100000 in
set_option maxHeartbeats 1000000 in
theorem rstands_any (i : Int) (s : ByteArray) (w : World) (hm : s.size ≤ maxLen) :
    Calls Tryd.prog 37 #[.int .i64 i, .string s] w (StandOut i s.data.toList w) := by
  have HQ := Lib.hid (show ∀ e w', Below w.heap.size w w' → ((∃ r, stands i s.data.toList = some r ∧ e = .returned (.tuple #[.agg (rtV r), .bool true])) ∨ (stands i s.data.toList = none ∧ e = .returned snone)) → StandOut i s.data.toList w e w' from fun e w' a b => ⟨a, b⟩)
  generalize hQ : StandOut i s.data.toList w = Q at *
  clear hQ
  have HT0 := fun w => rtake9_any s w hm
  rcases hst : stake s.data.toList with _ | r
  · have HT := Lib.hid (show ∀ w, Calls Tryd.prog 35 #[.string s] w fun e w' => e = .returned snone ∧ Below w.heap.size w w' from fun w => (HT0 w).mono (by
      rintro e w' ⟨hb, ⟨r, h, _⟩ | ⟨_, rfl⟩⟩
      · rw [hst] at h; cases h
      · exact ⟨rfl, hb⟩))
    have Hn := Lib.hid (show stands i s.data.toList = none by unfold stands; rw [hst])
    unfold snone zeroR at HT
    simp only [rtV] at HT
    clear hst hm HT0
    go_enter Tryd.func37, Tryd.ntmps37
    go_wp2_with fail
    refine (HT.out _).mono ?_
    rintro e w1 ⟨rfl, hb1⟩
    have hB1 := Lib.hid ((Box.new w 47 #[.int .i64 0, .int .i64 0, .int .i64 0, .int .i64 0, .int .i64 0, .int .i64 0]).under hb1)
    obtain ⟨⟨k0, k1, k2, k3, k4, k5⟩, ⟨e0, e1, e2, e3, e4, e5⟩⟩ := Tk.Box.six hB1.out
    have Hb01 := Lib.hid (show Below w.heap.size w w1 from ((Below.refl _ _).alloc (Nat.le_refl _) _).trans (hb1.mono (by simp)))
    have hlt : w.heap.size < w1.heap.size := hB1.out.lt
    clear hb1
    go_wp2_with fail
    refine bodyPost_ret (v := snone) (by simp [results, Tryd.results37, go_sem, snone, rtV, zeroR, k0, k1, k2, k3, k4, k5, hlt]) rfl (HQ.out _ _ ?_ (.inr ⟨Hn.out, rfl⟩))
    have q := Hb01.out
    exact (below_set6 q (Nat.le_refl _)).alloc (by simp; omega) _
  · have HT := Lib.hid (show ∀ w, Calls Tryd.prog 35 #[.string s] w fun e w' => e = .returned (.tuple #[.agg (rtV r), .bool true]) ∧ Below w.heap.size w w' from fun w => (HT0 w).mono (by
      rintro e w' ⟨hb, ⟨r', h, rfl⟩ | ⟨h, _⟩⟩
      · rw [hst] at h
        injection h with h
        subst h
        exact ⟨rfl, hb⟩
      · rw [hst] at h; cases h))
    have hok := stake_ok hst
    have hg1 : 1 ≤ r.g := hok.g1
    have hpm : placeOf r.g = r.g % 2 := place_mod _ (WalkArith.wf_i64 (by have := hok.g2; omega))
    have Hy := Lib.hid (show r.g % 2 = i → stands i s.data.toList = some r by intro h; unfold stands; rw [hst]; exact if_pos (by rw [hpm]; exact h))
    have Hn := Lib.hid (show r.g % 2 ≠ i → stands i s.data.toList = none by intro h; unfold stands; rw [hst]; exact if_neg (by rw [hpm]; exact h))
    obtain ⟨g, p, m, c, n, t⟩ := r
    simp only [rtV] at *
    clear hst hm HT0 hok hpm
    by_cases hpl : g % 2 = i
    · have hne : (g % 2 != i) = false := by simpa using hpl
      have Hy' := Lib.hid (Hy.out hpl)
      clear hpl
      go_enter Tryd.func37, Tryd.ntmps37
      go_wp2_with fail
      refine (HT.out _).mono ?_
      rintro e w1 ⟨rfl, hb1⟩
      have hB1 := Lib.hid ((Box.new w 47 #[.int .i64 0, .int .i64 0, .int .i64 0, .int .i64 0, .int .i64 0, .int .i64 0]).under hb1)
      obtain ⟨⟨k0, k1, k2, k3, k4, k5⟩, ⟨e0, e1, e2, e3, e4, e5⟩⟩ := Tk.Box.six hB1.out
      have Hb01 := Lib.hid (show Below w.heap.size w w1 from ((Below.refl _ _).alloc (Nat.le_refl _) _).trans (hb1.mono (by simp)))
      have hlt : w.heap.size < w1.heap.size := hB1.out.lt
      clear hb1
      go_wp2_with fail
      refine bodyPost_ret (v := .tuple #[.agg #[.int .i64 g, .int .i64 p, .int .i64 m, .int .i64 c, .int .i64 n, .int .i64 t], .bool true]) (by simp [results, Tryd.results37, go_sem, k0, k1, k2, k3, k4, k5, hlt]) rfl (HQ.out _ _ ?_ (.inl ⟨_, Hy'.out, rfl⟩))
      have q := Hb01.out
      exact (below_set6 q (Nat.le_refl _)).alloc (by simp; omega) _
    · have hne : (g % 2 != i) = true := by simpa using hpl
      have Hn' := Lib.hid (Hn.out hpl)
      clear hpl
      go_enter Tryd.func37, Tryd.ntmps37
      go_wp2_with fail
      refine (HT.out _).mono ?_
      rintro e w1 ⟨rfl, hb1⟩
      have hB1 := Lib.hid ((Box.new w 47 #[.int .i64 0, .int .i64 0, .int .i64 0, .int .i64 0, .int .i64 0, .int .i64 0]).under hb1)
      obtain ⟨⟨k0, k1, k2, k3, k4, k5⟩, ⟨e0, e1, e2, e3, e4, e5⟩⟩ := Tk.Box.six hB1.out
      have Hb01 := Lib.hid (show Below w.heap.size w w1 from ((Below.refl _ _).alloc (Nat.le_refl _) _).trans (hb1.mono (by simp)))
      have hlt : w.heap.size < w1.heap.size := hB1.out.lt
      clear hb1
      go_wp2_with fail
      refine bodyPost_ret (v := snone) (by simp [results, Tryd.results37, go_sem, snone, rtV, zeroR, k0, k1, k2, k3, k4, k5, hlt]) rfl (HQ.out _ _ ?_ (.inr ⟨Hn'.out, rfl⟩))
      have q := Hb01.out
      exact (below_set6 q (Nat.le_refl _)).alloc (by simp; omega) _

theorem rstands_pair (i : Int) (s : ByteArray) (hm : s.size ≤ maxLen) : ∃ (r : Rt) (b : Bool), (∀ w, Calls Tryd.prog 37 #[.int .i64 i, .string s] w fun e w' => e = .returned (.tuple #[.agg (rtV r), .bool b]) ∧ Below w.heap.size w w') ∧ (b = true → stands i s.data.toList = some r) ∧ (b = false → stands i s.data.toList = none ∧ r = zeroR) := by
  rcases h : stands i s.data.toList with _ | r
  · refine ⟨zeroR, false, fun w => (rstands_any i s w hm).mono ?_, (fun h => by cases h), fun _ => ⟨rfl, rfl⟩⟩
    rintro e w' ⟨hb, ⟨r', h', _⟩ | ⟨_, rfl⟩⟩
    · rw [h] at h'; cases h'
    · exact ⟨rfl, hb⟩
  · refine ⟨r, true, fun w => (rstands_any i s w hm).mono ?_, fun _ => rfl, (fun h => by cases h)⟩
    rintro e w' ⟨hb, ⟨r', h', rfl⟩ | ⟨h', _⟩⟩
    · rw [h] at h'
      injection h' with h'
      subst h'
      exact ⟨rfl, hb⟩
    · rw [h] at h'; cases h'
theorem stands_ok {i : Int} {l : List UInt8} {r : Rt} (h : stands i l = some r) : Ok r := by
  unfold stands at h
  rcases hst : stake l with _ | x
  · rw [hst] at h; cases h
  · rw [hst] at h
    simp only at h
    split at h
    · injection h with h
      subst h
      exact stake_ok hst
    · cases h

end Go.Proofs.YtpgmbpjjefecdaaDoor.Sl
