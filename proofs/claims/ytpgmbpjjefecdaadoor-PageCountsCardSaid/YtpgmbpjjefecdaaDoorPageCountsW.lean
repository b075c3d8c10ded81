/- The walk of PageCounts: it returns true and writes nothing that was there. -/
import Derived.Test.YtpgmbpjjefecdaaDoorPg6
namespace Go.Proofs.YtpgmbpjjefecdaaDoor.pageCounts
open Go.RowKit Base Crc Plain Txt Pg
set_option linter.unusedVariables false

theorem sectors_no (p : ByteArray) (w : World) (hm : p.size ≤ 1000) (h : p.size ≠ 256) :
    Calls Tryd.prog 24 #[.string p] w fun e w' => e = .returned (.agg #[.string ⟨#[]⟩, .string ⟨#[]⟩]) ∧ Below w.heap.size w w' := by
  have hn : ((p.size : Int) != 256) = true := by rw [bne_iff_ne]; omega
  go_enter Tryd.func24, Tryd.ntmps24
  go_wp2_with fail
  exact bodyPost_ret (v := .agg #[.string ⟨#[]⟩, .string ⟨#[]⟩]) (by simp [results, Tryd.results24, go_sem]) rfl ⟨rfl, (by repeat (first | exact Below.refl _ _ | assumption | refine Below.drew ?_ | (refine Below.alloc ?_ (by simp <;> omega) _) | (refine Below.setCell ?_ (by simp <;> omega) _)))⟩
set_option maxHeartbeats 1000000 in
theorem sectors_yes (l : List UInt8) (w : World) (h : l.length = 256) :
    Calls Tryd.prog 24 #[.string (str l)] w fun e w' => e = .returned (.agg #[.string (str (l.take 128)), .string (str (l.drop 128))]) ∧ Below w.heap.size w w' := by
  have hn : (((str l).size : Int) != 256) = false := by rw [bne_eq_false_iff_eq]; show ((l.length : Nat) : Int) = 256; omega
  have h1 : ∀ W, (Instr.slice 9 (.string (str l)) none (some (.int .i64 128)) none).run Tryd.prog W = .ok (.string (str (l.take 128))) W := cut_upto l 128 128 rfl (by omega)
  have h2 : ∀ W, (Instr.slice 9 (.string (str l)) (some (.int .i64 128)) none none).run Tryd.prog W = .ok (.string (str (l.drop 128))) W := cut_from l 128 128 rfl (by omega)
  clear h
  generalize str (l.take 128) = X at *
  generalize str (l.drop 128) = Y at *
  generalize str l = p at *
  go_enter Tryd.func24, Tryd.ntmps24
  go_wp2_with fail
  go_region
  all_goals
    go_wp2_with fail
    exact bodyPost_ret (v := .agg #[.string X, .string Y]) (by simp [results, Tryd.results24, go_sem]) rfl ⟨rfl, (by repeat (first | exact Below.refl _ _ | assumption | refine Below.drew ?_ | (refine Below.alloc ?_ (by simp <;> omega) _) | (refine Below.setCell ?_ (by simp <;> omega) _)))⟩

theorem pcount_lo (n : Int) : 0 ≤ pcount n := by
  unfold pcount
  split <;> omega

set_option maxRecDepth 100000 in
set_option maxHeartbeats 4000000 in
theorem rest (a0 : Int) (s1 : ByteArray) (X Y : ByteArray) (w : World) (hw : (Lit.int .i64 a0).wf = true) (hs : s1.size ≤ 1000)
    (HS : ∀ w, Calls Tryd.prog 24 #[.string s1] w fun e w' => e = .returned (.agg #[.string X, .string Y]) ∧ Below w.heap.size w w')
    (hc : s1.size = 256 ∧ (∀ W, (Instr.slice 9 (.string s1) none (some (.int .i64 128)) none).run Tryd.prog W = .ok (.string X) W) ∧ (∀ W, (Instr.slice 9 (.string s1) (some (.int .i64 128)) none none).run Tryd.prog W = .ok (.string Y) W) ∨ s1.size ≠ 256 ∧ X = ⟨#[]⟩ ∧ Y = ⟨#[]⟩) :
    Calls Tryd.prog 6 #[.int .i64 a0, .string s1] w fun e w' => e = .returned (.bool true) ∧ Below w.heap.size w w' := by
  have hw' := bounds_i64 hw
  have Hs := Lib.hid HS
  clear HS hw
  have hxx : (X.toList == X.toList) = true := by simp
  have hyy : (Y.toList == Y.toList) = true := by simp
  have hpp : (pcount a0 == pcount a0) = true := by simp
  have hoo : (pof a0 == pof a0) = true := by simp
  have HC := Lib.hid (fun w => pcount_any a0 w (by omega))
  have HR := Lib.hid (fun w => rpcount_any a0 w (by omega))
  have HO := Lib.hid (fun w => pof_any a0 w)
  have HO' := Lib.hid (fun w => rpof_any a0 w)
  have hF := fun w => pfirst_any a0 w
  have hcase : (0 ≤ a0 ∧ a0 ≤ 2047 ∧ pfirst a0 = 2 + 2 * a0) ∨ (a0 < 0 ∧ pfirst a0 = 0) ∨ (0 ≤ a0 ∧ 2047 < a0 ∧ pfirst a0 = 0) := by
    unfold pfirst
    by_cases hh : a0 < 0
    · exact .inr (.inl ⟨hh, if_pos (.inl hh)⟩)
    · by_cases h2 : 2047 < a0
      · exact .inr (.inr ⟨by omega, h2, if_pos (.inr h2)⟩)
      · exact .inl ⟨by omega, by omega, if_neg (by omega)⟩
  generalize pfirst a0 = r at *
  have HF := Lib.hid hF
  have hrr : (r == r) = true := by simp
  clear hF
  rcases hcase with ⟨c1, c2, c3⟩ | ⟨c1, c3⟩ | ⟨c1, c2, c3⟩
  all_goals
    subst c3
    rcases hc with ⟨h1, h2, h3⟩ | ⟨h1, h2, h3⟩
    · have e1 : ((s1.size : Int) == 256) = true := by simp; omega
      have e2 : ((s1.size : Int) != 256) = false := by rw [bne_eq_false_iff_eq]; omega
      clear h1
      go_enter Tryd.func6, Tryd.ntmps6
      go_wp2_with fail
      refine (Hs.out _).mono ?_
      rintro e w1 ⟨rfl, hb1⟩
      go_wp2_with fail
      go_quiet (fail)
      go_wp2_with fail
      refine (HC.out _).mono ?_
      rintro e w' ⟨rfl, rfl⟩
      go_wp2_with fail
      refine (HR.out _).mono ?_
      rintro e w' ⟨rfl, rfl⟩
      go_wp2_with fail
      refine (HO.out _).mono ?_
      rintro e w' ⟨rfl, rfl⟩
      go_wp2_with fail
      refine (HO'.out _).mono ?_
      rintro e w' ⟨rfl, rfl⟩
      go_wp2_with fail
      refine (HF.out _).mono ?_
      rintro e w' ⟨rfl, rfl⟩
      go_wp2_with fail
      refine (awake_any _).mono ?_
      rintro e w5 ⟨rfl, hb5⟩
      go_wp2_with fail
      go_ret
      refine ⟨by first | rfl | (simp; done), Below.trans (b := (w1.alloc (.cells #[.string X, .string Y] 43)).drewN nq) (below_drewN (hb1.alloc hb1.size _) _) (hb5.mono ?_)⟩
      have := hb1.size
      simp
      omega
    · subst h2 h3
      have hcat : ((⟨#[]⟩ : ByteArray) ++ (⟨#[]⟩ : ByteArray)) = ⟨#[]⟩ := str_app [] []
      have e1 : ((s1.size : Int) == 256) = false := by simp; omega
      have e2 : ((s1.size : Int) != 256) = true := by rw [bne_iff_ne]; omega
      clear h1
      go_enter Tryd.func6, Tryd.ntmps6
      go_wp2_with fail
      refine (Hs.out _).mono ?_
      rintro e w1 ⟨rfl, hb1⟩
      go_wp2_with fail
      go_quiet (fail)
      go_wp2_with fail
      refine (HC.out _).mono ?_
      rintro e w' ⟨rfl, rfl⟩
      go_wp2_with fail
      refine (HR.out _).mono ?_
      rintro e w' ⟨rfl, rfl⟩
      go_wp2_with fail
      refine (HO.out _).mono ?_
      rintro e w' ⟨rfl, rfl⟩
      go_wp2_with fail
      refine (HO'.out _).mono ?_
      rintro e w' ⟨rfl, rfl⟩
      go_wp2_with fail
      refine (HF.out _).mono ?_
      rintro e w' ⟨rfl, rfl⟩
      go_wp2_with fail
      refine (awake_any _).mono ?_
      rintro e w5 ⟨rfl, hb5⟩
      go_wp2_with fail
      go_ret
      refine ⟨by first | rfl | (simp; done), Below.trans (b := (w1.alloc (.cells #[.string ⟨#[]⟩, .string ⟨#[]⟩] 43)).drewN nq) (below_drewN (hb1.alloc hb1.size _) _) (hb5.mono ?_)⟩
      have := hb1.size
      simp
      omega

theorem walk (a0 : Int) (s1 : ByteArray) (w : World) (w0 : (Lit.int .i64 a0).wf = true) (w1 : s1.size ≤ maxLen) :
    Calls Tryd.prog 6 #[.int .i64 a0, .string s1] w fun e w' => e = .returned (.bool true) ∧ Below w.heap.size w w' := by
  by_cases hs : s1.size ≤ 1000
  · by_cases h : s1.size = 256
    · have hl : s1.data.toList.length = 256 := by simpa using h
      refine rest a0 s1 (str (s1.data.toList.take 128)) (str (s1.data.toList.drop 128)) w w0 hs (fun w => ?_) (.inl ⟨h, fun W => ?_, fun W => ?_⟩)
      · have := sectors_yes s1.data.toList w hl
        rw [str_of] at this
        exact this
      · have := cut_upto s1.data.toList 128 128 rfl (by omega) W
        rw [str_of] at this
        exact this
      · have := cut_from s1.data.toList 128 128 rfl (by omega) W
        rw [str_of] at this
        exact this
    · exact rest a0 s1 ⟨#[]⟩ ⟨#[]⟩ w w0 hs (fun w => sectors_no s1 w hs h) (.inr ⟨h, rfl, rfl⟩)
  · clear w0
    unfold maxLen at w1
    go_enter Tryd.func6, Tryd.ntmps6
    go_wp2_with fail
    refine (awake_any _).mono ?_
    rintro e w3 ⟨rfl, hb3⟩
    go_wp2_with fail
    go_ret
    exact ⟨rfl, hb3⟩

end Go.Proofs.YtpgmbpjjefecdaaDoor.pageCounts
