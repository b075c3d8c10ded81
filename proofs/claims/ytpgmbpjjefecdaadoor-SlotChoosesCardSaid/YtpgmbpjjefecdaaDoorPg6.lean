/- Layer 8, sixth part: counts; the chapter's example. -/
import Derived.Test.YtpgmbpjjefecdaaDoorPg5
namespace Go.Proofs.YtpgmbpjjefecdaaDoor.Pg
open Go.RowKit Base Crc Plain Txt
set_option linter.unusedVariables false

theorem ret_i64 {a b : Int} (h : a = b) : Ending.returned (.int .i64 a) = .returned (.int .i64 b) := by rw [h]
def pcount (n : Int) : Int := if n ≤ 0 then 0 else (n - 1) / 246 + 1
theorem pcount_any (n : Int) (w : World) (h1 : n ≤ 9223372036854775807) :
    Calls Tryd.prog 25 #[.int .i64 n] w fun e w' => e = .returned (.int .i64 (pcount n)) ∧ w = w' := by
  unfold pcount
  by_cases h : n ≤ 0
  · rw [if_pos h]
    go_enter Tryd.func25, Tryd.ntmps25
    go_wp2
    go_ret
    exact ⟨rfl, rfl⟩
  · rw [if_neg h]
    have h0 : 0 < n := by omega
    go_enter Tryd.func25, Tryd.ntmps25
    go_wp2
    go_ret
    exact ⟨rfl, rfl⟩
theorem rpcount_any (n : Int) (w : World) (h1 : n ≤ 9223372036854775807) :
    Calls Tryd.prog 23 #[.int .i64 n] w fun e w' => e = .returned (.int .i64 (pcount n)) ∧ w = w' := by
  unfold pcount
  by_cases h : n ≤ 0
  · rw [if_pos h]
    go_enter Tryd.func23, Tryd.ntmps23
    go_wp2
    go_ret
    exact ⟨rfl, rfl⟩
  · rw [if_neg h]
    have h0 : 0 < n := by omega
    go_enter Tryd.func23, Tryd.ntmps23
    go_wp2
    · go_ret
      exact ⟨ret_i64 (by omega), rfl⟩
    · go_ret
      exact ⟨ret_i64 (by omega), rfl⟩
def pof (n : Int) : Int := if n < 16 ∨ 4096 < n then 0 else (n - 2) / 2
theorem pof_any (n : Int) (w : World) :
    Calls Tryd.prog 26 #[.int .i64 n] w fun e w' => e = .returned (.int .i64 (pof n)) ∧ w = w' := by
  unfold pof
  by_cases h : n < 16
  · rw [if_pos (.inl h)]
    go_enter Tryd.func26, Tryd.ntmps26
    go_wp2
    go_ret
    exact ⟨rfl, rfl⟩
  · by_cases h1 : 4096 < n
    · rw [if_pos (.inr h1)]
      go_enter Tryd.func26, Tryd.ntmps26
      go_wp2
      go_ret
      exact ⟨rfl, rfl⟩
    · rw [if_neg (by omega)]
      go_enter Tryd.func26, Tryd.ntmps26
      go_wp2
      go_ret
      exact ⟨rfl, rfl⟩
theorem rpof_any (n : Int) (w : World) :
    Calls Tryd.prog 27 #[.int .i64 n] w fun e w' => e = .returned (.int .i64 (pof n)) ∧ w = w' := by
  unfold pof
  by_cases h : n < 16
  · rw [if_pos (.inl h)]
    go_enter Tryd.func27, Tryd.ntmps27
    go_wp2
    go_ret
    exact ⟨rfl, rfl⟩
  · by_cases h1 : 4096 < n
    · rw [if_pos (.inr h1)]
      go_enter Tryd.func27, Tryd.ntmps27
      go_wp2
      go_ret
      exact ⟨rfl, rfl⟩
    · rw [if_neg (by omega)]
      go_enter Tryd.func27, Tryd.ntmps27
      go_wp2
      go_ret
      exact ⟨rfl, rfl⟩
def pfirst (n : Int) : Int := if n < 0 ∨ 2047 < n then 0 else 2 + 2 * n
theorem pfirst_any (n : Int) (w : World) :
    Calls Tryd.prog 28 #[.int .i64 n] w fun e w' => e = .returned (.int .i64 (pfirst n)) ∧ w = w' := by
  unfold pfirst
  by_cases h : n < 0
  · rw [if_pos (.inl h)]
    go_enter Tryd.func28, Tryd.ntmps28
    go_wp2
    go_ret
    exact ⟨rfl, rfl⟩
  · by_cases h1 : 2047 < n
    · rw [if_pos (.inr h1)]
      go_enter Tryd.func28, Tryd.ntmps28
      go_wp2
      go_ret
      exact ⟨rfl, rfl⟩
    · rw [if_neg (by omega)]
      go_enter Tryd.func28, Tryd.ntmps28
      go_wp2
      go_ret
      exact ⟨rfl, rfl⟩

set_option maxHeartbeats 1000000 in
theorem awake_any (w : World) :
    Calls Tryd.prog 12 #[] w fun e w' => e = .returned (.bool true) ∧ Below w.heap.size w w' := by
  have hP : ∀ w, Calls Tryd.prog 13 #[.int .u8 78, .int .i64 3, .string ⟨#[97, 98]⟩] w fun e w' => e = .returned (.tuple #[.string (str (pg 78 3 [97, 98])), .int .i64 0]) ∧ Below w.heap.size w w' := fun w => put_yes 78 3 ⟨#[97, 98]⟩ w (by decide) (by omega) (by decide)
  obtain ⟨g1, g2, g3, g4⟩ := isPg_pg 78 3 [97, 98] (by decide) (by omega) (by decide)
  have hI : ∀ w, Calls Tryd.prog 16 #[.string (str (pg 78 3 [97, 98])), .int .u8 78, .int .i64 3] w fun e w' => e = .returned (.tuple #[.string ⟨#[97, 98]⟩, .int .i64 0]) ∧ Below w.heap.size w w' := by
    intro w
    have h := is_yes (str (pg 78 3 [97, 98])) 78 3 w (by rw [str_list]; exact g1) (by rw [str_list]; exact g2) (by rw [str_list, g3]; rfl)
    rw [str_list, g4] at h
    exact h
  have hs : (str (pg 78 3 [97, 98])).size = 256 := by rw [str_size]; exact pg_len _ _ _ (by decide)
  have HP := Lib.hid hP
  have HI := Lib.hid hI
  clear hP hI g1 g2 g3 g4
  generalize str (pg 78 3 [97, 98]) = p at *
  go_enter Tryd.func12, Tryd.ntmps12
  go_wp2_with fail
  refine (HP.out _).mono ?_
  rintro e w1 ⟨rfl, hb1⟩
  go_wp2_with fail
  refine (HI.out _).mono ?_
  rintro e w2 ⟨rfl, hb2⟩
  go_wp2_with fail
  refine (pof_any 16 _).mono ?_
  rintro e w' ⟨rfl, rfl⟩
  rw [show pof 16 = 7 by decide]
  go_wp2_with fail
  refine (pfirst_any 1 _).mono ?_
  rintro e w' ⟨rfl, rfl⟩
  rw [show pfirst 1 = 4 by decide]
  go_wp2_with fail
  go_ret
  exact ⟨rfl, hb1.trans (hb2.mono hb1.size)⟩

end Go.Proofs.YtpgmbpjjefecdaaDoor.Pg
