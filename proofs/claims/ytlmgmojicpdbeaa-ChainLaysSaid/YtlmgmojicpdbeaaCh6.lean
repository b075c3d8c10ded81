/- Layer 12: the example that every statement of this layer ends with. -/
import Derived.Test.YtlmgmojicpdbeaaCh5
namespace Go.Proofs.Ytlmgmojicpdbeaa.Ch
open Go.RowKit Base Crc
set_option linter.unusedVariables false

theorem row_one (w : World) (x : Int) : Row (w.alloc (.cells #[.int .i64 x] 3)) (w.alloc (.cells #[.int .i64 x] 3)).heap.size (some ⟨w.heap.size, 0, none⟩) (nums [x]) := by
  refine .inr ⟨w.heap.size, 0, rfl, by simp, fun i v hv => ?_⟩
  rw [(Box.new w 3 #[.int .i64 x]).cell]
  simpa using hv
theorem awake_piece : piece (-1) [5] = [0, 0, 0, 5] := by decide +kernel

set_option maxHeartbeats 400000 in
theorem awake_any (w : World) :
    Calls Try.prog 36 #[] w fun e w' => e = .returned (.bool true) ∧ Below w.heap.size w w' := by
  have h1 := put_yes (-1) (some ⟨w.heap.size, 0, none⟩) 1 [5] _ (by decide) (by decide) (row_one w 5)
  rw [awake_piece] at h1
  have H1 := Lib.hid h1
  have hc : ((str [0, 0, 0, 5]).toList == [0, 0, 0, 5]) = true := by rw [ByteArray.toList_eq]; rfl
  have h2 := fun w => count_any 122 w (by decide)
  rw [show count 122 = 1 by decide] at h2
  have H2 := Lib.hid h2
  clear h1 h2
  generalize str [0, 0, 0, 5] = S at *
  go_enter Try.func36, Try.ntmps36
  go_wp2_with fail
  refine (H1.out).mono ?_
  rintro e w1 ⟨rfl, hb1⟩
  go_wp2_with fail
  refine (H2.out _).mono ?_
  rintro e w' ⟨rfl, rfl⟩
  go_wp2_with fail
  go_ret
  exact ⟨rfl, ((Below.refl w.heap.size w).alloc (Nat.le_refl _) _).trans (hb1.mono (by simp))⟩

end Go.Proofs.Ytlmgmojicpdbeaa.Ch
