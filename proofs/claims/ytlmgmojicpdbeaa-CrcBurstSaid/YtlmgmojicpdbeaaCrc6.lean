/- Layer 2: the example that every statement of this layer ends with. -/
import Derived.Test.YtlmgmojicpdbeaaCrc5
import Derived.Test.YtlmgmojicpdbeaaPlain
namespace Go.Proofs.Ytlmgmojicpdbeaa.Crc
open Go.RowKit Base
set_option linter.unusedVariables false

theorem awake_sum : more 0 [49, 50, 51, 52, 53, 54, 55, 56, 57] = 3808858755 := by decide +kernel
theorem of_none (w : World) :
    Calls Try.prog 29 #[.slice none 0 0] w fun e w' => e = .returned (.int .u32 0) ∧ Below w.heap.size w w' := by
  have h := of_any none 0 [] w (by simp) (by simp) (.inl rfl)
  rw [List.flatMap_nil, more_nil] at h
  exact h

set_option maxHeartbeats 400000 in
theorem awake_any (w : World) :
    Calls Try.prog 28 #[] w fun e w' => e = .returned (.bool true) ∧ Below w.heap.size w w' := by
  have h1 := of_new (w.alloc (.cells #[.string ⟨#[49, 50, 51, 52, 53, 54, 55, 56, 57]⟩] 9)) w ⟨#[49, 50, 51, 52, 53, 54, 55, 56, 57]⟩ (by decide +kernel) rfl
  have e : (⟨#[49, 50, 51, 52, 53, 54, 55, 56, 57]⟩ : ByteArray).data.toList = [49, 50, 51, 52, 53, 54, 55, 56, 57] := rfl
  rw [e, awake_sum] at h1
  have H1 := Lib.hid h1
  clear h1 e
  go_enter Try.func28, Try.ntmps28
  go_wp2_with fail
  refine (H1.out).mono ?_
  rintro e w1 ⟨rfl, hb1⟩
  go_wp2_with fail
  refine (of_none _).mono ?_
  rintro e w2 ⟨rfl, hb2⟩
  go_wp2_with fail
  go_ret
  have hk := (((Below.refl w.heap.size w).alloc (Nat.le_refl _) _).trans (hb1.mono (by simp)))
  exact ⟨rfl, hk.trans (hb2.mono hk.size)⟩

end Go.Proofs.Ytlmgmojicpdbeaa.Crc
