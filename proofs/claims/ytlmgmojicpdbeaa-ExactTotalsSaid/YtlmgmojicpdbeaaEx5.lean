/- Layer 3: the example that every statement of this layer ends with. -/
import Derived.Test.YtlmgmojicpdbeaaEx4
namespace Go.Proofs.Ytlmgmojicpdbeaa.Ex
open Go.RowKit Base

theorem awake_of : ofFrom 0 0 [5, -3, 2] = some (7, -3) := by decide
theorem awake_fit : fitAll [5, -3, 2] := by
  intro n hn
  simp at hn
  rcases hn with rfl | rfl | rfl <;> decide

set_option maxHeartbeats 400000 in
theorem awake_any (w : World) :
    Calls Try.prog 18 #[] w fun e w' => e = .returned (.bool true) ∧ Below w.heap.size w w' := by
  go_enter Try.func18, Try.ntmps18
  go_wp2_with fail
  have hr : Row (w.alloc (.cells #[.int .i64 5, .int .i64 (-3), .int .i64 2] 2)) (w.alloc (.cells #[.int .i64 5, .int .i64 (-3), .int .i64 2] 2)).heap.size (some ⟨w.heap.size, 0, none⟩) (ints [5, -3, 2]) := by
    refine .inr ⟨w.heap.size, 0, rfl, by simp, fun i v hv => ?_⟩
    rw [(Box.new w 2 #[.int .i64 5, .int .i64 (-3), .int .i64 2]).cell]
    simpa using hv
  have hc := of_any (some ⟨w.heap.size, 0, none⟩) 3 [5, -3, 2] (w.alloc (.cells #[.int .i64 5, .int .i64 (-3), .int .i64 2] 2)) (by decide) awake_fit hr
  rw [awake_of] at hc
  refine hc.mono ?_
  clear hc hr
  rintro e w1 ⟨rfl, hb2⟩
  go_wp2_with fail
  go_ret
  have h0 : Below w.heap.size w (w.alloc (.cells #[.int .i64 5, .int .i64 (-3), .int .i64 2] 2)) := (Below.refl _ _).alloc (Nat.le_refl _) _
  have h1 := h0.trans (hb2.mono (by simp))
  exact ⟨rfl, h1.alloc h1.size _⟩

end Go.Proofs.Ytlmgmojicpdbeaa.Ex
