/- The walk of ExactSums: it returns true and writes nothing that was there. -/
import Derived.Test.YtlmgmojicpdbeaaEx6
import Derived.Test.YtlmgmojicpdbeaaEx5
import Derived.Test.YtlmgmojicpdbeaaOpen
namespace Go.Proofs.Ytlmgmojicpdbeaa.exactSums
open Go.ChangeShapes Go.WideShapes Go.ChangeAt Go.RowKit Base Ex
open Go.ChangeMaps (open_string shut_string)
set_option linter.unusedVariables false

theorem fit_of {l : List Int} (h : ∀ n ∈ l, (Lit.int .i64 n).wf = true) : fitAll l := fun n hn => by
  have := bounds_i64 (h n hn)
  unfold fit; omega

set_option maxHeartbeats 400000 in
theorem walk (A0 : Option Addr) (l0 : List Int) (c0 : Nat) (w : World) (g0 : l0.length ≤ c0) (m0 : c0 ≤ maxLen) (r0 : Row w w.heap.size A0 (ints l0)) (w0 : ∀ n ∈ l0, (Lit.int .i64 n).wf = true) :
    Calls Try.prog 4 #[.slice A0 l0.length c0] w fun e w' => e = .returned (.bool true) ∧ Below w.heap.size w w' := by
  have Hf := Lib.hid (fit_of w0)
  have Hr := Lib.hid r0
  unfold maxLen at m0
  clear w0 r0
  by_cases hl : 1000 < l0.length
  · go_enter Try.func4, Try.ntmps4
    go_wp2_with fail
    refine (awake_any _).mono ?_
    rintro e w' ⟨rfl, hb⟩
    go_wp2_with fail
    go_ret
    exact ⟨rfl, hb⟩
  · have hl1 : l0.length ≤ 140737488355328 := by omega
    go_enter Try.func4, Try.ntmps4
    go_wp2_with fail
    refine (sum_any A0 c0 l0 _ hl1 Hf.out Hr.out).mono ?_
    rintro e w' ⟨rfl, rfl⟩
    go_wp2_with fail
    refine (rsum_any A0 c0 l0 _ hl1 Hf.out Hr.out).mono ?_
    rintro e w' ⟨rfl, rfl⟩
    go_wp2_with fail
    refine (of_any A0 c0 l0 _ hl1 Hf.out Hr.out).mono ?_
    rintro e w1 ⟨rfl, hb1⟩
    go_wp2_with fail
    have hr2 : Row (w1.alloc (.cells #[.int .i64 ((ofFrom 0 0 l0).getD (0, 0)).1, .int .i64 ((ofFrom 0 0 l0).getD (0, 0)).2] 30)) w.heap.size A0 (ints l0) := Hr.out.below (hb1.alloc hb1.size _)
    have hr3 := hr2.more (B' := (w1.alloc (.cells #[.int .i64 ((ofFrom 0 0 l0).getD (0, 0)).1, .int .i64 ((ofFrom 0 0 l0).getD (0, 0)).2] 30)).heap.size) (by have := hb1.size; simp; omega)
    have hl2 : l0.length ≤ 1000 := by omega
    refine (rof_any A0 c0 l0 _ hl2 Hf.out hr3).mono ?_
    rintro e w2 ⟨rfl, hb2⟩
    have hbx := (Box.new w1 30 #[.int .i64 ((ofFrom 0 0 l0).getD (0, 0)).1, .int .i64 ((ofFrom 0 0 l0).getD (0, 0)).2]).under hb2
    obtain ⟨d0, d1, q0, q1⟩ := hbx.two
    have hb3 : Below w.heap.size w w2 := (hb1.alloc hb1.size _).trans (hb2.mono (by have := hb1.size; simp; omega))
    have hb2s : w1.heap.size < w2.heap.size := by have := hb2.size; simp at this; omega
    clear hr2 hr3 hb2 hbx Hr Hf
    generalize (sumFrom 0 l0).getD 0 = S at *
    generalize (sumFrom 0 l0).isSome = T at *
    generalize ((ofFrom 0 0 l0).getD (0, 0)).1 = P at *
    generalize ((ofFrom 0 0 l0).getD (0, 0)).2 = N at *
    generalize (ofFrom 0 0 l0).isSome = U at *
    go_wp2_with fail
    refine (awake_any _).mono ?_
    rintro e w3 ⟨rfl, hb⟩
    go_wp2_with fail
    go_ret
    exact ⟨rfl, (hb3.alloc hb3.size _).trans (hb.mono (by have := hb3.size; simp; omega))⟩

end Go.Proofs.Ytlmgmojicpdbeaa.exactSums
