/- The walk of ChainTakes: it returns true and writes nothing that was there. -/
import Derived.Test.YtlmgmojicpdbeaaCh6
namespace Go.Proofs.Ytlmgmojicpdbeaa.chainTakes
open Go.RowKit Base Crc Ch
set_option linter.unusedVariables false

set_option maxHeartbeats 1000000 in
theorem walk (s0 : ByteArray) (a1 : Int) (w : World) (w0 : s0.size ≤ maxLen) (w1 : (Lit.int .i64 a1).wf = true) :
    Calls Try.prog 9 #[.string s0, .int .i64 a1] w fun e w' => e = .returned (.bool true) ∧ Below w.heap.size w w' := by
  have hb := bounds_i64 w1
  have Hs := Lib.hid w0
  unfold maxLen at w0
  clear w1
  by_cases hl : (1000 : Int) < s0.size
  · go_enter Try.func9, Try.ntmps9
    go_wp2_with fail
    refine (awake_any _).mono ?_
    rintro e w1 ⟨rfl, hb⟩
    go_wp2_with fail
    go_ret
    exact ⟨rfl, hb⟩
  · have hl2 : s0.size ≤ 1000 := by omega
    rcases ht : take? s0.data.toList with _ | ⟨next, l⟩
    · have H1 := Lib.hid (fun w => take_no s0 w Hs.out ht)
      have H2 := Lib.hid (fun w => rtake_no s0 w Hs.out ht)
      have H3 := Lib.hid (fun w => ints_any none none 0 0 [] [] w (by simp) (by simp) (.inl rfl) (.inl rfl))
      clear ht
      go_enter Try.func9, Try.ntmps9
      go_wp2_with fail
      refine (H1.out _).mono ?_
      rintro e w1 ⟨rfl, hb1⟩
      go_wp2_with fail
      refine (H2.out _).mono ?_
      rintro e w2 ⟨rfl, hb2⟩
      go_wp2_with fail
      refine (H3.out _).mono ?_
      rintro e w3 ⟨rfl, hb3⟩
      go_wp2_with fail
      refine (count_any _ _ hb.2).mono ?_
      rintro e w' ⟨rfl, rfl⟩
      go_wp2_with fail
      refine (rcount_any _ _ hb.2).mono ?_
      rintro e w' ⟨rfl, rfl⟩
      go_wp2_with fail
      refine (awake_any _).mono ?_
      rintro e w4 ⟨rfl, hb4⟩
      go_wp2_with fail
      go_ret
      have k2 := hb1.trans (hb2.mono hb1.size)
      have k3 := k2.trans (hb3.mono k2.size)
      exact ⟨rfl, k3.trans (hb4.mono k3.size)⟩
    · have hll : l.length ≤ maxLen := by
        unfold take? at ht
        split at ht
        · injection ht with ht
          injection ht with _ e2
          rw [← e2, pagesTo_len]
          unfold maxLen
          simp
          omega
        · cases ht
      have H1 := Lib.hid (fun w => take_yes s0 next l w ht)
      have H2 := Lib.hid (fun w => rtake_yes s0 next l w ht)
      have Hll := Lib.hid hll
      clear ht hll
      go_enter Try.func9, Try.ntmps9
      go_wp2_with fail
      refine (H1.out _).mono ?_
      rintro e w1 ⟨A1, c1, rfl, hr1, hb1⟩
      go_wp2_with fail
      refine (H2.out _).mono ?_
      rintro e w2 ⟨A2, c2, rfl, hr2, hb2⟩
      have hr1' := (hr1.below hb2).more hb2.size
      go_wp2_with fail
      have hi := ints_any A1 A2 c1 c2 l l w2 Hll.out Hll.out hr1' hr2
      rw [show (l == l) = true by simp] at hi
      refine hi.mono ?_
      clear hi
      rintro e w3 ⟨rfl, hb3⟩
      go_wp2_with fail
      refine (count_any _ _ hb.2).mono ?_
      rintro e w' ⟨rfl, rfl⟩
      go_wp2_with fail
      refine (rcount_any _ _ hb.2).mono ?_
      rintro e w' ⟨rfl, rfl⟩
      go_wp2_with fail
      refine (awake_any _).mono ?_
      rintro e w4 ⟨rfl, hb4⟩
      go_wp2_with fail
      go_ret
      have k2 := hb1.trans (hb2.mono hb1.size)
      have k3 := k2.trans (hb3.mono k2.size)
      exact ⟨rfl, k3.trans (hb4.mono k3.size)⟩

end Go.Proofs.Ytlmgmojicpdbeaa.chainTakes
