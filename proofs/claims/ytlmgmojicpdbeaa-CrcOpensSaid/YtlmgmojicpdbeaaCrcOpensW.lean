/- The walk of CrcOpens: it returns true and writes nothing that was there. -/
import Derived.Test.YtlmgmojicpdbeaaCrc6
namespace Go.Proofs.Ytlmgmojicpdbeaa.crcOpens
open Go.RowKit Base Crc
set_option linter.unusedVariables false

set_option maxHeartbeats 400000 in
theorem walk (s0 : ByteArray) (w : World) (w0 : s0.size ≤ maxLen) :
    Calls Try.prog 10 #[.string s0] w fun e w' => e = .returned (.bool true) ∧ Below w.heap.size w w' := by
  unfold maxLen at w0
  by_cases hl : 1000 < s0.size
  · go_enter Try.func10, Try.ntmps10
    go_wp2_with fail
    refine (awake_any _).mono ?_
    rintro e w1 ⟨rfl, hb⟩
    go_wp2_with fail
    go_ret
    exact ⟨rfl, hb⟩
  · have hm : s0.size ≤ 140737488355328 := by omega
    have hcs : (str (closed s0.data.toList)).size ≤ 140737488355328 := by
      rw [str_size]; simp [closed, tail4]; omega
    have ho := fun w => open_any (str (closed s0.data.toList)) w hcs
    rw [str_list, isClosed_closed, opened_closed, str_of] at ho
    have HO := Lib.hid ho
    clear ho hcs
    go_enter Try.func10, Try.ntmps10
    go_wp2_with fail
    refine (open_any s0 _ hm).mono ?_
    rintro e w1 ⟨rfl, hb1⟩
    go_wp2_with fail
    refine (ropen_any s0 _ hm).mono ?_
    rintro e w2 ⟨rfl, hb2⟩
    have k2 := hb1.trans (hb2.mono hb1.size)
    go_wp2_with fail
    refine (close_any s0 _ hm).mono ?_
    rintro e w3 ⟨rfl, hb3⟩
    have k3 := k2.trans (hb3.mono k2.size)
    go_wp2_with fail
    refine (HO.out _).mono ?_
    rintro e w4 ⟨rfl, hb4⟩
    have k4 := k3.trans (hb4.mono k3.size)
    clear HO hb1 hb2 hb3 hb4 k2 k3
    generalize opened s0.data.toList = O at *
    generalize isClosed s0.data.toList = B at *
    go_wp2_with fail
    refine (awake_any _).mono ?_
    rintro e w5 ⟨rfl, hb5⟩
    go_wp2_with fail
    go_ret
    exact ⟨rfl, k4.trans (hb5.mono k4.size)⟩

end Go.Proofs.Ytlmgmojicpdbeaa.crcOpens
