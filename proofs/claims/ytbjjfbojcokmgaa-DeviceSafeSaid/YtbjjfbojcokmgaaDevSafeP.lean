/- DeviceSafe, walked: the short ways. -/
import Derived.Test.YtbjjfbojcokmgaaSf2
namespace Go.Proofs.Ytbjjfbojcokmgaa.deviceSafe
open Go.RowKit Base Dv
set_option linter.unusedVariables false
set_option linter.unusedSimpArgs false

def Says (w : World) (e : Ending) (w' : World) : Prop := e = .returned (.bool true) ∧ Below w.heap.size w w'
section
variable (A1 A2 A3 : Option Addr) (n1 n2 n3 c1 c2 c3 : Nat) (torn bytes : Int) (w : World)
set_option maxRecDepth 100000 in
set_option maxHeartbeats 1000000 in
theorem safe_many1 (H : Calls Try.prog 7 #[.slice A1 n1 c1] w fun e w' => e = .returned (.bool false) ∧ Below w.heap.size w w') :
    Calls Try.prog 3 #[.slice A1 n1 c1, .slice A2 n2 c2, .slice A3 n3 c3, .int .i64 torn, .int .i64 bytes] w (Says w) := by
  have HW := Lib.hid Dv.awake_any
  have HF := Lib.hid H
  have HQ := Lib.hid (show ∀ w', Below w.heap.size w w' → Says w (.returned (.bool true)) w' from fun w' h => ⟨rfl, h⟩)
  clear H
  generalize hQ : Says w = Q at *
  clear hQ
  go_enter Try.func3, Try.ntmps3
  go_wp2_with fail
  refine HF.out.mono ?_
  rintro e w1 ⟨rfl, hb1⟩
  have Hb1 := Lib.hid hb1
  clear hb1
  go_wp2_with fail
  refine (HW.out _).mono ?_
  rintro e w2 ⟨rfl, hb2⟩
  go_wp2_with fail
  exact HQ.out _ (Hb1.out.trans (hb2.mono Hb1.out.size))
set_option maxRecDepth 100000 in
set_option maxHeartbeats 1000000 in
theorem safe_many2 (H : Calls Try.prog 7 #[.slice A1 n1 c1] w fun e w' => e = .returned (.bool true) ∧ Below w.heap.size w w')
    (H2 : ∀ W, Below w.heap.size w W → Calls Try.prog 7 #[.slice A2 n2 c2] W fun e w' => e = .returned (.bool false) ∧ Below W.heap.size W w') :
    Calls Try.prog 3 #[.slice A1 n1 c1, .slice A2 n2 c2, .slice A3 n3 c3, .int .i64 torn, .int .i64 bytes] w (Says w) := by
  have HW := Lib.hid Dv.awake_any
  have HF := Lib.hid H
  have HF2 := Lib.hid H2
  have HQ := Lib.hid (show ∀ w', Below w.heap.size w w' → Says w (.returned (.bool true)) w' from fun w' h => ⟨rfl, h⟩)
  clear H H2
  generalize hQ : Says w = Q at *
  clear hQ
  go_enter Try.func3, Try.ntmps3
  go_wp2_with fail
  refine HF.out.mono ?_
  rintro e w1 ⟨rfl, hb1⟩
  have Hb1 := Lib.hid hb1
  clear hb1
  go_wp2_with fail
  refine (HF2.out _ Hb1.out).mono ?_
  rintro e w2 ⟨rfl, hb2⟩
  have Hb2 := Lib.hid (Hb1.out.trans (hb2.mono Hb1.out.size))
  clear hb2
  go_wp2_with fail
  refine (HW.out _).mono ?_
  rintro e w3 ⟨rfl, hb3⟩
  go_wp2_with fail
  exact HQ.out _ (Hb2.out.trans (hb3.mono Hb2.out.size))
set_option maxRecDepth 100000 in
set_option maxHeartbeats 1000000 in
theorem safe_many3 (hn : 100 < n3) (hm : n3 ≤ 9223372036854775807) (H : Calls Try.prog 7 #[.slice A1 n1 c1] w fun e w' => e = .returned (.bool true) ∧ Below w.heap.size w w')
    (H2 : ∀ W, Below w.heap.size w W → Calls Try.prog 7 #[.slice A2 n2 c2] W fun e w' => e = .returned (.bool true) ∧ Below W.heap.size W w') :
    Calls Try.prog 3 #[.slice A1 n1 c1, .slice A2 n2 c2, .slice A3 n3 c3, .int .i64 torn, .int .i64 bytes] w (Says w) := by
  have HW := Lib.hid Dv.awake_any
  have HF := Lib.hid H
  have HF2 := Lib.hid H2
  have HQ := Lib.hid (show ∀ w', Below w.heap.size w w' → Says w (.returned (.bool true)) w' from fun w' h => ⟨rfl, h⟩)
  have hd : decide ((100 : Int) < (n3 : Int)) = true := by simp; omega
  clear H H2 hn hm
  generalize hQ : Says w = Q at *
  clear hQ
  go_enter Try.func3, Try.ntmps3
  go_wp2_with fail
  refine HF.out.mono ?_
  rintro e w1 ⟨rfl, hb1⟩
  have Hb1 := Lib.hid hb1
  clear hb1
  go_wp2_with fail
  refine (HF2.out _ Hb1.out).mono ?_
  rintro e w2 ⟨rfl, hb2⟩
  have Hb2 := Lib.hid (Hb1.out.trans (hb2.mono Hb1.out.size))
  clear hb2
  go_wp2_with fail
  refine (HW.out _).mono ?_
  rintro e w3 ⟨rfl, hb3⟩
  go_wp2_with fail
  exact HQ.out _ (Hb2.out.trans (hb3.mono Hb2.out.size))
end
end Go.Proofs.Ytbjjfbojcokmgaa.deviceSafe
