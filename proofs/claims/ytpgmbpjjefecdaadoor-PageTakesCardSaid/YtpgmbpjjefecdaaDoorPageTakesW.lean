/- The walk of PageTakes: it returns true and writes nothing that was there. -/
import Derived.Test.YtpgmbpjjefecdaaDoorPg6
namespace Go.Proofs.YtpgmbpjjefecdaaDoor.pageTakes
open Go.RowKit Base Crc Plain Txt Pg
set_option linter.unusedVariables false

set_option maxRecDepth 100000 in
set_option maxHeartbeats 2000000 in
theorem walk (s0 : ByteArray) (w : World) (w0 : s0.size ≤ maxLen) :
    Calls Tryd.prog 4 #[.string s0] w fun e w' => e = .returned (.bool true) ∧ Below w.heap.size w w' := by
  have hm := w0
  unfold maxLen at hm
  by_cases hs : s0.size ≤ 1000
  · rcases hp : isPg s0.data.toList with _ | _
    · have HT := Lib.hid (fun w => take_no s0 w (by omega) hp)
      have HR := Lib.hid (fun w => rtake_no s0 w w0 hp)
      unfold nothing at HT
      unfold rnothing at HR
      clear hp w0
      go_enter Tryd.func4, Tryd.ntmps4
      go_wp2_with fail
      refine (HT.out _).mono ?_
      rintro e w1 ⟨rfl, hb1⟩
      go_wp2_with fail
      refine (HR.out _).mono ?_
      rintro e w2 ⟨rfl, hb2⟩
      go_wp2_with fail
      refine (awake_any _).mono ?_
      rintro e w3 ⟨rfl, hb3⟩
      go_wp2_with fail
      go_ret
      have q2 := hb1.trans (hb2.mono hb1.size)
      exact ⟨by first | rfl | (simp; done), q2.trans (hb3.mono q2.size)⟩
    · have HT := Lib.hid (fun w => take_yes s0 w hp)
      have HR := Lib.hid (fun w => rtake_yes s0 w hp)
      unfold paged at HT
      unfold rpaged at HR
      clear hp w0
      generalize (kindOf s0.data.toList).toNat = x at *
      generalize idxOf s0.data.toList = y at *
      generalize str (bodyOf s0.data.toList) = B at *
      have h1 : ((x : Int) == x) = true := by simp
      have h2 : ((y : Int) == y) = true := by simp
      have h3 : (B.toList == B.toList) = true := by simp
      go_enter Tryd.func4, Tryd.ntmps4
      go_wp2_with fail
      refine (HT.out _).mono ?_
      rintro e w1 ⟨rfl, hb1⟩
      go_wp2_with fail
      refine (HR.out _).mono ?_
      rintro e w2 ⟨rfl, hb2⟩
      go_wp2_with fail
      refine (awake_any _).mono ?_
      rintro e w3 ⟨rfl, hb3⟩
      go_wp2_with fail
      go_ret
      have q2 := hb1.trans (hb2.mono hb1.size)
      exact ⟨by first | rfl | (simp; done), q2.trans (hb3.mono q2.size)⟩
  · clear w0
    go_enter Tryd.func4, Tryd.ntmps4
    go_wp2_with fail
    refine (awake_any _).mono ?_
    rintro e w3 ⟨rfl, hb3⟩
    go_wp2_with fail
    go_ret
    exact ⟨rfl, hb3⟩

end Go.Proofs.YtpgmbpjjefecdaaDoor.pageTakes
