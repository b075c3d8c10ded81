/- Rows of texts held against each other: the same texts. -/
import Derived.Test.YtpgmbpjjefecdaaDoorCrc5
namespace Go.Proofs.YtpgmbpjjefecdaaDoor.Plain
open Go.RowKit Base Crc
set_option linter.unusedVariables false

theorem quiet_same {P : Program} {f : FuncId} {args : Array Value} {w : World} {n : Nat} {v : Value}
    (h : Calls P f args (w.drewN n) fun e w' => e = .returned v ∧ w.drewN n = w') : Calls P f args (w.drewN n) fun e w'' => e = .returned v ∧ ∃ m, w'' = w.drewN m :=
  h.mono fun _ _ ⟨he, hm⟩ => ⟨he, n, hm.symm⟩

set_option maxHeartbeats 1000000 in
theorem texts_same (A B : Option Addr) (c d : Nat) (l : List ByteArray) (w : World) (hl : l.length ≤ maxLen) (hr : Row w w.heap.size A (l.map Value.string)) (hs : Row w w.heap.size B (l.map Value.string)) :
    Calls Tryd.prog 21 #[.slice A l.length c, .slice B l.length d] w fun e w' => e = .returned (.bool true) ∧ Below w.heap.size w w' := by
  unfold maxLen at hl
  have Hr := Lib.hid hr
  have Hs := Lib.hid hs
  clear hr hs
  have hne : ((l.length : Int) != (l.length : Int)) = false := by simp
  generalize hN : l.length = n at *
  have Hn := Lib.hid hN
  clear hN
  go_enter Tryd.func21, Tryd.ntmps21
  go_wp2
  go_loopw [13] (fun i wr => ∃ (k : Nat), k ≤ n ∧ i = .int .i64 k ∧ Below w.heap.size w wr) (fun i _ => n - (intOf i).toNat)
  case atStart => exact ⟨0, Nat.zero_le _, rfl, Below.refl _ _⟩
  case round =>
    obtain ⟨k, hk, rfl, hbe⟩ := hrel
    by_cases hkn : k < n
    · have hkl : k < l.length := by rw [Hn.out]; exact hkn
      obtain ⟨b, off, rfl, hb, hc⟩ := (Hr.out.below hbe).at_ (k := k) (by simpa using hkl)
      obtain ⟨b', off', rfl, hb', hc'⟩ := (Hs.out.below hbe).at_ (k := k) (by simpa using hkl)
      rw [List.getElem_map] at hc hc'
      have hi0 : (0 : Int) ≤ (k : Int) := by omega
      have hi1 : (k : Int) < (n : Int) := by omega
      generalize l[k]'hkl = x at *
      have hb2 : (x.toList != x.toList) = false := by simp
      go_wp2
      go_quiet (fail)
      go_wp2
      go_roundw
      case rel => exact ⟨k + 1, by omega, by go_num, below_drewN hbe _⟩
      case measure => simp [intOf]; omega
    · go_wp2
      go_ret
      exact ⟨rfl, hbe⟩

end Go.Proofs.YtpgmbpjjefecdaaDoor.Plain
