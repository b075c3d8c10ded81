/- The walk of ChainPuts: it returns true and writes nothing that was there. -/
import Derived.Test.YtlmgmojicpdbeaaCh6
namespace Go.Proofs.Ytlmgmojicpdbeaa.chainPuts
open Go.RowKit Base Crc Ch
set_option linter.unusedVariables false

set_option maxHeartbeats 1000000 in
theorem walk (a0 : Int) (A1 : Option Addr) (l1 : List Int) (c1 : Nat) (w : World) (w0 : (Lit.int .i64 a0).wf = true) (g1 : l1.length ≤ c1) (m1 : c1 ≤ maxLen) (r1 : Row w w.heap.size A1 (l1.map (.int .i64))) (w1 : ∀ n ∈ l1, (Lit.int .i64 n).wf = true) :
    Calls Try.prog 8 #[.int .i64 a0, .slice A1 l1.length c1] w fun e w' => e = .returned (.bool true) ∧ Below w.heap.size w w' := by
  have hb := bounds_i64 w0
  have hlm : l1.length ≤ maxLen := by omega
  have Hlm := Lib.hid hlm
  have Hr := Lib.hid r1
  unfold maxLen at m1 hlm
  clear w0 w1 r1
  by_cases hl : (200 : Int) < l1.length
  · generalize l1.length = n at *
    go_enter Try.func8, Try.ntmps8
    go_wp2_with fail
    refine (awake_any _).mono ?_
    rintro e w1 ⟨rfl, hb⟩
    go_wp2_with fail
    go_ret
    exact ⟨rfl, hb⟩
  · by_cases hw : wrong a0 l1 = 0
    · have H1 := Lib.hid (fun w hr => put_yes a0 A1 c1 l1 w hb.1 hw hr)
      have hwr := fun w hr => wrong_any a0 A1 c1 l1 w Hlm.out hr
      rw [hw] at hwr
      have H2 := Lib.hid hwr
      have H3 := Lib.hid (fun w hr => rput_any a0 A1 c1 l1 w hb.1 hw hr)
      have ht := take_piece a0 l1 hw
      have ht' : take? (str (piece a0 l1)).data.toList = some (max a0 (-1), l1) := ht
      have H4' := Lib.hid (fun w => take_yes (str (piece a0 l1)) (max a0 (-1)) l1 w ht')
      clear hwr hw ht ht'
      generalize str (piece a0 l1) = S at *
      generalize hN : l1.length = n at *
      have Hn := Lib.hid hN
      clear hN
      by_cases hmx : a0 < -1
      · rw [show max a0 (-1) = -1 by omega] at H4'
        have H4 := H4'
        clear H4'
        go_enter Try.func8, Try.ntmps8
        go_wp2_with fail
        refine (H1.out _ Hr.out).mono ?_
        rintro e w1 ⟨rfl, hb1⟩
        have r1 := (Hr.out.below hb1).more hb1.size
        go_wp2_with fail
        refine (H2.out _ r1).mono ?_
        rintro e w' ⟨rfl, rfl⟩
        go_wp2_with fail
        refine (H4.out _).mono ?_
        rintro e w2 ⟨A2, c2, rfl, hr2, hb2⟩
        rw [Hn.out]
        have r2 := (r1.below hb2).more hb2.size
        clear r1
        go_wp2_with fail
        refine (H3.out _ r2).mono ?_
        rintro e w3 ⟨rfl, hb3⟩
        have r3 := (r2.below hb3).more hb3.size
        have r4 := (hr2.below hb3).more hb3.size
        clear r2 hr2
        have hi := ints_any A2 A1 c2 c1 l1 l1 w3 (by rw [Hn.out]; exact Hlm.out) (by rw [Hn.out]; exact Hlm.out) r4 r3
        rw [show (l1 == l1) = true by simp, Hn.out] at hi
        have HI := Lib.hid hi
        clear hi r3 r4
        go_wp2_with fail
        refine (HI.out).mono ?_
        rintro e w4 ⟨rfl, hb4⟩
        go_wp2_with fail
        refine (awake_any _).mono ?_
        rintro e w5 ⟨rfl, hb5⟩
        go_wp2_with fail
        go_ret
        have k2 := hb1.trans (hb2.mono hb1.size)
        have k3 := k2.trans (hb3.mono k2.size)
        have k4 := k3.trans (hb4.mono k3.size)
        exact ⟨rfl, k4.trans (hb5.mono k4.size)⟩
      · rw [show max a0 (-1) = a0 by omega] at H4'
        have H4 := H4'
        clear H4'
        go_enter Try.func8, Try.ntmps8
        go_wp2_with fail
        refine (H1.out _ Hr.out).mono ?_
        rintro e w1 ⟨rfl, hb1⟩
        have r1 := (Hr.out.below hb1).more hb1.size
        go_wp2_with fail
        refine (H2.out _ r1).mono ?_
        rintro e w' ⟨rfl, rfl⟩
        go_wp2_with fail
        refine (H4.out _).mono ?_
        rintro e w2 ⟨A2, c2, rfl, hr2, hb2⟩
        rw [Hn.out]
        have r2 := (r1.below hb2).more hb2.size
        clear r1
        go_wp2_with fail
        refine (H3.out _ r2).mono ?_
        rintro e w3 ⟨rfl, hb3⟩
        have r3 := (r2.below hb3).more hb3.size
        have r4 := (hr2.below hb3).more hb3.size
        clear r2 hr2
        have hi := ints_any A2 A1 c2 c1 l1 l1 w3 (by rw [Hn.out]; exact Hlm.out) (by rw [Hn.out]; exact Hlm.out) r4 r3
        rw [show (l1 == l1) = true by simp, Hn.out] at hi
        have HI := Lib.hid hi
        clear hi r3 r4
        go_wp2_with fail
        refine (HI.out).mono ?_
        rintro e w4 ⟨rfl, hb4⟩
        go_wp2_with fail
        refine (awake_any _).mono ?_
        rintro e w5 ⟨rfl, hb5⟩
        go_wp2_with fail
        go_ret
        have k2 := hb1.trans (hb2.mono hb1.size)
        have k3 := k2.trans (hb3.mono k2.size)
        have k4 := k3.trans (hb4.mono k3.size)
        exact ⟨rfl, k4.trans (hb5.mono k4.size)⟩
    · have H1 := Lib.hid (fun w hr => put_no a0 A1 c1 l1 w hb.1 Hlm.out hw hr)
      have H2 := Lib.hid (fun w hr => wrong_any a0 A1 c1 l1 w Hlm.out hr)
      have hne : (wrong a0 l1 != 0) = true := by simpa using hw
      clear hw
      generalize wrong a0 l1 = F at *
      generalize l1.length = n at *
      go_enter Try.func8, Try.ntmps8
      go_wp2_with fail
      refine (H1.out _ Hr.out).mono ?_
      rintro e w1 ⟨rfl, hb1⟩
      have r1 := (Hr.out.below hb1).more hb1.size
      go_wp2_with fail
      refine (H2.out _ r1).mono ?_
      rintro e w' ⟨rfl, rfl⟩
      go_wp2_with fail
      refine (awake_any _).mono ?_
      rintro e w2 ⟨rfl, hb2⟩
      go_wp2_with fail
      go_ret
      exact ⟨rfl, hb1.trans (hb2.mono hb1.size)⟩

end Go.Proofs.Ytlmgmojicpdbeaa.chainPuts
