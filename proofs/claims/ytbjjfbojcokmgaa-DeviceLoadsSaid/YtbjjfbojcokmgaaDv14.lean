/- Layer 7: whether an image may be a device's: Check. -/
import Derived.Test.YtbjjfbojcokmgaaDv13
namespace Go.Proofs.Ytbjjfbojcokmgaa.Dv
open Go.RowKit Base
set_option linter.unusedVariables false
set_option linter.unusedSimpArgs false

section
variable (A A' : Option Addr) (c c' : Nat) (l : List ByteArray) (ps : List (Int × ByteArray)) (w : World)
set_option maxRecDepth 100000 in
set_option maxHeartbeats 1000000 in
theorem check_any (hl : l.length ≤ 1000000) (hp : ps.length ≤ 1000000) (hsz : ∀ x ∈ l, x.size ≤ maxLen) (hpz : ∀ p ∈ ps, p.2.size ≤ maxLen) (hr : Row w w.heap.size A (l.map Value.string)) (hr' : Row w w.heap.size A' (putI ps)) :
    Calls Try.prog 25 #[.agg #[.slice A l.length c, .slice A' ps.length c']] w fun e w' => e = .returned (.int .i64 (wrongD l ps)) ∧ Below w.heap.size w w' := by
  have hb0 : Below w.heap.size w (w.alloc (.cells #[.slice A l.length c, .slice A' ps.length c'] 38)) := (by repeat (first | exact Below.refl _ _ | assumption | refine Below.drew ?_ | (refine Below.alloc ?_ (by simp <;> omega) _) | (refine Below.setCell ?_ (by simp <;> omega) _)))
  have Hb0 := Lib.hid hb0
  have Hr := Lib.hid (hr.below hb0)
  have Hr' := Lib.hid (hr'.below hb0)
  have HA := Lib.hid (Box.new w 38 #[.slice A l.length c, .slice A' ps.length c'])
  have Hsz := Lib.hid hsz
  have Hpz := Lib.hid hpz
  clear hr hr' hb0 hsz hpz
  by_cases hn : 16 ≤ l.length ∧ l.length ≤ 4096
  · have Hw := Lib.hid (show wrongD l ps = if l.all (fun x => x.size == 128) = false then 3 else wrongPuts l.length ps by unfold wrongD; rw [if_neg (by simpa using hn)])
    generalize wrongD l ps = V at *
    obtain ⟨hn1, hn2⟩ := hn
    have HM := Lib.hid (fun w => may_any (l.length : Int) w)
    rw [decide_eq_true (p := 16 ≤ (l.length : Int) ∧ (l.length : Int) ≤ 4096) (by omega)] at HM
    generalize hN : l.length = n at *
    generalize hM : ps.length = m at *
    have Hn := Lib.hid hN
    have Hm := Lib.hid hM
    clear hN hM
    go_enter Try.func25, Try.ntmps25
    go_upto_region 1 with fail
    generalize w.alloc (.cells #[.slice A n c, .slice A' m c'] 38) = w0 at *
    obtain ⟨a0, a1, _, _⟩ := Box.two HA.out
    have hwl : w.heap.size < w0.heap.size := HA.out.lt
    have hwl0 : w.heap.size ≤ w0.heap.size := Nat.le_of_lt hwl
    go_wp2_with fail
    refine (HM.out _).mono ?_
    rintro e w' ⟨rfl, rfl⟩
    go_wp2_with fail
    go_loop [4, 15] (fun _ i => ∃ (k : Nat), k ≤ n ∧ i = .int .i64 k ∧ (l.take k).all (fun x => x.size == 128) = true) (fun _ i => n - (intOf i).toNat)
    case atStart => exact ⟨0, Nat.zero_le _, rfl, rfl⟩
    case round =>
      obtain ⟨k, hk, rfl, hall⟩ := hrel
      by_cases hkn : k < n
      · have hkl : k < l.length := by rw [Hn.out]; exact hkn
        obtain ⟨b, off, rfl, hb, hc⟩ := Hr.out.at_ (k := k) (by simpa using hkl)
        rw [List.getElem_map] at hc
        have hi0 : (0 : Int) ≤ (k : Int) := by omega
        have hi1 : (k : Int) < (n : Int) := by omega
        have hx := Hsz.out _ (List.getElem_mem hkl)
        unfold maxLen at hx
        by_cases hx8 : (l[k]'hkl).size = 128
        · have Hall := Lib.hid (show (l.take (k + 1)).all (fun x => x.size == 128) = true by rw [all_step l k hkl, hall, hx8]; rfl)
          have hd : (((l[k]'hkl).size : Int) != 128) = false := by rw [hx8]; rfl
          clear hall hx8
          generalize l[k]'hkl = x at *
          go_wp2_with fail
          go_round
          case rel => exact ⟨k + 1, by omega, by go_num, Hall.out⟩
          case measure => simp [intOf]; omega
        · have Hbad := Lib.hid (all_bad l k hkl hx8)
          have hd : (((l[k]'hkl).size : Int) != 128) = true := by rw [bne_iff_ne]; omega
          clear hall hx8
          generalize l[k]'hkl = x at *
          go_wp2_with fail
          go_ret
          exact ⟨by rw [Hw.out, if_pos Hbad.out]; rfl, Hb0.out⟩
      · have hke : k = n := by omega
        subst hke
        have Hgood := Lib.hid (show ¬ l.all (fun x => x.size == 128) = false by
          rw [List.take_of_length_le (by rw [Hn.out]; exact Nat.le_refl _)] at hall
          rw [hall]
          simp)
        clear hall
        go_wp2_with fail
        go_loopw [6, 26] (fun _ i wr => ∃ (j : Nat), j ≤ m ∧ i = .int .i64 j ∧ wrongPuts k (ps.drop j) = wrongPuts k ps ∧ Below w0.heap.size w0 wr) (fun _ i _ => m - (intOf i).toNat)
        case atStart => exact ⟨0, Nat.zero_le _, rfl, rfl, Below.refl _ _⟩
        case round =>
          obtain ⟨j, hj, rfl, hw, hbe⟩ := hrel
          have hbw := Hb0.out.trans (hbe.mono Hb0.out.size)
          have r0 := cell_keep hbe a0
          have hwr : w.heap.size < wr.heap.size := Nat.lt_of_lt_of_le hwl hbe.size
          have hrow := Hr'.out.below (hbe.mono hwl0)
          have Hbe := Lib.hid hbe
          have Hbw := Lib.hid hbw
          clear hbe hbw a0
          by_cases hjm : j < m
          · have hjl : j < ps.length := by rw [Hm.out]; exact hjm
            obtain ⟨b, off, rfl, hb, hc, hc2⟩ := Row.put hrow j hjl
            have hi0 : (0 : Int) ≤ (j : Int) := by omega
            have hi1 : (j : Int) < (m : Int) := by omega
            have hx := Hpz.out _ (List.getElem_mem hjl)
            unfold maxLen at hx
            have hws := wrong_step k ps j hjl
            rw [hw] at hws
            clear hw
            by_cases hneg : (ps[j]'hjl).1 < 0
            · rw [if_pos (.inl hneg)] at hws
              have Hws := Lib.hid hws
              have e1 : decide ((ps[j]'hjl).1 < 0) = true := by simpa using hneg
              clear hws hneg
              generalize (ps[j]'hjl).1 = x at *
              generalize (ps[j]'hjl).2 = y at *
              go_wp2_with fail
              go_ret
              exact ⟨by rw [Hw.out, if_neg Hgood.out, Hws.out]; rfl, Hbw.out.alloc Hbw.out.size _⟩
            · have e1 : decide ((ps[j]'hjl).1 < 0) = false := by simpa using hneg
              by_cases hbig : (k : Int) ≤ (ps[j]'hjl).1
              · rw [if_pos (.inr hbig)] at hws
                have Hws := Lib.hid hws
                have e2 : decide ((k : Int) ≤ (ps[j]'hjl).1) = true := by simpa using hbig
                clear hws hneg hbig
                generalize (ps[j]'hjl).1 = x at *
                generalize (ps[j]'hjl).2 = y at *
                go_wp2_with fail
                go_ret
                exact ⟨by rw [Hw.out, if_neg Hgood.out, Hws.out]; rfl, Hbw.out.alloc Hbw.out.size _⟩
              · rw [if_neg (by omega)] at hws
                have e2 : decide ((k : Int) ≤ (ps[j]'hjl).1) = false := by simpa using hbig
                by_cases hz : (ps[j]'hjl).2.size = 128
                · rw [if_neg (by simpa using hz)] at hws
                  have Hws := Lib.hid hws.symm
                  have hd : (((ps[j]'hjl).2.size : Int) != 128) = false := by rw [hz]; rfl
                  clear hws hneg hbig hz
                  generalize (ps[j]'hjl).1 = x at *
                  generalize (ps[j]'hjl).2 = y at *
                  go_wp2_with fail
                  go_roundw
                  case rel => exact ⟨j + 1, by omega, by go_num, Hws.out, Hbe.out.alloc Hbe.out.size _⟩
                  case measure => simp [intOf]; omega
                · rw [if_pos hz] at hws
                  have Hws := Lib.hid hws
                  have hd : (((ps[j]'hjl).2.size : Int) != 128) = true := by rw [bne_iff_ne]; omega
                  clear hws hneg hbig hz
                  generalize (ps[j]'hjl).1 = x at *
                  generalize (ps[j]'hjl).2 = y at *
                  go_wp2_with fail
                  go_ret
                  exact ⟨by rw [Hw.out, if_neg Hgood.out, Hws.out]; rfl, Hbw.out.alloc Hbw.out.size _⟩
          · have hje : j = m := by omega
            subst hje
            have Hz := Lib.hid (show wrongPuts k ps = 0 by rw [← hw, List.drop_eq_nil_of_le (by rw [Hm.out]; exact Nat.le_refl _)]; rfl)
            clear hw
            go_wp2_with fail
            go_ret
            exact ⟨by rw [Hw.out, if_neg Hgood.out, Hz.out]; rfl, Hbw.out⟩
  · have Hw := Lib.hid (show wrongD l ps = 2 by unfold wrongD; rw [if_pos hn])
    rw [Hw.out]
    clear Hw
    have HM := Lib.hid (fun w => may_any (l.length : Int) w)
    rw [decide_eq_false (p := 16 ≤ (l.length : Int) ∧ (l.length : Int) ≤ 4096) (by omega)] at HM
    clear hn
    go_enter Try.func25, Try.ntmps25
    go_wp2_with fail
    refine (HM.out _).mono ?_
    rintro e w' ⟨rfl, rfl⟩
    go_wp2_with fail
    go_ret
    exact ⟨rfl, Hb0.out⟩
end

end Go.Proofs.Ytbjjfbojcokmgaa.Dv
