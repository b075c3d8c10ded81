/- Layer 7: an image that is gone through: the document's Few; Load. -/
import Derived.Test.YtbjjfbojcokmgaaDv14
namespace Go.Proofs.Ytbjjfbojcokmgaa.Dv
open Go.RowKit Base
set_option linter.unusedVariables false
set_option linter.unusedSimpArgs false

/-- how many bytes texts have, each counted up to so many -/
def sm (l : List ByteArray) : Nat := (l.map fun s => min s.size 1000).sum
theorem sm_step (l : List ByteArray) (k : Nat) (hk : k < l.length) : sm (l.take (k + 1)) = sm (l.take k) + min l[k].size 1000 := by
  unfold sm
  rw [List.take_succ_eq_append_getElem hk, List.map_append, List.sum_append]
  simp
theorem sm_len (l : List ByteArray) : sm l ≤ l.length * 1000 := by
  induction l with
  | nil => exact Nat.le_refl _
  | cons a l ih =>
    have e : sm (a :: l) = min a.size 1000 + sm l := by unfold sm; rw [List.map_cons, List.sum_cons]
    rw [e, List.length_cons]
    omega
theorem sm_le (l : List ByteArray) (k : Nat) : sm (l.take k) ≤ k * 1000 :=
  Nat.le_trans (sm_len _) (Nat.mul_le_mul_right _ (List.length_take_le _ _))
def few (l : List ByteArray) (ps : List (Int × ByteArray)) : Bool := decide (l.length ≤ 60 ∧ ps.length ≤ 60 ∧ sm l + sm (ps.map (·.2)) ≤ 20000)
section
variable (A A' : Option Addr) (c c' : Nat) (l : List ByteArray) (ps : List (Int × ByteArray)) (w : World)
set_option maxRecDepth 100000 in
set_option maxHeartbeats 1000000 in
theorem rfew_any (hl : l.length ≤ maxLen) (hp : ps.length ≤ maxLen) (hsz : ∀ x ∈ l, x.size ≤ maxLen) (hpz : ∀ p ∈ ps, p.2.size ≤ maxLen) (hr : Row w w.heap.size A (l.map Value.string)) (hr' : Row w w.heap.size A' (putI ps)) :
    Calls Try.prog 22 #[.agg #[.slice A l.length c, .slice A' ps.length c']] w fun e w' => e = .returned (.bool (few l ps)) ∧ Below w.heap.size w w' := by
  have hb0 : Below w.heap.size w (w.alloc (.cells #[.slice A l.length c, .slice A' ps.length c'] 38)) := (by repeat (first | exact Below.refl _ _ | assumption | refine Below.drew ?_ | (refine Below.alloc ?_ (by simp <;> omega) _) | (refine Below.setCell ?_ (by simp <;> omega) _)))
  have Hb0 := Lib.hid hb0
  have Hr := Lib.hid (hr.below hb0)
  have Hr' := Lib.hid (hr'.below hb0)
  have HA := Lib.hid (Box.new w 38 #[.slice A l.length c, .slice A' ps.length c'])
  have Hsz := Lib.hid hsz
  have Hpz := Lib.hid hpz
  have HF := Lib.hid (show few l ps = decide (l.length ≤ 60 ∧ ps.length ≤ 60 ∧ sm l + sm (ps.map (·.2)) ≤ 20000) from rfl)
  generalize few l ps = V at *
  unfold maxLen at hl hp
  clear hr hr' hb0 hsz hpz
  by_cases h1 : l.length ≤ 60
  · have d1 : decide ((60 : Int) < (l.length : Int)) = false := by simp; omega
    by_cases h2 : ps.length ≤ 60
    · have d2 : decide ((60 : Int) < (ps.length : Int)) = false := by simp; omega
      have HV := Lib.hid (show V = decide (sm l + sm (ps.map (·.2)) ≤ 20000) by rw [HF.out]; simp [h1, h2])
      clear HF
      generalize hN : l.length = n at *
      generalize hM : ps.length = m at *
      have Hn := Lib.hid hN
      have Hm := Lib.hid hM
      clear hN hM
      go_enter Try.func22, Try.ntmps22
      go_upto_region 1 with fail
      generalize w.alloc (.cells #[.slice A n c, .slice A' m c'] 38) = w0 at *
      obtain ⟨a0, a1, _, _⟩ := Box.two HA.out
      go_wp2_with fail
      go_loop [3, 4, 19] (fun t _ i => ∃ (k x : Nat), k ≤ n ∧ x = sm (l.take k) ∧ i = .int .i64 k ∧ t = .int .i64 x) (fun _ _ i => n - (intOf i).toNat)
      case atStart => exact ⟨0, 0, Nat.zero_le _, rfl, rfl, rfl⟩
      case round =>
        obtain ⟨k, x, hk, hx0, rfl, rfl⟩ := hrel
        have hx : x ≤ k * 1000 := by rw [hx0]; exact sm_le l k
        have Hx := Lib.hid hx0
        clear hx0
        by_cases hkn : k < n
        · have hkl : k < l.length := by rw [Hn.out]; exact hkn
          obtain ⟨b, off, rfl, hb, hc⟩ := Hr.out.at_ (k := k) (by simpa using hkl)
          rw [List.getElem_map] at hc
          have hi0 : (0 : Int) ≤ (k : Int) := by omega
          have hi1 : (k : Int) < (n : Int) := by omega
          have hz := Hsz.out _ (List.getElem_mem hkl)
          unfold maxLen at hz
          have Hst := Lib.hid (sm_step l k hkl)
          generalize l[k]'hkl = s at *
          obtain ⟨y, hy⟩ : ∃ y : Nat, y = min s.size 1000 := ⟨_, rfl⟩
          have hmn : min (s.size : Int) 1000 = (y : Int) := by omega
          have hy1 : y ≤ 1000 := by omega
          have Hy := Lib.hid hy
          clear hy
          go_wp2_with fail
          go_round
          case rel => exact ⟨k + 1, x + y, by omega, by rw [Hst.out, ← Hx.out, Hy.out], by go_num, by go_num⟩
          case measure => simp [intOf]; omega
        · have hke : k = n := by omega
          subst hke
          go_wp2_with fail
          go_loop [3, 5, 35] (fun t _ i => ∃ (j y : Nat), j ≤ m ∧ y = x + sm ((ps.map (·.2)).take j) ∧ i = .int .i64 j ∧ t = .int .i64 y) (fun _ _ i => m - (intOf i).toNat)
          case atStart => exact ⟨0, x, Nat.zero_le _, rfl, rfl, rfl⟩
          case round =>
            obtain ⟨j, z, hj, hz0, rfl, rfl⟩ := hrel
            have hzb : z ≤ 100000 + j * 1000 := by rw [hz0]; have := sm_le (ps.map (·.2)) j; omega
            have Hz := Lib.hid hz0
            clear hz0
            by_cases hjm : j < m
            · have hjl : j < ps.length := by rw [Hm.out]; exact hjm
              obtain ⟨b, off, rfl, hb, hc, hc2⟩ := Row.put Hr'.out j hjl
              have hi0 : (0 : Int) ≤ (j : Int) := by omega
              have hi1 : (j : Int) < (m : Int) := by omega
              have hz := Hpz.out _ (List.getElem_mem hjl)
              unfold maxLen at hz
              have Hst := Lib.hid (show sm ((ps.map (·.2)).take (j + 1)) = sm ((ps.map (·.2)).take j) + min (ps[j]'hjl).2.size 1000 by rw [sm_step _ j (by simpa using hjl), List.getElem_map])
              generalize (ps[j]'hjl).1 = p at *
              generalize (ps[j]'hjl).2 = s at *
              obtain ⟨y, hy⟩ : ∃ y : Nat, y = min s.size 1000 := ⟨_, rfl⟩
              have hmn : min (s.size : Int) 1000 = (y : Int) := by omega
              have hy1 : y ≤ 1000 := by omega
              have Hy := Lib.hid hy
              clear hy
              go_wp2_with fail
              go_round
              case rel => exact ⟨j + 1, z + y, by omega, by rw [Hst.out, Hz.out, Hy.out]; omega, by go_num, by go_num⟩
              case measure => simp [intOf]; omega
            · have hje : j = m := by omega
              subst hje
              have Hz2 := Lib.hid (show z = sm l + sm (ps.map (·.2)) by
                rw [Hz.out, Hx.out, List.take_of_length_le (by rw [Hn.out]; exact Nat.le_refl _), List.take_of_length_le (by rw [List.length_map, Hm.out]; exact Nat.le_refl _)])
              by_cases h20 : z ≤ 20000
              · have d3 : decide ((z : Int) ≤ 20000) = true := by simp; omega
                have HVt := Lib.hid (show V = true by rw [HV.out, ← Hz2.out]; simpa using h20)
                go_wp2_with fail
                go_ret
                exact ⟨by rw [HVt.out]; rfl, Hb0.out⟩
              · have d3 : decide ((z : Int) ≤ 20000) = false := by simp; omega
                have HVt := Lib.hid (show V = false by rw [HV.out, ← Hz2.out]; simpa using h20)
                go_wp2_with fail
                go_ret
                exact ⟨by rw [HVt.out]; rfl, Hb0.out⟩
    · have d2 : decide ((60 : Int) < (ps.length : Int)) = true := by simp; omega
      have HVt := Lib.hid (show V = false by rw [HF.out]; simp [h2])
      clear h1 h2
      go_enter Try.func22, Try.ntmps22
      go_wp2_with fail
      go_ret
      exact ⟨by rw [HVt.out]; rfl, Hb0.out⟩
  · have d1 : decide ((60 : Int) < (l.length : Int)) = true := by simp; omega
    have HVt := Lib.hid (show V = false by rw [HF.out]; simp [h1])
    clear h1
    go_enter Try.func22, Try.ntmps22
    go_wp2_with fail
    go_ret
    exact ⟨by rw [HVt.out]; rfl, Hb0.out⟩
end

end Go.Proofs.Ytbjjfbojcokmgaa.Dv
