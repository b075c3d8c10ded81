/- Layer 12, eleventh part: does a number come twice? -/
import Derived.Test.YtlmgmojicpdbeaaCh10
namespace Go.Proofs.Ytlmgmojicpdbeaa.Ch
open Go.RowKit Base Crc Go.Maps
set_option linter.unusedVariables false

theorem nodup_step {l : List Int} {k : Nat} (hk : k < l.length) (h : (l.take k).Nodup) (hq : ∀ q, (h : q < k) → l[q]? ≠ some l[k]) : (l.take (k + 1)).Nodup := by
  rw [List.take_succ_eq_append_getElem hk, List.nodup_append]
  refine ⟨h, by simp, ?_⟩
  intro a ha b hb
  simp at hb
  subst hb
  intro e
  subst e
  obtain ⟨q, hq1, hq2⟩ := List.getElem_of_mem ha
  rw [List.length_take] at hq1
  rw [List.getElem_take] at hq2
  refine hq q (by omega) ?_
  rw [List.getElem?_eq_getElem (by omega), hq2]
theorem nodup_twice {l : List Int} {q k : Nat} (hqk : q < k) (hk : k < l.length) (h : l[q]? = some l[k]) : ¬ l.Nodup := by
  intro hn
  rw [List.nodup_iff_pairwise_ne, List.pairwise_iff_getElem] at hn
  rw [List.getElem?_eq_getElem (by omega)] at h
  injection h with h
  exact hn q k (by omega) hk hqk h

set_option maxRecDepth 100000 in
set_option maxHeartbeats 2000000 in
theorem twice_any (A : Option Addr) (c : Nat) (l : List Int) (w : World) (hl : l.length ≤ 10000) (hr : Row w w.heap.size A (nums l)) :
    Calls Try.prog 62 #[.slice A l.length c] w fun e w' => e = .returned (.bool (!decide l.Nodup)) ∧ Below w.heap.size w w' := by
  have Hr := Lib.hid hr
  clear hr
  generalize hN : l.length = n at *
  have Hn := Lib.hid hN
  clear hN
  generalize hQ : decide l.Nodup = Q
  have HQ := Lib.hid hQ
  clear hQ
  go_enter Try.func62, Try.ntmps62
  go_wp2
  go_loopw [7] (fun i wr => ∃ (k : Nat), k ≤ n ∧ i = .int .i64 k ∧ (l.take k).Nodup ∧ Below w.heap.size w wr) (fun i _ => n - (intOf i).toNat)
  case atStart => exact ⟨0, Nat.zero_le _, rfl, by simp, Below.refl _ _⟩
  case round =>
    obtain ⟨k, hk, rfl, hnd, hbe⟩ := hrel
    have Hnd := Lib.hid hnd
    clear hnd
    by_cases hkn : k < n
    · have hkl : k < l.length := by rw [Hn.out]; exact hkn
      have hbk := Lib.hid (fun w' (hb : Below w.heap.size w w') => (Hr.out.below hb).at_ (k := k) (by simpa using hkl))
      have hlk : ∃ z, z = l[k]'hkl := ⟨_, rfl⟩
      obtain ⟨z, hz⟩ := hlk
      have Hz := Lib.hid hz
      clear hz
      have Hbe := Lib.hid hbe
      clear hbe
      go_wp2_with fail
      go_loopw [4] (fun j wi => ∃ (m : Nat), m ≤ k ∧ j = .int .i64 m ∧ (∀ q, q < m → l[q]? ≠ some z) ∧ Below w.heap.size w wi) (fun j _ => k - (intOf j).toNat)
      case atStart => exact ⟨0, Nat.zero_le _, rfl, by simp, Hbe.out⟩
      case round =>
        obtain ⟨m, hm, rfl, hno, hbi⟩ := hrel
        have Hno := Lib.hid hno
        clear hno
        by_cases hmk : m < k
        · have hml : m < l.length := by omega
          obtain ⟨b, off, rfl, hb, hc⟩ := hbk.out _ hbi
          obtain ⟨b', off', hbb, hb', hc'⟩ := (Hr.out.below hbi).at_ (k := m) (by simpa using hml)
          injection hbb with hbb
          injection hbb with e1 e2
          subst e1 e2
          rw [List.getElem_map] at hc hc'
          rw [← Hz.out] at hc
          have Hx := Lib.hid (List.getElem?_eq_getElem hml)
          generalize l[m]'hml = x at *
          have hi0 : (0 : Int) ≤ (k : Int) := by omega
          have hi1 : (k : Int) < (n : Int) := by omega
          have hi2 : (0 : Int) ≤ (m : Int) := by omega
          have hi3 : (m : Int) < (n : Int) := by omega
          by_cases hxz : z = x
          · have hb2 : (z == x) = true := by simp [hxz]
            have Hxz := Lib.hid hxz
            clear hxz
            go_wp2_with fail
            go_quiet (fail)
            go_wp2_with fail
            go_ret
            have hnn : ¬ l.Nodup := nodup_twice hmk hkl (by rw [Hx.out, ← Hxz.out, Hz.out])
            exact ⟨by rw [← HQ.out, decide_eq_false hnn]; rfl, below_drewN hbi _⟩
          · have hb2 : (z == x) = false := by simp [hxz]
            have Hxz := Lib.hid hxz
            clear hxz
            go_wp2_with fail
            go_quiet (fail)
            go_wp2_with fail
            refine ⟨⟨m + 1, by omega, by simp, ?_, below_drewN hbi _⟩, by simp [intOf]; omega⟩
            intro q hq
            by_cases hqm : q < m
            · exact Hno.out q hqm
            · rw [show q = m by omega, Hx.out]
              intro hh
              injection hh with hh
              exact Hxz.out hh.symm
        · go_wp2_with fail
          refine ⟨⟨k + 1, by omega, by simp, nodup_step hkl Hnd.out ?_, hbi⟩, by simp [intOf]; omega⟩
          intro q hq
          rw [← Hz.out]
          exact Hno.out q (by omega)
    · have hke : k = n := by omega
      subst hke
      have hnn := Hnd.out
      rw [List.take_of_length_le (by rw [Hn.out]; omega)] at hnn
      have HNN := Lib.hid hnn
      clear hnn
      go_wp2_with fail
      go_ret
      exact ⟨by rw [← HQ.out, decide_eq_true HNN.out]; rfl, hbe⟩

end Go.Proofs.Ytlmgmojicpdbeaa.Ch
