/- Layer 12, fourteenth part: chain.Lay. -/
import Derived.Test.YtlmgmojicpdbeaaCh13
import Derived.Deep.RegionLaw
namespace Go.Proofs.Ytlmgmojicpdbeaa.Ch
open Go.RowKit Base Crc Go.Maps
set_option linter.unusedVariables false

theorem info_string : (Try.prog.info? 9).map (fun i => (i.zero, i.size, i.bytes)) = some (some (.string ByteArray.empty), 1, 16) := by kernel_rfl

set_option maxRecDepth 100000 in
set_option maxHeartbeats 4000000 in
theorem lay_count (A0 A1 : Option Addr) (c0 c1 n0 n1 : Nat) (w : World) (h0 : n0 ≤ 5000) (h1 : n1 ≤ 5000) (hc : (n0 : Int) ≠ count n1) :
    Calls Try.prog 50 #[.slice A0 n0 c0, .slice A1 n1 c1] w fun e w' => e = .returned (.tuple #[.slice none 0 0, .int .i64 2]) ∧ w = w' := by
  have hb : ((n0 : Int) != count n1) = true := by simpa using hc
  go_enter Try.func50, Try.ntmps50
  go_wp2_with fail
  refine (count_any n1 _ (by omega)).mono ?_
  rintro e w' ⟨rfl, rfl⟩
  go_wp2_with fail
  go_ret2
  exact ⟨rfl, rfl⟩

theorem wrong_two {next : Int} {l : List Int} (h : l.length ≤ 122) (hw : wrong next l ≠ 0) : wrong next l = 2 := by
  unfold wrong at hw ⊢
  rw [if_neg (by omega)] at hw ⊢
  split at hw
  · rename_i h1; rw [if_pos h1]
  · rename_i h1
    rw [if_neg h1]
    split at hw
    · exact absurd rfl hw
    · rename_i h2; rw [if_neg h2]

set_option maxRecDepth 100000 in
set_option maxHeartbeats 4000000 in
theorem lay_loop (A0 A1 : Option Addr) (c0 c1 : Nat) (own pages : List Int) (w : World) (h0 : own.length ≤ 50) (h1 : pages.length ≤ 5000) (hc0 : own.length ≤ c0) (hc1 : pages.length ≤ c1) (hm1 : c1 ≤ maxLen) (hf : ∀ x ∈ own, fitI x) (r0 : Row w w.heap.size A0 (nums own)) (r1 : Row w w.heap.size A1 (nums pages)) (hc : (own.length : Int) = count pages.length) (P : Ending → World → Prop)
    (hyes : (∀ i, i < own.length → wrong (nextOf own i) (chunk pages i) = 0) → ∀ v w', w'.ownsRow w.heap.size 9 1 v own.length ((layTo own pages own.length).map .string) → Below w.heap.size w w' → P (.returned (.tuple #[v, .int .i64 0])) w')
    (hno : ∀ i, i < own.length → wrong (nextOf own i) (chunk pages i) ≠ 0 → ∀ w', Below w.heap.size w w' → P (.returned (.tuple #[.slice none 0 0, .int .i64 2])) w') :
    Calls Try.prog 50 #[.slice A0 own.length c0, .slice A1 pages.length c1] w P := by
  obtain ⟨i0, ti0, tz0, tz1, tz2⟩ := info_parts info_string
  have Hyes := Lib.hid hyes
  have Hno := Lib.hid hno
  have Hf := Lib.hid hf
  have Hr0 := Lib.hid r0
  have Hr1 := Lib.hid r1
  have Hc := Lib.hid hc
  have hb : ((own.length : Int) != count pages.length) = false := by simpa using hc
  have Hm1 := Lib.hid hm1
  clear hyes hno hf r0 r1 hc hm1
  generalize hN : own.length = n at *
  have Hn := Lib.hid hN
  generalize hM : pages.length = m at *
  have Hm := Lib.hid hM
  clear hN hM
  go_enter Try.func50, Try.ntmps50
  go_wp2_with fail
  refine (count_any m _ (by omega)).mono ?_
  rintro e w' ⟨rfl, rfl⟩
  go_wp2_with fail
  go_loopw [1, 6, 20] (fun v1 v6 i wr => ∃ (k : Nat) (A : Option Addr) (c : Nat), k ≤ n ∧ i = .int .i64 (k : Nat) ∧ v1 = .slice A (m - 122 * k) c ∧ m - 122 * k ≤ c ∧ c ≤ maxLen ∧ Row w w.heap.size A (nums (pages.drop (122 * k))) ∧
      (∀ i, i < k → wrong (nextOf own i) (chunk pages i) = 0) ∧ wr.ownsRow w.heap.size 9 1 v6 k ((layTo own pages k).map .string) ∧ Below w.heap.size w wr) (fun _ _ i _ => n - (intOf i).toNat)
  case atStart => exact ⟨0, A1, c1, Nat.zero_le _, rfl, by simp, by omega, Hm1.out, by simpa using Hr1.out, by simp, World.ownsRow_nil _ _ _ _, Below.refl _ _⟩
  case round =>
    obtain ⟨k, A, c, hk, rfl, rfl, hcc, hcm, hrow, hok, hown, hbe⟩ := hrel
    have Hok := Lib.hid hok
    have Hown := Lib.hid hown
    have Hbe := Lib.hid hbe
    have Hrow := Lib.hid hrow
    have Hcm := Lib.hid hcm
    clear hok hown hbe hrow hcm
    by_cases hkn : k < n
    · have hcnt := Lib.hid (show 122 * k < m ∧ m ≤ 122 * n ∧ 122 * n < m + 122 by
        have h := Hc.out
        unfold count at h
        split at h <;> omega)
      have hpos : 0 < (nums (pages.drop (122 * k))).length := by
        rw [List.length_map, List.length_drop, Hm.out]
        have := hcnt.out
        omega
      obtain ⟨b, off, hA, hb1, hcx⟩ := Hrow.out.at_ hpos
      subst hA
      clear hcx hpos
      have hch : Row wr wr.heap.size (some ⟨b, off, none⟩) (nums (chunk pages k)) := by
        have h1 := ((Hrow.out.below Hbe.out).more Hbe.out.size).take 122
        unfold chunk
        rw [← List.map_take] at h1
        exact h1
      have hdrop : Row w w.heap.size (some ⟨b, off + 122, none⟩) (nums (pages.drop (122 * (k + 1)))) := by
        rcases Hrow.out with h | ⟨b', off', h1, h2, h3⟩
        · left
          have h4 := congrArg List.length h
          rw [List.length_map, List.length_drop] at h4
          simp at h4
          simp
          omega
        · injection h1 with h1
          injection h1 with e1 e2
          subst e1 e2
          refine .inr ⟨b, off + 122, rfl, h2, fun i v hv => ?_⟩
          have := h3 (122 + i) v (by rw [← hv, List.getElem?_map, List.getElem?_map, List.getElem?_drop, List.getElem?_drop]; congr 2; omega)
          rw [show off + 122 + i = off + (122 + i) by omega]
          exact this
      have Hch := Lib.hid hch
      have Hdrop := Lib.hid hdrop
      clear hch hdrop
      generalize hQ : m - 122 * k = q at *
      have Hq := Lib.hid hQ.symm
      clear hQ
      by_cases hk1 : k + 1 < n
      · skip
        have hkl : k + 1 < own.length := by rw [Hn.out]; exact hk1
        obtain ⟨b', off', hA0, hb', hc'⟩ := (Hr0.out.below Hbe.out).at_ (k := k + 1) (by simpa using hkl)
        subst hA0
        rw [List.getElem_map] at hc'
        have hnx : nextOf own k = own[k + 1]'hkl := by
          unfold nextOf
          rw [List.getElem?_eq_getElem hkl]
          rfl
        have hfx := (Hf.out _ (List.getElem_mem hkl)).1
        generalize own[k + 1]'hkl = z at *
        have hq : 122 < q := by have := Hq.out; have := hcnt.out; omega
        have hl1 : (chunk pages k).length = 122 := by rw [chunk_len, Hm.out, ← Hq.out]; omega
        have hnq : (122 : Int) < (q : Int) := by omega
        have hki : (k : Int) + 1 < (n : Int) := by omega
        have hq122 : (122 : Int) ≤ (q : Int) := by omega
        have hc122 : ¬ c = 122 := by omega
        have hk0 : (0 : Int) ≤ (k : Int) + 1 := by omega
        have hcell : wr.cell? ⟨b', off' + (k + 1), none⟩ = some (.int .i64 z) := hc'
        clear hc'
        have hput1 := fun (hw : wrong (nextOf own k) (chunk pages k) = 0) W hr => put_yes z (some ⟨b, off, none⟩) c (chunk pages k) W hfx (by rw [← hnx]; exact hw) hr
        have hput0 := fun (hw : wrong (nextOf own k) (chunk pages k) ≠ 0) W hr => put_no z (some ⟨b, off, none⟩) c (chunk pages k) W hfx (by rw [hl1]; unfold maxLen; omega) (by rw [← hnx]; exact hw) hr
        rw [hl1] at hput1 hput0
        have Hput1 := Lib.hid hput1
        have Hput0 := Lib.hid hput0
        have Hnx := Lib.hid hnx
        have Hl1 := Lib.hid hl1
        have Hfx := Lib.hid hfx
        clear hput1 hput0 hnx hl1 hfx
        by_cases hw : wrong (nextOf own k) (chunk pages k) = 0
        · have HW := Lib.hid hw
          clear hw
          go_wp2_with fail
          refine (Hput1.out HW.out _ Hch.out).mono ?_
          rintro e w2 ⟨rfl, hb2⟩
          have own2 := (Over.under (B := 0) hb2).own Hown.out (by omega)
          have hbe2 := Hbe.out.trans (hb2.mono Hbe.out.size)
          clear hb2
          have hcc1 : (0 : Int) ≤ 122 := by omega
          go_wp2_with fail
          go_region_law (refine step_append1 rfl (.tmp 47) (.tmp 49) 40 rfl w.heap.size 9 i0 (.string ByteArray.empty) 16 Try.underlying40 ti0 tz0 tz1 tz2 rfl w2.drew (.string (str (piece z (chunk pages k)))) rfl u6 k ((layTo own pages k).map .string) rfl (show w2.drew.ownsRow w.heap.size 9 1 u6 k ((layTo own pages k).map .string) from own2) rfl (by omega) (by decide) hbe2.size ?_; intro v' w3 hown3 happ)
          all_goals
            have Hbe3 := Lib.hid (happ.below (hbe2.drew) (show w2.drew.ownsRow w.heap.size 9 1 u6 k ((layTo own pages k).map .string) from own2) (Nat.le_refl _) hbe2.size)
            have Hown3 := Lib.hid hown3
            clear happ own2 hbe2 hown3
            go_wp2_with fail
            have hqe := Hq.out
            have hlay : w3.ownsRow w.heap.size 9 1 v' (k + 1) ((layTo own pages (k + 1)).map .string) := by
              rw [layTo_succ, List.map_append]
              have h9 := Hown3.out
              rw [← Hnx.out] at h9
              exact h9
            have hok9 : ∀ i, i < k + 1 → wrong (nextOf own i) (chunk pages i) = 0 := by
              intro i hi
              by_cases h : i < k
              · exact Hok.out i h
              · rw [show i = k by omega]; exact HW.out
            refine ⟨⟨k + 1, _, _, by omega, by simp, congrArg (fun x => Value.slice _ x _) (by have := hcnt.out; omega), by omega, Nat.le_trans (Nat.sub_le _ _) Hcm.out, Hdrop.out, hok9, hlay, Hbe3.out⟩, by simp [intOf]; omega⟩
        · have HW := Lib.hid hw
          clear hw
          go_wp2_with fail
          refine (Hput0.out HW.out _ Hch.out).mono ?_
          rintro e w2 ⟨rfl, hb2⟩
          have hv2 : wrong z (chunk pages k) = 2 := wrong_two (by rw [Hl1.out]; omega) (by rw [← Hnx.out]; exact HW.out)
          rw [hv2]
          go_wp2_with fail
          exact Hno.out k (by omega) HW.out _ (Hbe.out.trans (hb2.mono Hbe.out.size))
      · skip
        have hke : k + 1 = n := by omega
        have hnx : nextOf own k = -1 := by
          unfold nextOf
          rw [List.getElem?_eq_none (by rw [Hn.out]; omega)]
          rfl
        have hq : q ≤ 122 := by have := Hq.out; have := hcnt.out; omega
        have hl1 : (chunk pages k).length = q := by rw [chunk_len, Hm.out, ← Hq.out]; omega
        have hnot : ¬ (k : Int) + 1 < (n : Int) := by omega
        have hnq : ¬ (122 : Int) < (q : Int) := by omega
        have hfx : -9223372036854775808 ≤ (-1 : Int) := by omega
        have hput1 := fun (hw : wrong (nextOf own k) (chunk pages k) = 0) W hr => put_yes (-1) (some ⟨b, off, none⟩) c (chunk pages k) W hfx (by rw [← hnx]; exact hw) hr
        have hput0 := fun (hw : wrong (nextOf own k) (chunk pages k) ≠ 0) W hr => put_no (-1) (some ⟨b, off, none⟩) c (chunk pages k) W hfx (by rw [hl1]; unfold maxLen; omega) (by rw [← hnx]; exact hw) hr
        rw [hl1] at hput1 hput0
        have Hput1 := Lib.hid hput1
        have Hput0 := Lib.hid hput0
        have Hnx := Lib.hid hnx
        have Hl1 := Lib.hid hl1
        have Hfx := Lib.hid hfx
        clear hput1 hput0 hnx hl1 hfx
        by_cases hw : wrong (nextOf own k) (chunk pages k) = 0
        · have HW := Lib.hid hw
          clear hw
          go_wp2_with fail
          refine (Hput1.out HW.out _ Hch.out).mono ?_
          rintro e w2 ⟨rfl, hb2⟩
          have own2 := (Over.under (B := 0) hb2).own Hown.out (by omega)
          have hbe2 := Hbe.out.trans (hb2.mono Hbe.out.size)
          clear hb2
          have hcc1 : (0 : Int) ≤ q := by omega
          go_wp2_with fail
          go_region_law (refine step_append1 rfl (.tmp 47) (.tmp 49) 40 rfl w.heap.size 9 i0 (.string ByteArray.empty) 16 Try.underlying40 ti0 tz0 tz1 tz2 rfl w2.drew (.string (str (piece (-1) (chunk pages k)))) rfl u6 k ((layTo own pages k).map .string) rfl (show w2.drew.ownsRow w.heap.size 9 1 u6 k ((layTo own pages k).map .string) from own2) rfl (by omega) (by decide) hbe2.size ?_; intro v' w3 hown3 happ)
          all_goals
            have Hbe3 := Lib.hid (happ.below (hbe2.drew) (show w2.drew.ownsRow w.heap.size 9 1 u6 k ((layTo own pages k).map .string) from own2) (Nat.le_refl _) hbe2.size)
            have Hown3 := Lib.hid hown3
            clear happ own2 hbe2 hown3
            go_wp2_with fail
            have hqe := Hq.out
            have hlay : w3.ownsRow w.heap.size 9 1 v' (k + 1) ((layTo own pages (k + 1)).map .string) := by
              rw [layTo_succ, List.map_append]
              have h9 := Hown3.out
              rw [← Hnx.out] at h9
              exact h9
            have hok9 : ∀ i, i < k + 1 → wrong (nextOf own i) (chunk pages i) = 0 := by
              intro i hi
              by_cases h : i < k
              · exact Hok.out i h
              · rw [show i = k by omega]; exact HW.out
            refine ⟨⟨k + 1, _, _, by omega, by simp, congrArg (fun x => Value.slice _ x _) (by have := hcnt.out; omega), by have := hcnt.out; omega, Nat.le_trans (Nat.sub_le _ _) Hcm.out, by rw [List.drop_of_length_le (by rw [Hm.out]; have := hcnt.out; omega)]; exact Row.nil _ _ _, hok9, hlay, Hbe3.out⟩, by simp [intOf]; omega⟩
        · have HW := Lib.hid hw
          clear hw
          go_wp2_with fail
          refine (Hput0.out HW.out _ Hch.out).mono ?_
          rintro e w2 ⟨rfl, hb2⟩
          have hv2 : wrong (-1) (chunk pages k) = 2 := wrong_two (by rw [Hl1.out]; omega) (by rw [← Hnx.out]; exact HW.out)
          rw [hv2]
          go_wp2_with fail
          exact Hno.out k (by omega) HW.out _ (Hbe.out.trans (hb2.mono Hbe.out.size))
    · have hnot : ¬ (k : Int) < (n : Int) := by omega
      go_wp2_with fail
      have hke : k = n := by omega
      subst hke
      exact Hyes.out Hok.out _ _ Hown.out Hbe.out

end Go.Proofs.Ytlmgmojicpdbeaa.Ch
