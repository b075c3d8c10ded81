/- Layer 12, sixteenth part: the document's Lay. -/
import Derived.Test.YtlmgmojicpdbeaaCh13
namespace Go.Proofs.Ytlmgmojicpdbeaa.Ch
open Go.RowKit Base Crc Go.Maps
set_option linter.unusedVariables false

theorem info_string' : (Try.prog.info? 9).map (fun i => (i.zero, i.size, i.bytes)) = some (some (.string ByteArray.empty), 1, 16) := by kernel_rfl

/-- what is handed back: a row of its own that reads as these texts -/
def LaidTexts (l : List ByteArray) (w : World) (e : Ending) (w' : World) : Prop := ∃ A c, e = .returned (.slice A l.length c) ∧ Row w' w'.heap.size A (l.map .string) ∧ Below w.heap.size w w'

set_option maxRecDepth 100000 in
set_option maxHeartbeats 4000000 in
theorem rlay_any (A0 A1 : Option Addr) (c0 c1 : Nat) (own pages : List Int) (w : World) (h0 : own.length ≤ 50) (h1 : pages.length ≤ 5000) (hc1 : pages.length ≤ c1) (hm1 : c1 ≤ maxLen) (hf : ∀ x ∈ own, fitI x) (r0 : Row w w.heap.size A0 (nums own)) (r1 : Row w w.heap.size A1 (nums pages)) (hc : (own.length : Int) = count pages.length) (hfine : Fine own pages) :
    Calls Try.prog 52 #[.slice A0 own.length c0, .slice A1 pages.length c1] w (LaidTexts (layTo own pages own.length) w) := by
  obtain ⟨i0, ti0, tz0, tz1, tz2⟩ := info_parts info_string'
  have Hfine := Lib.hid hfine
  have Hf := Lib.hid hf
  have Hr0 := Lib.hid r0
  have Hr1 := Lib.hid r1
  have Hc := Lib.hid hc
  have Hm1 := Lib.hid hm1
  clear hfine hf r0 r1 hc hm1
  generalize hN : own.length = n at *
  have Hn := Lib.hid hN
  generalize hM : pages.length = m at *
  have Hm := Lib.hid hM
  clear hN hM
  go_enter Try.func52, Try.ntmps52
  go_wp2_with fail
  go_loopw [5, 11] (fun v i wr => ∃ (k : Nat), k ≤ n ∧ i = .int .i64 (k : Nat) ∧ wr.ownsRow w.heap.size 9 1 v k ((layTo own pages k).map .string) ∧ Below w.heap.size w wr) (fun _ i _ => n - (intOf i).toNat)
  case atStart => exact ⟨0, Nat.zero_le _, rfl, World.ownsRow_nil _ _ _ _, Below.refl _ _⟩
  case round =>
    obtain ⟨k, hk, rfl, hown, hbe⟩ := hrel
    have Hown := Lib.hid hown
    have Hbe := Lib.hid hbe
    clear hown hbe
    by_cases hkn : k < n
    · have hcnt := Lib.hid (show 122 * k < m ∧ m ≤ 122 * n ∧ 122 * n < m + 122 by
        have h := Hc.out
        unfold count at h
        split at h <;> omega)
      have hpos : 122 * k < (nums pages).length := by
        rw [List.length_map, Hm.out]
        exact hcnt.out.1
      obtain ⟨b, off, hA, hb1, hcx⟩ := Hr1.out.at_ hpos
      subst hA
      clear hcx hpos
      have hch : Row wr wr.heap.size (some ⟨b, off + 122 * k, none⟩) (nums (chunk pages k)) := by
        rcases (Hr1.out.below Hbe.out).more Hbe.out.size with h | ⟨b', off', h1, h2, h3⟩
        · left
          have h4 := congrArg List.length h
          rw [List.length_map] at h4
          have : chunk pages k = [] := by
            unfold chunk
            rw [List.drop_of_length_le (by rw [h4]; simp)]
            rfl
          rw [this]
          rfl
        · injection h1 with h1
          injection h1 with e1 e2
          subst e1 e2
          refine .inr ⟨b, off + 122 * k, rfl, h2, fun i v hv => ?_⟩
          rw [Nat.add_assoc]
          refine h3 (122 * k + i) v ?_
          rw [← hv]
          unfold chunk
          rw [List.getElem?_map, List.getElem?_map, List.getElem?_take, if_pos, List.getElem?_drop]
          rcases Nat.lt_or_ge i 122 with hh | hh
          · exact hh
          · rw [List.getElem?_eq_none (by rw [List.length_map, chunk_len]; omega)] at hv
            cases hv
      have Hch := Lib.hid hch
      clear hch
      have hlen := Lib.hid (chunk_len pages k)
      have hwr := Lib.hid (wrong_chunk Hfine.out k)
      have hlo := hcnt.out.1
      have hk0 : (0 : Int) ≤ 122 * (k : Int) := by omega
      have hcne : ¬ c1 = 122 * k := by omega
      by_cases hk1 : k + 1 < n
      · have hkl : k + 1 < own.length := by rw [Hn.out]; exact hk1
        obtain ⟨b', off', hA0, hb', hc'⟩ := (Hr0.out.below Hbe.out).at_ (k := k + 1) (by simpa using hkl)
        subst hA0
        rw [List.getElem_map] at hc'
        have hnx : nextOf own k = own[k + 1]'hkl := by
          unfold nextOf
          rw [List.getElem?_eq_getElem hkl]
          rfl
        have hfx := (Hf.out _ (List.getElem_mem hkl)).1
        generalize own[k + 1]'hkl = z at *
        have hq : 122 * k + 122 < m := by have := hcnt.out; omega
        have hl1 : (chunk pages k).length = 122 := by rw [hlen.out, Hm.out]; omega
        have hki : (k : Int) + 1 < (n : Int) := by omega
        have hq2 : (122 : Int) * k + 122 < (m : Int) := by omega
        have hcell : wr.cell? ⟨b', off' + (k + 1), none⟩ = some (.int .i64 z) := hc'
        clear hc'
        have hput := fun W hr => rput_any z (some ⟨b, off + 122 * k, none⟩) (c1 - 122 * k) (chunk pages k) W hfx (by rw [← hnx]; exact hwr.out) hr
        rw [hl1] at hput
        have Hput := Lib.hid hput
        have Hnx := Lib.hid hnx
        have Hl1 := Lib.hid hl1
        have Hfx := Lib.hid hfx
        clear hput hnx hl1 hfx
        go_wp2_with fail
        refine (Hput.out _ Hch.out).mono ?_
        rintro e w2 ⟨rfl, hb2⟩
        have own2 := Lib.hid ((Over.under (B := 0) hb2).own Hown.out (by omega))
        have hbe2 := Lib.hid (Hbe.out.trans (hb2.mono Hbe.out.size))
        clear hb2
        go_wp2_with (at_builtin; refine wpList_append1 rfl _ _ 40 rfl w.heap.size 9 i0 (.string ByteArray.empty) 16 Try.underlying40 ti0 tz0 tz1 tz2 rfl w2 (.string (str (piece z (chunk pages k)))) rfl u5 k ((layTo own pages k).map .string) rfl own2.out rfl (by omega) (by decide) hbe2.out.size ?_; intro v' w3 hown3 happ)
        have hbe3 := happ.below hbe2.out own2.out (Nat.le_refl _) hbe2.out.size
        go_roundw
        case rel =>
          refine ⟨k + 1, by omega, by go_num, ?_, hbe3⟩
          rw [layTo_succ, List.map_append]
          have h9 := hown3
          rw [← Hnx.out] at h9
          exact h9
        case measure => simp [intOf]; omega
      · have hnx : nextOf own k = -1 := by
          unfold nextOf
          rw [List.getElem?_eq_none (by rw [Hn.out]; omega)]
          rfl
        have hq : m ≤ 122 * k + 122 := by have := hcnt.out; omega
        have hl1 : (chunk pages k).length = m - 122 * k := by rw [hlen.out, Hm.out]; omega
        have hki : ¬ (k : Int) + 1 < (n : Int) := by omega
        have hq2 : ¬ (122 : Int) * k + 122 < (m : Int) := by omega
        have hput := fun W hr => rput_any (-1) (some ⟨b, off + 122 * k, none⟩) (c1 - 122 * k) (chunk pages k) W (by omega) (by rw [← hnx]; exact hwr.out) hr
        rw [hl1] at hput
        have Hput := Lib.hid hput
        have Hnx := Lib.hid hnx
        have Hl1 := Lib.hid hl1
        clear hput hnx hl1
        by_cases hqq : (m : Int) < 122 * (k : Int) + 122
        · skip
          go_wp2_with fail
          refine (Hput.out _ Hch.out).mono ?_
          rintro e w2 ⟨rfl, hb2⟩
          have own2 := Lib.hid ((Over.under (B := 0) hb2).own Hown.out (by omega))
          have hbe2 := Lib.hid (Hbe.out.trans (hb2.mono Hbe.out.size))
          clear hb2
          go_wp2_with (at_builtin; refine wpList_append1 rfl _ _ 40 rfl w.heap.size 9 i0 (.string ByteArray.empty) 16 Try.underlying40 ti0 tz0 tz1 tz2 rfl w2 (.string (str (piece (-1) (chunk pages k)))) rfl u5 k ((layTo own pages k).map .string) rfl own2.out rfl (by omega) (by decide) hbe2.out.size ?_; intro v' w3 hown3 happ)
          have hbe3 := happ.below hbe2.out own2.out (Nat.le_refl _) hbe2.out.size
          go_roundw
          case rel =>
            refine ⟨k + 1, by omega, by go_num, ?_, hbe3⟩
            rw [layTo_succ, List.map_append]
            have h9 := hown3
            rw [← Hnx.out] at h9
            exact h9
          case measure => simp [intOf]; omega
        · skip
          have hp2 := Hput.out
          rw [show m - 122 * k = 122 by omega] at hp2
          have Hput := Lib.hid hp2
          clear hp2
          go_wp2_with fail
          refine (Hput.out _ Hch.out).mono ?_
          rintro e w2 ⟨rfl, hb2⟩
          have own2 := Lib.hid ((Over.under (B := 0) hb2).own Hown.out (by omega))
          have hbe2 := Lib.hid (Hbe.out.trans (hb2.mono Hbe.out.size))
          clear hb2
          go_wp2_with (at_builtin; refine wpList_append1 rfl _ _ 40 rfl w.heap.size 9 i0 (.string ByteArray.empty) 16 Try.underlying40 ti0 tz0 tz1 tz2 rfl w2 (.string (str (piece (-1) (chunk pages k)))) rfl u5 k ((layTo own pages k).map .string) rfl own2.out rfl (by omega) (by decide) hbe2.out.size ?_; intro v' w3 hown3 happ)
          have hbe3 := happ.below hbe2.out own2.out (Nat.le_refl _) hbe2.out.size
          go_roundw
          case rel =>
            refine ⟨k + 1, by omega, by go_num, ?_, hbe3⟩
            rw [layTo_succ, List.map_append]
            have h9 := hown3
            rw [← Hnx.out] at h9
            exact h9
          case measure => simp [intOf]; omega
    · have hnot : ¬ (k : Int) < (n : Int) := by omega
      go_wp2_with fail
      have hke : k = n := by omega
      subst hke
      go_ret
      obtain ⟨A, c, rfl⟩ := own_form Hown.out
      refine ⟨A, c, by rw [layTo_len]; rfl, own_row Hown.out, Hbe.out⟩

end Go.Proofs.Ytlmgmojicpdbeaa.Ch
