/- The contracts of package chain and of its reference (layer 12), second part: the reference's piece; how many pieces; rows held against each other. -/
import Derived.Test.YtlmgmojicpdbeaaCh1
import Derived.Test.YtlmgmojicpdbeaaOwn
import Derived.Test.YtlmgmojicpdbeaaCrc5
import Derived.Deep.QuietTactic
import Derived.BigQuiet
namespace Go.Proofs.Ytlmgmojicpdbeaa.Ch
open Go.RowKit Base Crc
set_option linter.unusedVariables false

theorem ret_i64 {a b : Int} (h : a = b) : Ending.returned (.int .i64 a) = .returned (.int .i64 b) := by rw [h]

set_option maxHeartbeats 1000000 in
theorem wrong_any (next : Int) (A : Option Addr) (c : Nat) (l : List Int) (w : World) (hm : l.length ≤ maxLen) (hr : Row w w.heap.size A (nums l)) :
    Calls Try.prog 38 #[.int .i64 next, .slice A l.length c] w fun e w' => e = .returned (.int .i64 (wrong next l)) ∧ w = w' := by
  unfold maxLen at hm
  unfold wrong
  by_cases h1 : 122 < l.length
  · rw [if_pos h1]
    generalize l.length = n at *
    go_enter Try.func38, Try.ntmps38
    go_wp2
    go_ret
    exact ⟨rfl, rfl⟩
  · rw [if_neg h1]
    by_cases h2 : 2046 < next
    · rw [if_pos h2]
      generalize l.length = n at *
      go_enter Try.func38, Try.ntmps38
      go_wp2
      go_ret
      exact ⟨rfl, rfl⟩
    · rw [if_neg h2]
      have Hr := Lib.hid hr
      clear hr
      generalize hN : l.length = n at *
      have Hn := Lib.hid hN
      clear hN
      generalize hR : (if l.all okPage = true then (0 : Int) else 2) = R
      have HR := Lib.hid hR
      clear hR
      go_enter Try.func38, Try.ntmps38
      go_wp2
      go_loop [14] (fun i => ∃ (k : Nat), k ≤ n ∧ i = .int .i64 k ∧ (l.take k).all okPage = true) (fun i => n - (intOf i).toNat)
      case atStart => exact ⟨0, Nat.zero_le _, rfl, by simp⟩
      case round =>
        obtain ⟨k, hk, rfl, hall⟩ := hrel
        have Hall := Lib.hid hall
        clear hall
        by_cases hkn : k < n
        · have hkl : k < l.length := by rw [Hn.out]; exact hkn
          obtain ⟨b, off, rfl, hb, hc⟩ := Hr.out.at_ (k := k) (by simpa using hkl)
          rw [List.getElem_map] at hc
          have hal := all_take hkl
          rw [Hall.out, Bool.true_and] at hal
          have hna := fun h => not_all hkl h
          have Hal := Lib.hid hal
          have Hna := Lib.hid hna
          clear hal hna
          generalize l[k]'hkl = z at *
          by_cases hz0 : z < 0
          · have hb2 : okPage z = false := by simp [okPage]; omega
            have h2' := Hna.out hb2
            have Hb2 := Lib.hid h2'
            clear hb2 h2'
            go_wp2
            go_ret
            refine ⟨ret_i64 ?_, rfl⟩
            rw [← HR.out, Hb2.out]; rfl
          · by_cases hz1 : 2046 < z
            · have hb2 : okPage z = false := by simp [okPage]; omega
              have h2' := Hna.out hb2
              have Hb2 := Lib.hid h2'
              clear hb2 h2'
              go_wp2
              go_ret
              refine ⟨ret_i64 ?_, rfl⟩
              rw [← HR.out, Hb2.out]; rfl
            · have hb2 : okPage z = true := by simp [okPage]; omega
              have Hb2 := Lib.hid hb2
              clear hb2
              go_wp2
              refine ⟨⟨k + 1, by omega, by go_num, by rw [Hal.out]; exact Hb2.out⟩, by simp [intOf]; omega⟩
        · have hd : l.take k = l := List.take_of_length_le (by rw [Hn.out]; omega)
          go_wp2
          go_ret
          refine ⟨ret_i64 ?_, rfl⟩
          have := Hall.out
          rw [hd] at this
          rw [← HR.out, this]; rfl

set_option maxHeartbeats 1000000 in
theorem rput_neg (next : Int) (A : Option Addr) (c : Nat) (l : List Int) (w : World) (hl : l.length ≤ 122) (hn : next < 2047) (hn' : -9223372036854775808 ≤ next) (hx : next < 0) (ha : l.all okPage = true) (hr : Row w w.heap.size A (nums l)) :
    Calls Try.prog 40 #[.int .i64 next, .slice A l.length c] w fun e w' => e = .returned (.string (str (piece next l))) ∧ Below w.heap.size w w' := by
  have Hr := Lib.hid hr
  have Ha := Lib.hid ha
  have hm : max next (-1) + 1 = 0 := by omega
  have Hm := Lib.hid hm
  clear hr ha hm
  generalize hN : l.length = n at *
  have Hn := Lib.hid hN
  clear hN
  go_enter Try.func40, Try.ntmps40
  go_wp2_with fail
  refine (two_any _ _ (by omega) (by omega)).mono ?_
  rintro e w1 ⟨rfl, hb1⟩
  go_wp2_with fail
  go_loopw [5, 16] (fun v i wr => ∃ (k : Nat), k ≤ n ∧ i = .int .i64 k ∧ v = .string (str (two 0 ++ body (l.take k))) ∧ Below w.heap.size w wr) (fun _ i _ => n - (intOf i).toNat)
  case atStart => exact ⟨0, Nat.zero_le _, rfl, by simp [body], hb1⟩
  case round =>
    obtain ⟨k, hk, rfl, rfl, hbe⟩ := hrel
    by_cases hkn : k < n
    · have hkl : k < l.length := by rw [Hn.out]; exact hkn
      obtain ⟨b, off, rfl, hb, hc⟩ := (Hr.out.below hbe).at_ (k := k) (by simpa using hkl)
      rw [List.getElem_map] at hc
      have hok : okPage (l[k]'hkl) = true := List.all_eq_true.1 Ha.out _ (List.getElem_mem hkl)
      have hz1 : (str (two 0 ++ body (l.take k))).size ≤ 1000 := by rw [str_size, List.length_append, body_len, List.length_take]; simp [two]; omega
      have hsn := body_snoc hkl
      have Hsn := Lib.hid hsn
      have Hok := Lib.hid hok
      clear hsn hok
      generalize l[k]'hkl = z at *
      have hz : 0 ≤ z ∧ z < 2047 := by have := Hok.out; simpa [okPage] using this
      have hz2 : (str (two z)).size ≤ 2 := by rw [str_size]; simp [two]
      generalize hS : str (two 0 ++ body (l.take k)) = S at *
      have HS := Lib.hid hS
      clear hS
      go_wp2_with fail
      refine (two_any z _ hz.1 (by omega)).mono ?_
      rintro e w2 ⟨rfl, hb2⟩
      clear hc
      go_wp2_with fail
      go_roundw
      case rel => exact ⟨k + 1, by omega, by go_num, by rw [← HS.out, Hsn.out, str_app, List.append_assoc], hbe.trans (hb2.mono hbe.size)⟩
      case measure => simp [intOf]; omega
    · have hd : l.take k = l := List.take_of_length_le (by rw [Hn.out]; omega)
      go_wp2_with fail
      go_ret
      unfold piece
      rw [hd, Hm.out]
      exact ⟨rfl, hbe⟩

set_option maxHeartbeats 1000000 in
theorem rput_pos (next : Int) (A : Option Addr) (c : Nat) (l : List Int) (w : World) (hl : l.length ≤ 122) (hn : next < 2047) (hn' : -9223372036854775808 ≤ next) (hx : ¬ next < 0) (ha : l.all okPage = true) (hr : Row w w.heap.size A (nums l)) :
    Calls Try.prog 40 #[.int .i64 next, .slice A l.length c] w fun e w' => e = .returned (.string (str (piece next l))) ∧ Below w.heap.size w w' := by
  have Hr := Lib.hid hr
  have Ha := Lib.hid ha
  have hm : max next (-1) + 1 = (next + 1) := by omega
  have Hm := Lib.hid hm
  clear hr ha hm
  generalize hN : l.length = n at *
  have Hn := Lib.hid hN
  clear hN
  go_enter Try.func40, Try.ntmps40
  go_wp2_with fail
  refine (two_any _ _ (by omega) (by omega)).mono ?_
  rintro e w1 ⟨rfl, hb1⟩
  go_wp2_with fail
  refine (two_any _ _ (by omega) (by omega)).mono ?_
  rintro e w2 ⟨rfl, hb2⟩
  replace hb1 := hb1.trans (hb2.mono hb1.size)
  clear hb2
  go_wp2_with fail
  go_loopw [5, 16] (fun v i wr => ∃ (k : Nat), k ≤ n ∧ i = .int .i64 k ∧ v = .string (str (two (next + 1) ++ body (l.take k))) ∧ Below w.heap.size w wr) (fun _ i _ => n - (intOf i).toNat)
  case atStart => exact ⟨0, Nat.zero_le _, rfl, by simp [body], hb1⟩
  case round =>
    obtain ⟨k, hk, rfl, rfl, hbe⟩ := hrel
    by_cases hkn : k < n
    · have hkl : k < l.length := by rw [Hn.out]; exact hkn
      obtain ⟨b, off, rfl, hb, hc⟩ := (Hr.out.below hbe).at_ (k := k) (by simpa using hkl)
      rw [List.getElem_map] at hc
      have hok : okPage (l[k]'hkl) = true := List.all_eq_true.1 Ha.out _ (List.getElem_mem hkl)
      have hz1 : (str (two (next + 1) ++ body (l.take k))).size ≤ 1000 := by rw [str_size, List.length_append, body_len, List.length_take]; simp [two]; omega
      have hsn := body_snoc hkl
      have Hsn := Lib.hid hsn
      have Hok := Lib.hid hok
      clear hsn hok
      generalize l[k]'hkl = z at *
      have hz : 0 ≤ z ∧ z < 2047 := by have := Hok.out; simpa [okPage] using this
      have hz2 : (str (two z)).size ≤ 2 := by rw [str_size]; simp [two]
      generalize hS : str (two (next + 1) ++ body (l.take k)) = S at *
      have HS := Lib.hid hS
      clear hS
      go_wp2_with fail
      refine (two_any z _ hz.1 (by omega)).mono ?_
      rintro e w2 ⟨rfl, hb2⟩
      clear hc
      go_wp2_with fail
      go_roundw
      case rel => exact ⟨k + 1, by omega, by go_num, by rw [← HS.out, Hsn.out, str_app, List.append_assoc], hbe.trans (hb2.mono hbe.size)⟩
      case measure => simp [intOf]; omega
    · have hd : l.take k = l := List.take_of_length_le (by rw [Hn.out]; omega)
      go_wp2_with fail
      go_ret
      unfold piece
      rw [hd, Hm.out]
      exact ⟨rfl, hbe⟩

theorem wrong_zero {next : Int} {l : List Int} (hw : wrong next l = 0) : l.length ≤ 122 ∧ next < 2047 ∧ l.all okPage = true := by
  unfold wrong at hw
  split at hw
  · cases hw
  · split at hw
    · cases hw
    · split at hw
      · exact ⟨by omega, by omega, by assumption⟩
      · cases hw
theorem rput_any (next : Int) (A : Option Addr) (c : Nat) (l : List Int) (w : World) (hn' : -9223372036854775808 ≤ next) (hw : wrong next l = 0) (hr : Row w w.heap.size A (nums l)) :
    Calls Try.prog 40 #[.int .i64 next, .slice A l.length c] w fun e w' => e = .returned (.string (str (piece next l))) ∧ Below w.heap.size w w' := by
  obtain ⟨hl, hn, ha⟩ := wrong_zero hw
  by_cases hx : next < 0
  · exact rput_neg next A c l w hl hn hn' hx ha hr
  · exact rput_pos next A c l w hl hn hn' hx ha hr

/-! ### how many pieces -/
def count (n : Int) : Int := if n ≤ 0 then 0 else (n - 1) / 122 + 1
theorem count_any (n : Int) (w : World) (h1 : n ≤ 9223372036854775807) :
    Calls Try.prog 43 #[.int .i64 n] w fun e w' => e = .returned (.int .i64 (count n)) ∧ w = w' := by
  unfold count
  by_cases h : n ≤ 0
  · rw [if_pos h]
    go_enter Try.func43, Try.ntmps43
    go_wp2
    go_ret
    exact ⟨rfl, rfl⟩
  · rw [if_neg h]
    have h0 : 0 < n := by omega
    go_enter Try.func43, Try.ntmps43
    go_wp2
    go_ret
    exact ⟨rfl, rfl⟩
theorem rcount_any (n : Int) (w : World) (h1 : n ≤ 9223372036854775807) :
    Calls Try.prog 44 #[.int .i64 n] w fun e w' => e = .returned (.int .i64 (count n)) ∧ w = w' := by
  unfold count
  by_cases h : n ≤ 0
  · rw [if_pos h]
    go_enter Try.func44, Try.ntmps44
    go_wp2
    go_ret
    exact ⟨rfl, rfl⟩
  · rw [if_neg h]
    have h0 : 0 < n := by omega
    go_enter Try.func44, Try.ntmps44
    go_wp2
    · go_ret
      exact ⟨ret_i64 (by omega), rfl⟩
    · go_ret
      exact ⟨ret_i64 (by omega), rfl⟩

/-! ### rows held against each other -/
set_option maxHeartbeats 1000000 in
theorem ints_any (A B : Option Addr) (c d : Nat) (l m : List Int) (w : World) (hl : l.length ≤ maxLen) (hm : m.length ≤ maxLen) (hr : Row w w.heap.size A (nums l)) (hs : Row w w.heap.size B (nums m)) :
    Calls Try.prog 41 #[.slice A l.length c, .slice B m.length d] w fun e w' => e = .returned (.bool (l == m)) ∧ Below w.heap.size w w' := by
  unfold maxLen at hl hm
  have Hr := Lib.hid hr
  have Hs := Lib.hid hs
  clear hr hs
  by_cases hlen : l.length = m.length
  · have Hlen := Lib.hid hlen
    have hne : ((l.length : Int) != (l.length : Int)) = false := by simp
    rw [← hlen] at hm ⊢
    clear hlen
    generalize hN : l.length = n at *
    have Hn := Lib.hid hN
    clear hN
    generalize hQ : (l == m) = Q
    have HQ := Lib.hid hQ
    clear hQ
    go_enter Try.func41, Try.ntmps41
    go_wp2
    go_loopw [13] (fun i wr => ∃ (k : Nat), k ≤ n ∧ i = .int .i64 k ∧ l.take k = m.take k ∧ Below w.heap.size w wr) (fun i _ => n - (intOf i).toNat)
    case atStart => exact ⟨0, Nat.zero_le _, rfl, by simp, Below.refl _ _⟩
    case round =>
      obtain ⟨k, hk, rfl, heq, hbe⟩ := hrel
      have Heq := Lib.hid heq
      clear heq
      by_cases hkn : k < n
      · have hkl : k < l.length := by rw [Hn.out]; exact hkn
        have hkm : k < m.length := by rw [← Hlen.out]; exact hkn
        obtain ⟨b, off, rfl, hb, hc⟩ := (Hr.out.below hbe).at_ (k := k) (by simpa using hkl)
        obtain ⟨b', off', rfl, hb', hc'⟩ := (Hs.out.below hbe).at_ (k := k) (by simpa using hkm)
        rw [List.getElem_map] at hc hc'
        have h1 := List.take_succ_eq_append_getElem hkl
        have h2 := List.take_succ_eq_append_getElem hkm
        have hdif : l[k]'hkl ≠ m[k]'hkm → (l == m) = false := by
          intro h
          simp only [beq_eq_false_iff_ne]
          intro e
          subst e
          exact h rfl
        have H1 := Lib.hid h1
        have H2 := Lib.hid h2
        have Hdif := Lib.hid hdif
        clear h1 h2 hdif
        have hi0 : (0 : Int) ≤ (k : Int) := by omega
        have hi1 : (k : Int) < (n : Int) := by omega
        generalize l[k]'hkl = x at *
        generalize m[k]'hkm = y at *
        by_cases hxy : x = y
        · have hb2 : (x != y) = false := by simp [hxy]
          have Hxy := Lib.hid hxy
          clear hxy
          go_wp2
          go_quiet (fail)
          go_wp2
          go_roundw
          case rel => exact ⟨k + 1, by omega, by go_num, by rw [H1.out, H2.out, Heq.out, Hxy.out], below_drewN hbe _⟩
          case measure => simp [intOf]; omega
        · have hb2 : (x != y) = true := by simp [hxy]
          have hf := Hdif.out hxy
          have Hf := Lib.hid hf
          clear hxy hf
          go_wp2
          go_quiet (fail)
          go_wp2
          go_ret
          exact ⟨by rw [← HQ.out, Hf.out]; rfl, below_drewN hbe _⟩
      · go_wp2
        go_ret
        refine ⟨?_, hbe⟩
        have := Heq.out
        rw [List.take_of_length_le (by rw [Hn.out]; omega), List.take_of_length_le (by rw [← Hlen.out]; omega)] at this
        rw [← HQ.out, this]
        simp
  · have hne : ((l.length : Int) != (m.length : Int)) = true := by simp; omega
    have hf : (l == m) = false := by
      simp only [beq_eq_false_iff_ne]
      intro e
      exact hlen (by rw [e])
    rw [hf]
    clear hlen hf
    generalize l.length = n at *
    generalize m.length = n' at *
    go_enter Try.func41, Try.ntmps41
    go_wp2
    go_ret
    exact ⟨rfl, Below.refl _ _⟩

end Go.Proofs.Ytlmgmojicpdbeaa.Ch
