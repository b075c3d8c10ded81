/- The contracts of package chain and of its reference (layer 12), first part: a number's two bytes; a piece's bytes. -/
import Derived.Test.YtlmgmojicpdbeaaCrc4
namespace Go.Proofs.Ytlmgmojicpdbeaa.Ch
open Go.RowKit Base Crc
set_option linter.unusedVariables false

abbrev nums (l : List Int) : List Value := l.map (.int .i64)
/-- a number as two bytes, the higher one first -/
def two (n : Int) : List UInt8 := [byt (n / 256).toNat, byt (n % 256).toNat]
theorem conv_two (w : World) (x y : Int) (h0 : 0 ≤ x) (h1 : x < 256) (h2 : 0 ≤ y) (h3 : y < 256) :
    (convert 67 9 (.slice (some ⟨w.heap.size, 0, none⟩) 2 2)).run Try.prog (w.alloc (.cells #[.int .u8 x, .int .u8 y] 5)) = .ok (.string (str [byt x.toNat, byt y.toNat])) (w.alloc (.cells #[.int .u8 x, .int .u8 y] 5)) :=
  conv_new w [x, y] (by intro z hz; simp at hz; omega)

theorem number_any (n : Int) (w : World) (h0 : 0 ≤ n) (h1 : n < 65536) :
    Calls Try.prog 58 #[.int .i64 n] w fun e w' => e = .returned (.string (str (two n))) ∧ Below w.heap.size w w' := by
  have hc := fun w => conv_two w (n / 256) (n % 256) (by omega) (by omega) (by omega) (by omega)
  go_enter Try.func58, Try.ntmps58
  go_wp2
  go_ret
  exact ⟨rfl, (by repeat (first | exact Below.refl _ _ | assumption | refine Below.drew ?_ | (refine Below.alloc ?_ (by simp <;> omega) _) | (refine Below.setCell ?_ (by simp <;> omega) _)))⟩
theorem two_any (n : Int) (w : World) (h0 : 0 ≤ n) (h1 : n < 65536) :
    Calls Try.prog 60 #[.int .i64 n] w fun e w' => e = .returned (.string (str (two n))) ∧ Below w.heap.size w w' := by
  have hc := fun w => conv_two w (n / 256) (n % 256) (by omega) (by omega) (by omega) (by omega)
  go_enter Try.func60, Try.ntmps60
  go_wp2
  go_ret
  exact ⟨rfl, (by repeat (first | exact Below.refl _ _ | assumption | refine Below.drew ?_ | (refine Below.alloc ?_ (by simp <;> omega) _) | (refine Below.setCell ?_ (by simp <;> omega) _)))⟩

/-- may a number be a page's? -/
def okPage (n : Int) : Bool := decide (0 ≤ n) && decide (n < 2047)
theorem may_yes (n : Int) (w : World) (h : okPage n = true) :
    Calls Try.prog 59 #[.int .i64 n] w fun e w' => e = .returned (.bool true) ∧ w = w' := by
  simp [okPage] at h
  obtain ⟨h0, h1⟩ := h
  go_enter Try.func59, Try.ntmps59
  go_wp2
  go_ret
  exact ⟨by simp <;> omega, rfl⟩
theorem may_no (n : Int) (w : World) (h : okPage n = false) :
    Calls Try.prog 59 #[.int .i64 n] w fun e w' => e = .returned (.bool false) ∧ w = w' := by
  simp [okPage] at h
  by_cases h0 : 0 ≤ n
  · have h1 := h h0
    go_enter Try.func59, Try.ntmps59
    go_wp2
    go_ret
    exact ⟨by simp <;> omega, rfl⟩
  · go_enter Try.func59, Try.ntmps59
    go_wp2
    go_ret
    exact ⟨by simp <;> omega, rfl⟩

/-- the number of why there is no piece; 0: there is one -/
def wrong (next : Int) (l : List Int) : Int := if 122 < l.length then 5 else if 2046 < next then 2 else if l.all okPage then 0 else 2
/-- pages as bytes -/
def body (l : List Int) : List UInt8 := l.flatMap two
def piece (next : Int) (l : List Int) : List UInt8 := two (max next (-1) + 1) ++ body l
theorem body_len (l : List Int) : (body l).length = 2 * l.length := by
  induction l with
  | nil => rfl
  | cons n l ih => simp only [body, List.flatMap_cons, List.length_append, List.length_cons] at ih ⊢; rw [ih]; simp [two]; omega
theorem body_snoc {l : List Int} {k : Nat} (hk : k < l.length) : body (l.take (k + 1)) = body (l.take k) ++ two l[k] := by
  unfold body
  rw [List.take_succ_eq_append_getElem hk, List.flatMap_append]
  simp
theorem all_take {l : List Int} {k : Nat} (hk : k < l.length) : (l.take (k + 1)).all okPage = ((l.take k).all okPage && okPage l[k]) := by
  rw [List.take_succ_eq_append_getElem hk, List.all_append]
  simp
theorem not_all {l : List Int} {k : Nat} (hk : k < l.length) (h : okPage l[k] = false) : l.all okPage = false := by
  rw [List.all_eq_false]
  exact ⟨_, List.getElem_mem hk, by simp [h]⟩


set_option maxHeartbeats 1000000 in
theorem put_ok_neg (next : Int) (A : Option Addr) (c : Nat) (l : List Int) (w : World) (hl : l.length ≤ 122) (hn : next < 2047) (hn' : -9223372036854775808 ≤ next) (hx : next < -1) (ha : l.all okPage = true) (hr : Row w w.heap.size A (nums l)) :
    Calls Try.prog 37 #[.int .i64 next, .slice A l.length c] w fun e w' => e = .returned (.tuple #[.string (str (piece next l)), .int .i64 0]) ∧ Below w.heap.size w w' := by
  have Hr := Lib.hid hr
  have Ha := Lib.hid ha
  have hm : max next (-1) + 1 = 0 := by omega
  have Hp : Hid (∀ k, str (two 0 ++ body (l.take k)) = str (two 0 ++ body (l.take k))) := fun _ => rfl
  have Hm := Lib.hid hm
  clear hr ha hm
  generalize hN : l.length = n at *
  have Hn := Lib.hid hN
  clear hN
  go_enter Try.func37, Try.ntmps37
  go_wp2_with fail
  refine (number_any _ _ (by omega) (by omega)).mono ?_
  rintro e w1 ⟨rfl, hb1⟩
  go_wp2_with fail
  go_loopw [6, 20] (fun v i wr => ∃ (k : Nat), k ≤ n ∧ i = .int .i64 k ∧ v = .string (str (two 0 ++ body (l.take k))) ∧ Below w.heap.size w wr) (fun _ i _ => n - (intOf i).toNat)
  case atStart => exact ⟨0, Nat.zero_le _, rfl, by simp [body], hb1⟩
  case round =>
    obtain ⟨k, hk, rfl, rfl, hbe⟩ := hrel
    by_cases hkn : k < n
    · have hkl : k < l.length := by rw [Hn.out]; exact hkn
      obtain ⟨b, off, rfl, hb, hc⟩ := (Hr.out.below hbe).at_ (k := k) (by simpa using hkl)
      rw [List.getElem_map] at hc
      have hok : okPage (l[k]'hkl) = true := List.all_eq_true.1 Ha.out _ (List.getElem_mem hkl)
      have hz1 : (str (two 0 ++ body (l.take k))).size ≤ 1000 := by rw [str_size, List.length_append, body_len, List.length_take]; simp [two]; omega
      have hsn := body_snoc hkl
      have Hsn := Lib.hid hsn
      have Hok := Lib.hid hok
      clear hsn hok
      generalize l[k]'hkl = z at *
      have hz : 0 ≤ z ∧ z < 2047 := by have := Hok.out; simpa [okPage] using this
      have hz2 : (str (two z)).size ≤ 2 := by rw [str_size]; simp [two]
      generalize hS : str (two 0 ++ body (l.take k)) = S at *
      have HS := Lib.hid hS
      clear hS
      go_wp2_with fail
      refine (may_yes z _ Hok.out).mono ?_
      rintro e w' ⟨rfl, rfl⟩
      go_wp2_with fail
      refine (number_any z _ hz.1 (by omega)).mono ?_
      rintro e w2 ⟨rfl, hb2⟩
      clear hc
      go_wp2_with fail
      go_roundw
      case rel => exact ⟨k + 1, by omega, by go_num, by rw [← HS.out, Hsn.out, str_app, List.append_assoc], hbe.trans (hb2.mono hbe.size)⟩
      case measure => simp [intOf]; omega
    · have hd : l.take k = l := List.take_of_length_le (by rw [Hn.out]; omega)
      go_wp2_with fail
      go_ret2
      unfold piece
      rw [hd, Hm.out]
      exact ⟨rfl, hbe⟩

set_option maxHeartbeats 1000000 in
theorem put_ok_pos (next : Int) (A : Option Addr) (c : Nat) (l : List Int) (w : World) (hl : l.length ≤ 122) (hn : next < 2047) (hn' : -9223372036854775808 ≤ next) (hx : ¬ next < -1) (ha : l.all okPage = true) (hr : Row w w.heap.size A (nums l)) :
    Calls Try.prog 37 #[.int .i64 next, .slice A l.length c] w fun e w' => e = .returned (.tuple #[.string (str (piece next l)), .int .i64 0]) ∧ Below w.heap.size w w' := by
  have Hr := Lib.hid hr
  have Ha := Lib.hid ha
  have hm : max next (-1) + 1 = (next + 1) := by omega
  have Hp : Hid (∀ k, str (two (next + 1) ++ body (l.take k)) = str (two (next + 1) ++ body (l.take k))) := fun _ => rfl
  have Hm := Lib.hid hm
  clear hr ha hm
  generalize hN : l.length = n at *
  have Hn := Lib.hid hN
  clear hN
  go_enter Try.func37, Try.ntmps37
  go_wp2_with fail
  refine (number_any _ _ (by omega) (by omega)).mono ?_
  rintro e w1 ⟨rfl, hb1⟩
  go_wp2_with fail
  go_loopw [6, 20] (fun v i wr => ∃ (k : Nat), k ≤ n ∧ i = .int .i64 k ∧ v = .string (str (two (next + 1) ++ body (l.take k))) ∧ Below w.heap.size w wr) (fun _ i _ => n - (intOf i).toNat)
  case atStart => exact ⟨0, Nat.zero_le _, rfl, by simp [body], hb1⟩
  case round =>
    obtain ⟨k, hk, rfl, rfl, hbe⟩ := hrel
    by_cases hkn : k < n
    · have hkl : k < l.length := by rw [Hn.out]; exact hkn
      obtain ⟨b, off, rfl, hb, hc⟩ := (Hr.out.below hbe).at_ (k := k) (by simpa using hkl)
      rw [List.getElem_map] at hc
      have hok : okPage (l[k]'hkl) = true := List.all_eq_true.1 Ha.out _ (List.getElem_mem hkl)
      have hz1 : (str (two (next + 1) ++ body (l.take k))).size ≤ 1000 := by rw [str_size, List.length_append, body_len, List.length_take]; simp [two]; omega
      have hsn := body_snoc hkl
      have Hsn := Lib.hid hsn
      have Hok := Lib.hid hok
      clear hsn hok
      generalize l[k]'hkl = z at *
      have hz : 0 ≤ z ∧ z < 2047 := by have := Hok.out; simpa [okPage] using this
      have hz2 : (str (two z)).size ≤ 2 := by rw [str_size]; simp [two]
      generalize hS : str (two (next + 1) ++ body (l.take k)) = S at *
      have HS := Lib.hid hS
      clear hS
      go_wp2_with fail
      refine (may_yes z _ Hok.out).mono ?_
      rintro e w' ⟨rfl, rfl⟩
      go_wp2_with fail
      refine (number_any z _ hz.1 (by omega)).mono ?_
      rintro e w2 ⟨rfl, hb2⟩
      clear hc
      go_wp2_with fail
      go_roundw
      case rel => exact ⟨k + 1, by omega, by go_num, by rw [← HS.out, Hsn.out, str_app, List.append_assoc], hbe.trans (hb2.mono hbe.size)⟩
      case measure => simp [intOf]; omega
    · have hd : l.take k = l := List.take_of_length_le (by rw [Hn.out]; omega)
      go_wp2_with fail
      go_ret2
      unfold piece
      rw [hd, Hm.out]
      exact ⟨rfl, hbe⟩

set_option maxHeartbeats 1000000 in
theorem put_bad_neg (next : Int) (A : Option Addr) (c : Nat) (l : List Int) (w : World) (hl : l.length ≤ 122) (hn : next < 2047) (hn' : -9223372036854775808 ≤ next) (hx : next < -1) (ha : l.all okPage = false) (hr : Row w w.heap.size A (nums l)) :
    Calls Try.prog 37 #[.int .i64 next, .slice A l.length c] w fun e w' => e = .returned (.tuple #[.string ⟨#[]⟩, .int .i64 2]) ∧ Below w.heap.size w w' := by
  have Hr := Lib.hid hr
  have Ha := Lib.hid ha
  clear hr ha
  generalize hN : l.length = n at *
  have Hn := Lib.hid hN
  clear hN
  go_enter Try.func37, Try.ntmps37
  go_wp2_with fail
  refine (number_any _ _ (by omega) (by omega)).mono ?_
  rintro e w1 ⟨rfl, hb1⟩
  go_wp2_with fail
  go_loopw [6, 20] (fun v i wr => ∃ (k : Nat), k ≤ n ∧ i = .int .i64 k ∧ v = .string (str (two 0 ++ body (l.take k))) ∧ (l.take k).all okPage = true ∧ Below w.heap.size w wr) (fun _ i _ => n - (intOf i).toNat)
  case atStart => exact ⟨0, Nat.zero_le _, rfl, by simp [body], by simp, hb1⟩
  case round =>
    obtain ⟨k, hk, rfl, rfl, hall, hbe⟩ := hrel
    have Hall := Lib.hid hall
    clear hall
    by_cases hkn : k < n
    · have hkl : k < l.length := by rw [Hn.out]; exact hkn
      obtain ⟨b, off, rfl, hb, hc⟩ := (Hr.out.below hbe).at_ (k := k) (by simpa using hkl)
      rw [List.getElem_map] at hc
      have hz1 : (str (two 0 ++ body (l.take k))).size ≤ 1000 := by rw [str_size, List.length_append, body_len, List.length_take]; simp [two]; omega
      have hsn := body_snoc hkl
      have hal := all_take hkl
      rw [Hall.out, Bool.true_and] at hal
      have Hsn := Lib.hid hsn
      have Hal := Lib.hid hal
      clear hsn hal
      generalize l[k]'hkl = z at *
      generalize hS : str (two 0 ++ body (l.take k)) = S at *
      have HS := Lib.hid hS
      clear hS
      rcases hok : okPage z with _ | _
      · have Hok := Lib.hid hok
        clear hok
        go_wp2_with fail
        refine (may_no z _ Hok.out).mono ?_
        rintro e w' ⟨rfl, rfl⟩
        go_wp2_with fail
        go_ret2
        exact ⟨rfl, hbe⟩
      · rw [hok] at Hal
        have Hok := Lib.hid hok
        clear hok
        have hz : 0 ≤ z ∧ z < 2047 := by have := Hok.out; simpa [okPage] using this
        have hz2 : (str (two z)).size ≤ 2 := by rw [str_size]; simp [two]
        go_wp2_with fail
        refine (may_yes z _ Hok.out).mono ?_
        rintro e w' ⟨rfl, rfl⟩
        go_wp2_with fail
        refine (number_any z _ hz.1 (by omega)).mono ?_
        rintro e w2 ⟨rfl, hb2⟩
        clear hc
        go_wp2_with fail
        go_roundw
        case rel => exact ⟨k + 1, by omega, by go_num, by rw [← HS.out, Hsn.out, str_app, List.append_assoc], Hal.out, hbe.trans (hb2.mono hbe.size)⟩
        case measure => simp [intOf]; omega
    · exfalso
      have hd : l.take k = l := List.take_of_length_le (by rw [Hn.out]; omega)
      have := Hall.out
      rw [hd, Ha.out] at this
      cases this

set_option maxHeartbeats 1000000 in
theorem put_bad_pos (next : Int) (A : Option Addr) (c : Nat) (l : List Int) (w : World) (hl : l.length ≤ 122) (hn : next < 2047) (hn' : -9223372036854775808 ≤ next) (hx : ¬ next < -1) (ha : l.all okPage = false) (hr : Row w w.heap.size A (nums l)) :
    Calls Try.prog 37 #[.int .i64 next, .slice A l.length c] w fun e w' => e = .returned (.tuple #[.string ⟨#[]⟩, .int .i64 2]) ∧ Below w.heap.size w w' := by
  have Hr := Lib.hid hr
  have Ha := Lib.hid ha
  clear hr ha
  generalize hN : l.length = n at *
  have Hn := Lib.hid hN
  clear hN
  go_enter Try.func37, Try.ntmps37
  go_wp2_with fail
  refine (number_any _ _ (by omega) (by omega)).mono ?_
  rintro e w1 ⟨rfl, hb1⟩
  go_wp2_with fail
  go_loopw [6, 20] (fun v i wr => ∃ (k : Nat), k ≤ n ∧ i = .int .i64 k ∧ v = .string (str (two (next + 1) ++ body (l.take k))) ∧ (l.take k).all okPage = true ∧ Below w.heap.size w wr) (fun _ i _ => n - (intOf i).toNat)
  case atStart => exact ⟨0, Nat.zero_le _, rfl, by simp [body], by simp, hb1⟩
  case round =>
    obtain ⟨k, hk, rfl, rfl, hall, hbe⟩ := hrel
    have Hall := Lib.hid hall
    clear hall
    by_cases hkn : k < n
    · have hkl : k < l.length := by rw [Hn.out]; exact hkn
      obtain ⟨b, off, rfl, hb, hc⟩ := (Hr.out.below hbe).at_ (k := k) (by simpa using hkl)
      rw [List.getElem_map] at hc
      have hz1 : (str (two (next + 1) ++ body (l.take k))).size ≤ 1000 := by rw [str_size, List.length_append, body_len, List.length_take]; simp [two]; omega
      have hsn := body_snoc hkl
      have hal := all_take hkl
      rw [Hall.out, Bool.true_and] at hal
      have Hsn := Lib.hid hsn
      have Hal := Lib.hid hal
      clear hsn hal
      generalize l[k]'hkl = z at *
      generalize hS : str (two (next + 1) ++ body (l.take k)) = S at *
      have HS := Lib.hid hS
      clear hS
      rcases hok : okPage z with _ | _
      · have Hok := Lib.hid hok
        clear hok
        go_wp2_with fail
        refine (may_no z _ Hok.out).mono ?_
        rintro e w' ⟨rfl, rfl⟩
        go_wp2_with fail
        go_ret2
        exact ⟨rfl, hbe⟩
      · rw [hok] at Hal
        have Hok := Lib.hid hok
        clear hok
        have hz : 0 ≤ z ∧ z < 2047 := by have := Hok.out; simpa [okPage] using this
        have hz2 : (str (two z)).size ≤ 2 := by rw [str_size]; simp [two]
        go_wp2_with fail
        refine (may_yes z _ Hok.out).mono ?_
        rintro e w' ⟨rfl, rfl⟩
        go_wp2_with fail
        refine (number_any z _ hz.1 (by omega)).mono ?_
        rintro e w2 ⟨rfl, hb2⟩
        clear hc
        go_wp2_with fail
        go_roundw
        case rel => exact ⟨k + 1, by omega, by go_num, by rw [← HS.out, Hsn.out, str_app, List.append_assoc], Hal.out, hbe.trans (hb2.mono hbe.size)⟩
        case measure => simp [intOf]; omega
    · exfalso
      have hd : l.take k = l := List.take_of_length_le (by rw [Hn.out]; omega)
      have := Hall.out
      rw [hd, Ha.out] at this
      cases this

theorem put_long (next : Int) (A : Option Addr) (c : Nat) (n : Nat) (w : World) (hl : 122 < n) (hm : n ≤ maxLen) :
    Calls Try.prog 37 #[.int .i64 next, .slice A n c] w fun e w' => e = .returned (.tuple #[.string ⟨#[]⟩, .int .i64 5]) ∧ Below w.heap.size w w' := by
  unfold maxLen at hm
  go_enter Try.func37, Try.ntmps37
  go_wp2
  go_ret2
  exact ⟨rfl, Below.refl _ _⟩
theorem put_far (next : Int) (A : Option Addr) (c : Nat) (n : Nat) (w : World) (hl : n ≤ 122) (hn : ¬ next < 2047) :
    Calls Try.prog 37 #[.int .i64 next, .slice A n c] w fun e w' => e = .returned (.tuple #[.string ⟨#[]⟩, .int .i64 2]) ∧ Below w.heap.size w w' := by
  go_enter Try.func37, Try.ntmps37
  go_wp2
  go_ret2
  exact ⟨rfl, Below.refl _ _⟩

/-- Put, whatever comes -/
theorem put_yes (next : Int) (A : Option Addr) (c : Nat) (l : List Int) (w : World) (hn' : -9223372036854775808 ≤ next) (hw : wrong next l = 0) (hr : Row w w.heap.size A (nums l)) :
    Calls Try.prog 37 #[.int .i64 next, .slice A l.length c] w fun e w' => e = .returned (.tuple #[.string (str (piece next l)), .int .i64 0]) ∧ Below w.heap.size w w' := by
  unfold wrong at hw
  split at hw
  · cases hw
  · split at hw
    · cases hw
    · split at hw
      · rename_i h1 h2 h3
        by_cases hx : next < -1
        · exact put_ok_neg next A c l w (by omega) (by omega) hn' hx h3 hr
        · exact put_ok_pos next A c l w (by omega) (by omega) hn' hx h3 hr
      · cases hw
theorem put_no (next : Int) (A : Option Addr) (c : Nat) (l : List Int) (w : World) (hn' : -9223372036854775808 ≤ next) (hm : l.length ≤ maxLen) (hw : wrong next l ≠ 0) (hr : Row w w.heap.size A (nums l)) :
    Calls Try.prog 37 #[.int .i64 next, .slice A l.length c] w fun e w' => e = .returned (.tuple #[.string ⟨#[]⟩, .int .i64 (wrong next l)]) ∧ Below w.heap.size w w' := by
  unfold wrong at hw ⊢
  by_cases h1 : 122 < l.length
  · rw [if_pos h1]; exact put_long next A c _ w h1 hm
  · rw [if_neg h1] at hw ⊢
    by_cases h2 : 2046 < next
    · rw [if_pos h2]; exact put_far next A c _ w (by omega) (by omega)
    · rw [if_neg h2] at hw ⊢
      by_cases h3 : l.all okPage = true
      · rw [if_pos h3] at hw; exact absurd rfl hw
      · rw [if_neg h3]
        by_cases hx : next < -1
        · exact put_bad_neg next A c l w (by omega) (by omega) hn' hx (by simpa using h3) hr
        · exact put_bad_pos next A c l w (by omega) (by omega) hn' hx (by simpa using h3) hr

end Go.Proofs.Ytlmgmojicpdbeaa.Ch
