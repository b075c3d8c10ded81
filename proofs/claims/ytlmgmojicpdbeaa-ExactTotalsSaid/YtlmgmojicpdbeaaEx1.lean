/- The contracts of package exact and of its reference (layer 3): sums that fit, or are told. -/
import Derived.Test.YtlmgmojicpdbeaaRows
import Derived.WalkKit
import Derived.ProofKit
import Derived.Outline
import Derived.Below
import Derived.Lib.Hide
namespace Go.Proofs.Ytlmgmojicpdbeaa.Ex
open Go.RowKit

/-- fits in 64 bits with a sign -/
def fit (n : Int) : Prop := -9223372036854775808 ≤ n ∧ n ≤ 9223372036854775807
instance (n : Int) : Decidable (fit n) := inferInstanceAs (Decidable (_ ∧ _))

/-- a number, if it fits -/
def cap (n : Int) : Int := if fit n then n else 0
def fits (n : Int) : Bool := decide (fit n)
theorem cap_yes {n : Int} (h : fit n) : cap n = n := if_pos h
theorem cap_no {n : Int} (h : ¬ fit n) : cap n = 0 := if_neg h
theorem fits_yes {n : Int} (h : fit n) : fits n = true := by simp [fits, h]
theorem fits_no {n : Int} (h : ¬ fit n) : fits n = false := by simp [fits, h]
theorem fit_cap (n : Int) : fit (cap n) := by
  unfold cap
  split
  · assumption
  · unfold fit; omega

theorem add_yes (a b : Int) (w : World) (ha : fit a) (hb : fit b) (h : fit (a + b)) :
    Calls Try.prog 14 #[.int .i64 a, .int .i64 b] w fun e w' => e = .returned (.tuple #[.int .i64 (a + b), .bool true]) ∧ w = w' := by
  unfold fit at ha hb h
  obtain ⟨ha1, ha2⟩ := ha
  obtain ⟨hb1, hb2⟩ := hb
  obtain ⟨h1, h2⟩ := h
  go_enter Try.func14, Try.ntmps14
  go_wp2
  all_goals (go_ret2; exact ⟨rfl, rfl⟩)

theorem add_no (a b : Int) (w : World) (ha : fit a) (hb : fit b) (h : ¬ fit (a + b)) :
    Calls Try.prog 14 #[.int .i64 a, .int .i64 b] w fun e w' => e = .returned (.tuple #[.int .i64 0, .bool false]) ∧ w = w' := by
  unfold fit at ha hb h
  obtain ⟨ha1, ha2⟩ := ha
  obtain ⟨hb1, hb2⟩ := hb
  by_cases h0 : 0 < b
  · have h1 : 9223372036854775807 - b < a := by omega
    clear h
    go_enter Try.func14, Try.ntmps14
    go_wp2
    all_goals (go_ret2; exact ⟨rfl, rfl⟩)
  · have h1 : a < -9223372036854775808 - b := by omega
    have h2 : b < 0 := by omega
    clear h
    go_enter Try.func14, Try.ntmps14
    go_wp2
    all_goals (go_ret2; exact ⟨rfl, rfl⟩)

theorem add_any (a b : Int) (w : World) (ha : fit a) (hb : fit b) :
    Calls Try.prog 14 #[.int .i64 a, .int .i64 b] w fun e w' => e = .returned (.tuple #[.int .i64 (cap (a + b)), .bool (fits (a + b))]) ∧ w = w' := by
  by_cases h : fit (a + b)
  · rw [cap_yes h, fits_yes h]; exact add_yes a b w ha hb h
  · rw [cap_no h, fits_no h]; exact add_no a b w ha hb h

theorem sub_yes (a b : Int) (w : World) (ha : fit a) (hb : fit b) (h : fit (a - b)) :
    Calls Try.prog 16 #[.int .i64 a, .int .i64 b] w fun e w' => e = .returned (.tuple #[.int .i64 (a - b), .bool true]) ∧ w = w' := by
  unfold fit at ha hb h
  obtain ⟨ha1, ha2⟩ := ha
  obtain ⟨hb1, hb2⟩ := hb
  obtain ⟨h1, h2⟩ := h
  go_enter Try.func16, Try.ntmps16
  go_wp2
  all_goals (go_ret2; exact ⟨rfl, rfl⟩)

theorem sub_no (a b : Int) (w : World) (ha : fit a) (hb : fit b) (h : ¬ fit (a - b)) :
    Calls Try.prog 16 #[.int .i64 a, .int .i64 b] w fun e w' => e = .returned (.tuple #[.int .i64 0, .bool false]) ∧ w = w' := by
  unfold fit at ha hb h
  obtain ⟨ha1, ha2⟩ := ha
  obtain ⟨hb1, hb2⟩ := hb
  by_cases h0 : 0 < b
  · have h1 : a < -9223372036854775808 + b := by omega
    clear h
    go_enter Try.func16, Try.ntmps16
    go_wp2
    all_goals (go_ret2; exact ⟨rfl, rfl⟩)
  · have h1 : 9223372036854775807 + b < a := by omega
    have h2 : b < 0 := by omega
    clear h
    go_enter Try.func16, Try.ntmps16
    go_wp2
    all_goals (go_ret2; exact ⟨rfl, rfl⟩)

theorem sub_any (a b : Int) (w : World) (ha : fit a) (hb : fit b) :
    Calls Try.prog 16 #[.int .i64 a, .int .i64 b] w fun e w' => e = .returned (.tuple #[.int .i64 (cap (a - b)), .bool (fits (a - b))]) ∧ w = w' := by
  by_cases h : fit (a - b)
  · rw [cap_yes h, fits_yes h]; exact sub_yes a b w ha hb h
  · rw [cap_no h, fits_no h]; exact sub_no a b w ha hb h

/-! ### the reference -/
theorem ret2_int {a b c d : Int} (h : a = b) (k : c = d) : Ending.returned (.tuple #[.int .i64 a, .int .i64 c]) = .returned (.tuple #[.int .i64 b, .int .i64 d]) := by rw [h, k]

theorem tmod_neg {n : Int} (h : n < 0) : n.tmod 4294967296 = -((-n) % 4294967296) := by
  have : n = -(-n) := by omega
  rw [this, Int.neg_tmod, Int.tmod_eq_emod_of_nonneg (by omega)]; simp
theorem tdiv_of {x q : Int} (h : x = q * 4294967296) : x.tdiv 4294967296 = q := by
  rw [h]; exact Int.mul_tdiv_cancel q (by omega)
theorem big_low1 {n : Int} (hn : fit n) (h : n.tmod 4294967296 < 0) : wrap64 (n.tmod 4294967296 + 4294967296) = n % 4294967296 := by
  unfold fit at hn
  have h0 : n < 0 := by
    by_cases h0 : n < 0
    · exact h0
    · rw [Int.tmod_eq_emod_of_nonneg (by omega)] at h; omega
  rw [tmod_neg h0] at h ⊢
  unfold wrap64; omega
theorem big_low2 {n : Int} (h : 0 ≤ n.tmod 4294967296) : n.tmod 4294967296 = n % 4294967296 := by
  by_cases h0 : n < 0
  · rw [tmod_neg h0] at h ⊢; omega
  · exact Int.tmod_eq_emod_of_nonneg (by omega)
theorem big_high {n : Int} (hn : fit n) : wrap64 ((wrap64 (n - n % 4294967296)).tdiv 4294967296) = n / 4294967296 := by
  unfold fit at hn
  have h1 : wrap64 (n - n % 4294967296) = n / 4294967296 * 4294967296 := by unfold wrap64; omega
  rw [h1, tdiv_of rfl]
  unfold wrap64; omega
theorem big_any (n : Int) (w : World) (hn : fit n) :
    Calls Try.prog 54 #[.int .i64 n] w fun e w' => e = .returned (.tuple #[.int .i64 (n / 4294967296), .int .i64 (n % 4294967296)]) ∧ w = w' := by
  have Hn := Lib.hid hn
  unfold fit at hn
  obtain ⟨h1, h2⟩ := hn
  go_enter Try.func54, Try.ntmps54
  go_wp2
  · have h : n.tmod 4294967296 < 0 := by assumption
    go_ret2
    refine ⟨ret2_int ?_ ?_, rfl⟩
    · rw [big_low1 Hn.out h]; exact big_high Hn.out
    · exact big_low1 Hn.out h
  · have h : 0 ≤ n.tmod 4294967296 := by assumption
    go_ret2
    refine ⟨ret2_int ?_ ?_, rfl⟩
    · rw [big_low2 h]; exact big_high Hn.out
    · exact big_low2 h

theorem ret_ib {a b : Int} {c d : Bool} (h : a = b) (k : c = d) : Ending.returned (.tuple #[.int .i64 a, .bool c]) = .returned (.tuple #[.int .i64 b, .bool d]) := by rw [h, k]
/-- 'small': two halves as a number. -/
theorem small_any (h l : Int) (w : World) (h1 : -8589934592 ≤ h) (h2 : h ≤ 8589934592) (l1 : -8589934592 ≤ l) (l2 : l ≤ 8589934592) :
    Calls Try.prog 55 #[.int .i64 h, .int .i64 l] w fun e w' => e = .returned (.tuple #[.int .i64 (cap (h * 4294967296 + l)), .bool (fits (h * 4294967296 + l))]) ∧ w = w' := by
  go_enter Try.func55, Try.ntmps55
  go_wp2
  go_loop [0, 1] (fun a b => ∃ x y : Int, a = .int .i64 x ∧ b = .int .i64 y ∧ x * 4294967296 + y = h * 4294967296 + l ∧ -8589934592 ≤ y ∧ y ≤ 8589934592) (fun _ b => (intOf b + 8589934592).toNat)
  case atStart => exact ⟨h, l, rfl, rfl, rfl, l1, l2⟩
  case round =>
    obtain ⟨x, y, rfl, rfl, he, hy1, hy2⟩ := hrel
    have hx1 : -8589934600 ≤ x := by omega
    have hx2 : x ≤ 8589934600 := by omega
    have He := Lib.hid he
    clear he
    go_wp2
    · refine ⟨⟨x + 1, y - 4294967296, rfl, rfl, ?_, ?_, ?_⟩, ?_⟩
      · have := He.out; omega
      · omega
      · omega
      · simp [intOf]; omega
    · go_loop [0, 1] (fun a b => ∃ x y : Int, a = .int .i64 x ∧ b = .int .i64 y ∧ x * 4294967296 + y = h * 4294967296 + l ∧ -8589934592 ≤ y ∧ y < 4294967296) (fun _ b => (4294967296 - intOf b).toNat)
      case atStart => exact ⟨x, y, rfl, rfl, He.out, hy1, by assumption⟩
      case round =>
        clear He hx1 hx2 hy1 hy2
        rename_i hlt
        clear hlt
        obtain ⟨x, y, rfl, rfl, he, hy1, hy2⟩ := hrel
        have hx1 : -8589934600 ≤ x := by omega
        have hx2 : x ≤ 8589934600 := by omega
        have He := Lib.hid he
        clear he
        by_cases hneg : y < 0
        · go_wp2
          refine ⟨⟨x - 1, y + 4294967296, rfl, rfl, ?_, ?_, ?_⟩, ?_⟩
          · have := He.out; omega
          · omega
          · omega
          · simp [intOf]; omega
        · by_cases hf : -2147483648 ≤ x ∧ x ≤ 2147483647
          · obtain ⟨hf1, hf2⟩ := hf
            go_wp2
            go_ret2
            have hk : fit (h * 4294967296 + l) := by have := He.out; unfold fit; omega
            rw [cap_yes hk, fits_yes hk]
            exact ⟨ret_ib He.out rfl, rfl⟩
          · have hk : ¬ fit (h * 4294967296 + l) := by have := He.out; unfold fit; omega
            have Hk := Lib.hid hk
            clear hk
            by_cases hf1 : x < -2147483648
            all_goals
              go_wp2
              go_ret2
              rw [cap_no Hk.out, fits_no Hk.out]
              exact ⟨rfl, rfl⟩

end Go.Proofs.Ytlmgmojicpdbeaa.Ex
