/- The contracts of package exact and of its reference (layer 3), second part: sums of many. -/
import Derived.Test.YtlmgmojicpdbeaaEx1
import Derived.Test.YtlmgmojicpdbeaaBase
namespace Go.Proofs.Ytlmgmojicpdbeaa.Ex
open Go.RowKit Base

theorem rsub (a b : Int) : (a / 4294967296 - b / 4294967296) * 4294967296 + (a % 4294967296 - b % 4294967296) = a - b := by omega
theorem radd (a b : Int) : (a / 4294967296 + b / 4294967296) * 4294967296 + (a % 4294967296 + b % 4294967296) = a + b := by omega

theorem radd_any (a b : Int) (w : World) (ha : fit a) (hb : fit b) :
    Calls Try.prog 15 #[.int .i64 a, .int .i64 b] w fun e w' => e = .returned (.tuple #[.int .i64 (cap (a + b)), .bool (fits (a + b))]) ∧ w = w' := by
  have Ha := Lib.hid ha
  have Hb := Lib.hid hb
  unfold fit at ha hb
  have h1 : -2147483648 ≤ a / 4294967296 := by omega
  have h2 : a / 4294967296 ≤ 2147483647 := by omega
  have h3 : 0 ≤ a % 4294967296 := by omega
  have h4 : a % 4294967296 ≤ 4294967295 := by omega
  have h5 : -2147483648 ≤ b / 4294967296 := by omega
  have h6 : b / 4294967296 ≤ 2147483647 := by omega
  have h7 : 0 ≤ b % 4294967296 := by omega
  have h8 : b % 4294967296 ≤ 4294967295 := by omega
  have He := Lib.hid (radd a b)
  clear ha hb
  go_enter Try.func15, Try.ntmps15
  go_wp2_with fail
  refine (big_any a _ Ha.out).mono ?_
  rintro e w' ⟨rfl, rfl⟩
  go_wp2_with fail
  refine (big_any b _ Hb.out).mono ?_
  rintro e w' ⟨rfl, rfl⟩
  generalize a / 4294967296 = x at *
  generalize a % 4294967296 = y at *
  generalize b / 4294967296 = z at *
  generalize b % 4294967296 = t at *
  go_wp2_with fail
  refine (small_any _ _ _ (by omega) (by omega) (by omega) (by omega)).mono ?_
  rintro e w' ⟨rfl, rfl⟩
  go_wp2_with fail
  go_ret2
  rw [He.out]
  exact ⟨rfl, rfl⟩

theorem rsub_any (a b : Int) (w : World) (ha : fit a) (hb : fit b) :
    Calls Try.prog 17 #[.int .i64 a, .int .i64 b] w fun e w' => e = .returned (.tuple #[.int .i64 (cap (a - b)), .bool (fits (a - b))]) ∧ w = w' := by
  have Ha := Lib.hid ha
  have Hb := Lib.hid hb
  unfold fit at ha hb
  have h1 : -2147483648 ≤ a / 4294967296 := by omega
  have h2 : a / 4294967296 ≤ 2147483647 := by omega
  have h3 : 0 ≤ a % 4294967296 := by omega
  have h4 : a % 4294967296 ≤ 4294967295 := by omega
  have h5 : -2147483648 ≤ b / 4294967296 := by omega
  have h6 : b / 4294967296 ≤ 2147483647 := by omega
  have h7 : 0 ≤ b % 4294967296 := by omega
  have h8 : b % 4294967296 ≤ 4294967295 := by omega
  have He := Lib.hid (rsub a b)
  clear ha hb
  go_enter Try.func17, Try.ntmps17
  go_wp2_with fail
  refine (big_any a _ Ha.out).mono ?_
  rintro e w' ⟨rfl, rfl⟩
  go_wp2_with fail
  refine (big_any b _ Hb.out).mono ?_
  rintro e w' ⟨rfl, rfl⟩
  generalize a / 4294967296 = x at *
  generalize a % 4294967296 = y at *
  generalize b / 4294967296 = z at *
  generalize b % 4294967296 = t at *
  go_wp2_with fail
  refine (small_any _ _ _ (by omega) (by omega) (by omega) (by omega)).mono ?_
  rintro e w' ⟨rfl, rfl⟩
  go_wp2_with fail
  go_ret2
  rw [He.out]
  exact ⟨rfl, rfl⟩

/-- numbers added up, one by one; none: on the way it does not fit -/
def sumFrom (s : Int) : List Int → Option Int
  | [] => some s
  | n :: l => if fit (s + n) then sumFrom (s + n) l else none

def fitAll (l : List Int) : Prop := ∀ n ∈ l, fit n

theorem sumFrom_step {l : List Int} {k : Nat} (hk : k < l.length) (s : Int) : sumFrom s (l.drop k) = if fit (s + l[k]) then sumFrom (s + l[k]) (l.drop (k + 1)) else none := by
  rw [List.drop_eq_getElem_cons hk]
  rfl

abbrev ints (l : List Int) : List Value := l.map (.int .i64)

set_option maxHeartbeats 400000 in
theorem sum_any (A : Option Addr) (c : Nat) (l : List Int) (w : World) (hl : l.length ≤ 140737488355328) (hf : fitAll l) (hr : Row w w.heap.size A (ints l)) :
    Calls Try.prog 19 #[.slice A l.length c] w fun e w' => e = .returned (.tuple #[.int .i64 ((sumFrom 0 l).getD 0), .bool (sumFrom 0 l).isSome]) ∧ w = w' := by
  have Hf := Lib.hid hf
  have Hr := Lib.hid hr
  clear hf hr
  generalize hn : l.length = n at *
  have Hn := Lib.hid hn
  clear hn
  go_enter Try.func19, Try.ntmps19
  go_wp2
  go_loop [4, 5, 10] (fun s o i => ∃ (k : Nat) (x : Int), k ≤ n ∧ i = .int .i64 k ∧ s = .int .i64 x ∧ o = .bool true ∧ fit x ∧ sumFrom 0 l = sumFrom x (l.drop k)) (fun _ _ i => n - (intOf i).toNat)
  case atStart => exact ⟨0, 0, Nat.zero_le _, rfl, rfl, rfl, by unfold fit; omega, rfl⟩
  case round =>
    obtain ⟨k, x, hk, rfl, rfl, rfl, hx, he⟩ := hrel
    have He := Lib.hid he
    have Hx := Lib.hid hx
    clear he hx
    by_cases hlt : k < n
    · have hkl : k < l.length := by rw [Hn.out]; exact hlt
      obtain ⟨b, off, rfl, hb, hc⟩ := Hr.out.at_ (k := k) (by simpa using hkl)
      rw [List.getElem_map] at hc
      have hfz : fit (l[k]'hkl) := Hf.out _ (List.getElem_mem _)
      have hst := sumFrom_step hkl x
      rw [← He.out] at hst
      generalize l[k]'hkl = z at *
      by_cases hz : fit (x + z)
      · rw [if_pos hz] at hst
        have Hst := Lib.hid hst
        have Hz := Lib.hid hz
        have Hfz := Lib.hid hfz
        clear hst hz hfz
        go_wp2_with fail
        refine (add_yes _ _ _ Hx.out Hfz.out Hz.out).mono ?_
        rintro e w' ⟨rfl, rfl⟩
        go_wp2_with fail
        go_round
        case rel => exact ⟨k + 1, x + z, by omega, by go_num, rfl, rfl, Hz.out, Hst.out⟩
        case measure => simp [intOf]; omega
      · rw [if_neg hz] at hst
        have Hst := Lib.hid hst
        have Hz := Lib.hid hz
        have Hfz := Lib.hid hfz
        clear hst hz hfz
        go_wp2_with fail
        refine (add_no _ _ _ Hx.out Hfz.out Hz.out).mono ?_
        rintro e w' ⟨rfl, rfl⟩
        go_wp2_with fail
        go_ret2
        rw [Hst.out]
        exact ⟨rfl, rfl⟩
    · go_wp2_with fail
      go_ret2
      have hd : l.drop k = [] := List.drop_eq_nil_of_le (by rw [Hn.out]; omega)
      rw [He.out, hd]
      exact ⟨rfl, rfl⟩

theorem radd_yes (a b : Int) (w : World) (ha : fit a) (hb : fit b) (h : fit (a + b)) :
    Calls Try.prog 15 #[.int .i64 a, .int .i64 b] w fun e w' => e = .returned (.tuple #[.int .i64 (a + b), .bool true]) ∧ w = w' := by
  have := radd_any a b w ha hb
  rwa [cap_yes h, fits_yes h] at this
theorem radd_no (a b : Int) (w : World) (ha : fit a) (hb : fit b) (h : ¬ fit (a + b)) :
    Calls Try.prog 15 #[.int .i64 a, .int .i64 b] w fun e w' => e = .returned (.tuple #[.int .i64 0, .bool false]) ∧ w = w' := by
  have := radd_any a b w ha hb
  rwa [cap_no h, fits_no h] at this

set_option maxHeartbeats 400000 in
theorem rsum_any (A : Option Addr) (c : Nat) (l : List Int) (w : World) (hl : l.length ≤ 140737488355328) (hf : fitAll l) (hr : Row w w.heap.size A (ints l)) :
    Calls Try.prog 20 #[.slice A l.length c] w fun e w' => e = .returned (.tuple #[.int .i64 ((sumFrom 0 l).getD 0), .bool (sumFrom 0 l).isSome]) ∧ w = w' := by
  have Hf := Lib.hid hf
  have Hr := Lib.hid hr
  clear hf hr
  generalize hn : l.length = n at *
  have Hn := Lib.hid hn
  clear hn
  go_enter Try.func20, Try.ntmps20
  go_wp2
  go_loop [4, 5] (fun s i => ∃ (k : Nat) (x : Int), k ≤ n ∧ i = .int .i64 k ∧ s = .int .i64 x ∧ fit x ∧ sumFrom 0 l = sumFrom x (l.drop k)) (fun _ i => n - (intOf i).toNat)
  case atStart => exact ⟨0, 0, Nat.zero_le _, rfl, rfl, by unfold fit; omega, rfl⟩
  case round =>
    obtain ⟨k, x, hk, rfl, rfl, hx, he⟩ := hrel
    have He := Lib.hid he
    have Hx := Lib.hid hx
    clear he hx
    by_cases hlt : k < n
    · have hkl : k < l.length := by rw [Hn.out]; exact hlt
      obtain ⟨b, off, rfl, hb, hc⟩ := Hr.out.at_ (k := k) (by simpa using hkl)
      rw [List.getElem_map] at hc
      have hfz : fit (l[k]'hkl) := Hf.out _ (List.getElem_mem _)
      have hst := sumFrom_step hkl x
      rw [← He.out] at hst
      generalize l[k]'hkl = z at *
      by_cases hz : fit (x + z)
      · rw [if_pos hz] at hst
        have Hst := Lib.hid hst
        have Hz := Lib.hid hz
        have Hfz := Lib.hid hfz
        clear hst hz hfz
        go_wp2_with fail
        refine (radd_yes _ _ _ Hx.out Hfz.out Hz.out).mono ?_
        rintro e w' ⟨rfl, rfl⟩
        go_wp2_with fail
        go_round
        case rel => exact ⟨k + 1, x + z, by omega, by go_num, rfl, Hz.out, Hst.out⟩
        case measure => simp [intOf]; omega
      · rw [if_neg hz] at hst
        have Hst := Lib.hid hst
        have Hz := Lib.hid hz
        have Hfz := Lib.hid hfz
        clear hst hz hfz
        go_wp2_with fail
        refine (radd_no _ _ _ Hx.out Hfz.out Hz.out).mono ?_
        rintro e w' ⟨rfl, rfl⟩
        go_wp2_with fail
        go_ret2
        rw [Hst.out]
        exact ⟨rfl, rfl⟩
    · go_wp2_with fail
      go_ret2
      have hd : l.drop k = [] := List.drop_eq_nil_of_le (by rw [Hn.out]; omega)
      rw [He.out, hd]
      exact ⟨rfl, rfl⟩

end Go.Proofs.Ytlmgmojicpdbeaa.Ex
