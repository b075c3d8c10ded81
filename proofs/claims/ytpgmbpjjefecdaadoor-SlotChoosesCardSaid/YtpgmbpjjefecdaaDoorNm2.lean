/- Layer 1, contracts: num.Size, num.first, num.ones (gennm2.py prints it). -/
import Derived.Test.YtpgmbpjjefecdaaDoorNm1
namespace Go.Proofs.YtpgmbpjjefecdaaDoor.Nm
open Go.RowKit Base Crc
set_option linter.unusedVariables false

theorem nsize_lt1 {n : Nat} (h : n < 128) : nsize n ≤ 1 := by unfold nsize; repeat (first | omega | split)
theorem nsize_ge1 {n : Nat} (h : ¬ n < 128) : 2 ≤ nsize n := by unfold nsize; repeat (first | omega | split)
theorem nsize_lt2 {n : Nat} (h : n < 16384) : nsize n ≤ 2 := by unfold nsize; repeat (first | omega | split)
theorem nsize_ge2 {n : Nat} (h : ¬ n < 16384) : 3 ≤ nsize n := by unfold nsize; repeat (first | omega | split)
theorem nsize_lt3 {n : Nat} (h : n < 2097152) : nsize n ≤ 3 := by unfold nsize; repeat (first | omega | split)
theorem nsize_ge3 {n : Nat} (h : ¬ n < 2097152) : 4 ≤ nsize n := by unfold nsize; repeat (first | omega | split)
theorem nsize_lt4 {n : Nat} (h : n < 268435456) : nsize n ≤ 4 := by unfold nsize; repeat (first | omega | split)
theorem nsize_ge4 {n : Nat} (h : ¬ n < 268435456) : 5 ≤ nsize n := by unfold nsize; repeat (first | omega | split)
theorem nsize_lt5 {n : Nat} (h : n < 34359738368) : nsize n ≤ 5 := by unfold nsize; repeat (first | omega | split)
theorem nsize_ge5 {n : Nat} (h : ¬ n < 34359738368) : 6 ≤ nsize n := by unfold nsize; repeat (first | omega | split)
theorem nsize_lt6 {n : Nat} (h : n < 4398046511104) : nsize n ≤ 6 := by unfold nsize; repeat (first | omega | split)
theorem nsize_ge6 {n : Nat} (h : ¬ n < 4398046511104) : 7 ≤ nsize n := by unfold nsize; repeat (first | omega | split)
theorem nsize_lt7 {n : Nat} (h : n < 562949953421312) : nsize n ≤ 7 := by unfold nsize; repeat (first | omega | split)
theorem nsize_ge7 {n : Nat} (h : ¬ n < 562949953421312) : 8 ≤ nsize n := by unfold nsize; repeat (first | omega | split)
theorem nsize_lt8 {n : Nat} (h : n < 72057594037927936) : nsize n ≤ 8 := by unfold nsize; repeat (first | omega | split)
theorem nsize_ge8 {n : Nat} (h : ¬ n < 72057594037927936) : 9 ≤ nsize n := by unfold nsize; repeat (first | omega | split)

set_option maxRecDepth 100000 in
set_option maxHeartbeats 2000000 in
theorem size_any (n : Nat) (w : World) (hn : n < 18446744073709551616) :
    Calls Tryd.prog 94 #[.int .u64 n] w fun e w' => e = .returned (.int .i64 (nsize n : Nat)) ∧ w = w' := by
  have Hn := Lib.hid hn
  clear hn
  go_enter Tryd.func94, Tryd.ntmps94
  go_wp2_with fail
  go_loop [3] (fun v => ∃ k : Nat, 1 ≤ k ∧ k ≤ nsize n ∧ v = .int .i64 (k : Nat)) (fun v => 9 - (intOf v).toNat)
  case atStart => exact ⟨1, Nat.le_refl _, (nsize_bd n).1, rfl⟩
  case round =>
    obtain ⟨k, h1, h2, rfl⟩ := hrel
    have h9 := (nsize_bd n).2
    have hk : k = 1 ∨ k = 2 ∨ k = 3 ∨ k = 4 ∨ k = 5 ∨ k = 6 ∨ k = 7 ∨ k = 8 ∨ k = 9 := by omega
    have H2 := Lib.hid h2
    clear h1 h2 h9
    rcases hk with rfl | rfl | rfl | rfl | rfl | rfl | rfl | rfl | rfl
    · by_cases hlt : n < 128
      · have hs := Lib.hid (show nsize n = 1 by have := nsize_lt1 hlt; have := H2.out; omega)
        have hq : ((n : Int) / 128 == 0) = true := by simp; omega
        clear hlt
        go_wp2_with fail
        go_ret
        rw [hs.out]
        exact ⟨rfl, rfl⟩
      · have hs := Lib.hid (nsize_ge1 hlt)
        have hq : ((n : Int) / 128 == 0) = false := by simp; omega
        clear hlt
        go_wp2_with fail
        go_round
        case rel => exact ⟨2, by omega, hs.out, rfl⟩
        case measure => simp [intOf]
    · by_cases hlt : n < 16384
      · have hs := Lib.hid (show nsize n = 2 by have := nsize_lt2 hlt; have := H2.out; omega)
        have hq : ((n : Int) / 16384 == 0) = true := by simp; omega
        clear hlt
        go_wp2_with fail
        go_ret
        rw [hs.out]
        exact ⟨rfl, rfl⟩
      · have hs := Lib.hid (nsize_ge2 hlt)
        have hq : ((n : Int) / 16384 == 0) = false := by simp; omega
        clear hlt
        go_wp2_with fail
        go_round
        case rel => exact ⟨3, by omega, hs.out, rfl⟩
        case measure => simp [intOf]
    · by_cases hlt : n < 2097152
      · have hs := Lib.hid (show nsize n = 3 by have := nsize_lt3 hlt; have := H2.out; omega)
        have hq : ((n : Int) / 2097152 == 0) = true := by simp; omega
        clear hlt
        go_wp2_with fail
        go_ret
        rw [hs.out]
        exact ⟨rfl, rfl⟩
      · have hs := Lib.hid (nsize_ge3 hlt)
        have hq : ((n : Int) / 2097152 == 0) = false := by simp; omega
        clear hlt
        go_wp2_with fail
        go_round
        case rel => exact ⟨4, by omega, hs.out, rfl⟩
        case measure => simp [intOf]
    · by_cases hlt : n < 268435456
      · have hs := Lib.hid (show nsize n = 4 by have := nsize_lt4 hlt; have := H2.out; omega)
        have hq : ((n : Int) / 268435456 == 0) = true := by simp; omega
        clear hlt
        go_wp2_with fail
        go_ret
        rw [hs.out]
        exact ⟨rfl, rfl⟩
      · have hs := Lib.hid (nsize_ge4 hlt)
        have hq : ((n : Int) / 268435456 == 0) = false := by simp; omega
        clear hlt
        go_wp2_with fail
        go_round
        case rel => exact ⟨5, by omega, hs.out, rfl⟩
        case measure => simp [intOf]
    · by_cases hlt : n < 34359738368
      · have hs := Lib.hid (show nsize n = 5 by have := nsize_lt5 hlt; have := H2.out; omega)
        have hq : ((n : Int) / 34359738368 == 0) = true := by simp; omega
        clear hlt
        go_wp2_with fail
        go_ret
        rw [hs.out]
        exact ⟨rfl, rfl⟩
      · have hs := Lib.hid (nsize_ge5 hlt)
        have hq : ((n : Int) / 34359738368 == 0) = false := by simp; omega
        clear hlt
        go_wp2_with fail
        go_round
        case rel => exact ⟨6, by omega, hs.out, rfl⟩
        case measure => simp [intOf]
    · by_cases hlt : n < 4398046511104
      · have hs := Lib.hid (show nsize n = 6 by have := nsize_lt6 hlt; have := H2.out; omega)
        have hq : ((n : Int) / 4398046511104 == 0) = true := by simp; omega
        clear hlt
        go_wp2_with fail
        go_ret
        rw [hs.out]
        exact ⟨rfl, rfl⟩
      · have hs := Lib.hid (nsize_ge6 hlt)
        have hq : ((n : Int) / 4398046511104 == 0) = false := by simp; omega
        clear hlt
        go_wp2_with fail
        go_round
        case rel => exact ⟨7, by omega, hs.out, rfl⟩
        case measure => simp [intOf]
    · by_cases hlt : n < 562949953421312
      · have hs := Lib.hid (show nsize n = 7 by have := nsize_lt7 hlt; have := H2.out; omega)
        have hq : ((n : Int) / 562949953421312 == 0) = true := by simp; omega
        clear hlt
        go_wp2_with fail
        go_ret
        rw [hs.out]
        exact ⟨rfl, rfl⟩
      · have hs := Lib.hid (nsize_ge7 hlt)
        have hq : ((n : Int) / 562949953421312 == 0) = false := by simp; omega
        clear hlt
        go_wp2_with fail
        go_round
        case rel => exact ⟨8, by omega, hs.out, rfl⟩
        case measure => simp [intOf]
    · by_cases hlt : n < 72057594037927936
      · have hs := Lib.hid (show nsize n = 8 by have := nsize_lt8 hlt; have := H2.out; omega)
        have hq : ((n : Int) / 72057594037927936 == 0) = true := by simp; omega
        clear hlt
        go_wp2_with fail
        go_ret
        rw [hs.out]
        exact ⟨rfl, rfl⟩
      · have hs := Lib.hid (nsize_ge8 hlt)
        have hq : ((n : Int) / 72057594037927936 == 0) = false := by simp; omega
        clear hlt
        go_wp2_with fail
        go_round
        case rel => exact ⟨9, by omega, hs.out, rfl⟩
        case measure => simp [intOf]
    · have hs := Lib.hid (show nsize n = 9 by have := (nsize_bd n).2; have := H2.out; omega)
      go_wp2_with fail
      go_ret
      rw [hs.out]
      exact ⟨rfl, rfl⟩

theorem first_any (s : Nat) (w : World) (h1 : 1 ≤ s) (h9 : s ≤ 9) :
    Calls Tryd.prog 95 #[.int .i64 s] w fun e w' => e = .returned (.int .u8 (lead s : Nat)) ∧ w = w' := by
  have hk : s = 1 ∨ s = 2 ∨ s = 3 ∨ s = 4 ∨ s = 5 ∨ s = 6 ∨ s = 7 ∨ s = 8 ∨ s = 9 := by omega
  clear h1 h9
  rcases hk with rfl | rfl | rfl | rfl | rfl | rfl | rfl | rfl | rfl
  all_goals
    go_enter Tryd.func95, Tryd.ntmps95
    go_wp2_with fail
    go_ret
    exact ⟨rfl, rfl⟩

theorem and128 (x : Nat) (h : x < 256) : bits .and .u8 (x : Int) 128 = if x < 128 then 0 else 128 := by
  have key : ∀ x : Fin 256, bits .and .u8 (x.val : Int) 128 = if x.val < 128 then 0 else 128 := by decide +kernel
  exact key ⟨x, h⟩
set_option maxHeartbeats 400000 in
theorem ones_any (x : Nat) (w : World) (h : x < 256) :
    Calls Tryd.prog 107 #[.int .u8 x] w fun e w' => e = .returned (.int .i64 (ones x : Nat)) ∧ w = w' := by
  go_enter Tryd.func107, Tryd.ntmps107
  go_wp2_with fail
  go_loop [0, 3] (fun v0 v3 => ∃ y k : Nat, y < 256 ∧ k + ones y = ones x ∧ v0 = .int .u8 (y : Nat) ∧ v3 = .int .i64 (k : Nat)) (fun v0 _ => ones (intOf v0).toNat)
  case atStart => exact ⟨x, 0, h, by omega, rfl, rfl⟩
  case round =>
    obtain ⟨y, k, hy, hk, rfl, rfl⟩ := hrel
    have Hk := Lib.hid hk
    have hx8 := ones_bd x
    have hk9 : k ≤ 8 := by omega
    have ha := and128 y hy
    clear hk hx8
    by_cases hlt : y < 128
    · rw [if_pos hlt] at ha
      have h0 := Lib.hid (show ones y = 0 by unfold ones; rw [if_pos hlt])
      clear hlt
      go_wp2_with fail
      go_ret
      have := Hk.out
      rw [h0.out] at this
      rw [← this]
      exact ⟨rfl, rfl⟩
    · rw [if_neg hlt] at ha
      have hnx := Lib.hid (ones_next y (by omega) hy)
      go_wp2_with fail
      go_round
      case rel => exact ⟨y * 2 % 256, k + 1, Nat.mod_lt _ (by omega), by have h1 := Hk.out; have h2 := hnx.out; omega, by first | rfl | exact congrArg (Value.int .u8) (by omega), by go_num⟩
      case measure =>
        simp only [intOf]
        have h2 := hnx.out
        show ones ((y : Int) * 2 % 256).toNat < ones ((y : Int)).toNat
        rw [show ((y : Int) * 2 % 256).toNat = y * 2 % 256 by omega, Int.toNat_natCast]
        omega

end Go.Proofs.YtpgmbpjjefecdaaDoor.Nm
