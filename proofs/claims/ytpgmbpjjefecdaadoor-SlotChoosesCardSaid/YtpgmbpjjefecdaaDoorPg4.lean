/- Layer 8, fourth part: the document's pages. -/
import Derived.Test.YtpgmbpjjefecdaaDoorPg3
namespace Go.Proofs.YtpgmbpjjefecdaaDoor.Pg
open Go.RowKit Base Crc Plain Txt
set_option linter.unusedVariables false

theorem rkind_yes (k : UInt8) (w : World) (h : okKind k = true) :
    Calls Tryd.prog 20 #[.int .u8 k.toNat] w fun e w' => e = .returned (.bool true) ∧ w = w' := by
  rcases okKind_or h with rfl | rfl | rfl
  all_goals
    clear h
    show Calls Tryd.prog 20 #[.int .u8 (_ : Int)] w _
    go_enter Tryd.func20, Tryd.ntmps20
    go_wp2
    go_ret
    exact ⟨rfl, rfl⟩
theorem rkind_no (k : UInt8) (w : World) (h : okKind k = false) :
    Calls Tryd.prog 20 #[.int .u8 k.toNat] w fun e w' => e = .returned (.bool false) ∧ w = w' := by
  have hh : ∀ c : UInt8, okKind c = true → ((k.toNat : Int) == (c.toNat : Int)) = false := by
    intro c hc
    simp only [beq_eq_false_iff_ne]
    intro e
    have : k = c := UInt8.toNat_inj.1 (by omega)
    subst this
    rw [h] at hc
    cases hc
  have h1 : ((k.toNat : Int) == 67) = false := hh 67 (by decide)
  have h2 : ((k.toNat : Int) == 78) = false := hh 78 (by decide)
  have h3 : ((k.toNat : Int) == 77) = false := hh 77 (by decide)
  clear h hh
  generalize k.toNat = x at *
  go_enter Tryd.func20, Tryd.ntmps20
  go_wp2
  go_ret
  exact ⟨rfl, rfl⟩

set_option maxHeartbeats 1000000 in
theorem rwrong_any (k : UInt8) (i : Int) (s : ByteArray) (w : World) (hm : s.size ≤ maxLen) :
    Calls Tryd.prog 14 #[.int .u8 k.toNat, .int .i64 i, .string s] w fun e w' => e = .returned (.int .i64 (pwrong k i s.size)) ∧ w = w' := by
  unfold maxLen at hm
  by_cases hk : okKind k = true
  · have HK := Lib.hid (fun w => rkind_yes k w hk)
    by_cases h0 : i < 0
    · rw [pwrong_two (.inr (.inl h0))]
      clear hk
      go_enter Tryd.func14, Tryd.ntmps14
      go_wp2_with fail
      refine (HK.out _).mono ?_
      rintro e w' ⟨rfl, rfl⟩
      go_wp2_with fail
      go_ret
      exact ⟨rfl, rfl⟩
    · by_cases h1 : 16777215 < i
      · rw [pwrong_two (.inr (.inr h1))]
        clear hk
        go_enter Tryd.func14, Tryd.ntmps14
        go_wp2_with fail
        refine (HK.out _).mono ?_
        rintro e w' ⟨rfl, rfl⟩
        go_wp2_with fail
        go_ret
        exact ⟨rfl, rfl⟩
      · have hp : pwrong k i s.size = if 246 < s.size then 5 else 0 := by
          unfold pwrong
          rw [if_pos]
          simp only [Bool.and_eq_true, decide_eq_true_eq]
          exact ⟨⟨hk, by omega⟩, by omega⟩
        by_cases h2 : 246 < s.size
        · rw [hp, if_pos h2]
          clear hk hp
          go_enter Tryd.func14, Tryd.ntmps14
          go_wp2_with fail
          refine (HK.out _).mono ?_
          rintro e w' ⟨rfl, rfl⟩
          go_wp2_with fail
          go_ret
          exact ⟨rfl, rfl⟩
        · rw [hp, if_neg h2]
          clear hk hp
          go_enter Tryd.func14, Tryd.ntmps14
          go_wp2_with fail
          refine (HK.out _).mono ?_
          rintro e w' ⟨rfl, rfl⟩
          go_wp2_with fail
          go_ret
          exact ⟨rfl, rfl⟩
  · have hk' : okKind k = false := by simpa using hk
    rw [pwrong_two (.inl hk')]
    have HK := Lib.hid (fun w => rkind_no k w hk')
    clear hk hk'
    go_enter Tryd.func14, Tryd.ntmps14
    go_wp2_with fail
    refine (HK.out _).mono ?_
    rintro e w' ⟨rfl, rfl⟩
    go_wp2_with fail
    go_ret
    exact ⟨rfl, rfl⟩

def szOf : Value → Nat
  | .string s => s.size
  | _ => 0
theorem noughts_snoc (j : Nat) : noughts (j + 1) = noughts j ++ [0] := by
  unfold noughts
  rw [List.replicate_succ']

set_option maxRecDepth 100000 in
set_option maxHeartbeats 1000000 in
theorem rput_any (k : UInt8) (i : Nat) (s : ByteArray) (w : World) (hi : i ≤ 16777215) (hs : s.size ≤ 246) :
    Calls Tryd.prog 17 #[.int .u8 k.toNat, .int .i64 i, .string s] w fun e w' => e = .returned (.string (str (pg k i s.data.toList))) ∧ Below w.heap.size w w' := by
  have hkl := k.toNat_lt
  have hc : ∀ w : World, (convert 63 9 (.slice (some ⟨w.heap.size, 0, none⟩) 6 6)).run Tryd.prog (w.alloc (.cells #[.int .u8 (k.toNat : Int), .int .u8 ((i : Int) / 65536), .int .u8 ((i : Int) / 256 % 256), .int .u8 ((i : Int) % 256), .int .u8 ((s.size : Int) / 256), .int .u8 ((s.size : Int) % 256)] 5)) = .ok (.string (str (hd k i s.size))) (w.alloc (.cells #[.int .u8 (k.toNat : Int), .int .u8 ((i : Int) / 65536), .int .u8 ((i : Int) / 256 % 256), .int .u8 ((i : Int) % 256), .int .u8 ((s.size : Int) / 256), .int .u8 ((s.size : Int) % 256)] 5)) := fun w => by
    have h := conv_new w [(k.toNat : Int), (i : Int) / 65536, (i : Int) / 256 % 256, (i : Int) % 256, (s.size : Int) / 256, (s.size : Int) % 256] (by intro x hx; simp at hx; omega)
    have e : [(k.toNat : Int), (i : Int) / 65536, (i : Int) / 256 % 256, (i : Int) % 256, (s.size : Int) / 256, (s.size : Int) % 256].map (fun x => byt x.toNat) = hd k i s.size := by
      unfold hd
      simp only [List.map_cons, List.map_nil, List.cons.injEq, and_true]
      refine ⟨?_, rfl, byt_mod (i / 256), byt_mod i, rfl, byt_mod _⟩
      exact byt_id _ _ (by omega)
    rw [e] at h
    exact h
  have hpg : pg k i s.data.toList = closed ((hd k i s.size ++ s.data.toList) ++ noughts (246 - s.size)) := by
    unfold pg inner
    simp
  have Hpg := Lib.hid hpg
  have hcat : str (hd k i s.size) ++ s = str (hd k i s.size ++ s.data.toList) := by
    conv => lhs; rhs; rw [← str_of s]
    rw [str_app]
  have hbl : (hd k i s.size ++ s.data.toList).length = 6 + s.size := by
    rw [List.length_append]
    simp [hd]
  have Hcat := Lib.hid hcat
  have Hbl := Lib.hid hbl
  have hh1 : (str (hd k i s.size)).size ≤ 6 := by rw [str_size]; exact Nat.le_refl _
  clear hpg hcat hbl
  go_enter Tryd.func17, Tryd.ntmps17
  go_wp2_with fail
  go_loop [7] (fun v => ∃ j, j ≤ 246 - s.size ∧ v = .string (str ((hd k i s.size ++ s.data.toList) ++ noughts j))) (fun v => 252 - szOf v)
  case atStart => exact ⟨0, Nat.zero_le _, by rw [Hcat.out]; simp [noughts]⟩
  case round =>
    clear hc hh1 hi hkl
    obtain ⟨j, hj, rfl⟩ := hrel
    have hsz : (str ((hd k i s.size ++ s.data.toList) ++ noughts j)).size = 6 + s.size + j := by rw [str_size, List.length_append, Hbl.out, noughts_len]
    have Hsz := Lib.hid hsz
    have hsn : str ((hd k i s.size ++ s.data.toList) ++ noughts j) ++ ⟨#[0]⟩ = str ((hd k i s.size ++ s.data.toList) ++ noughts (j + 1)) := by
      rw [noughts_snoc, ← List.append_assoc]
      exact str_app _ [0]
    have Hsn := Lib.hid hsn
    clear hsz hsn
    by_cases hlt : j < 246 - s.size
    · generalize hS : str ((hd k i s.size ++ s.data.toList) ++ noughts j) = S at *
      have hs1 : S.size < 252 := by have := Hsz.out; omega
      have HS := Lib.hid hS
      clear hS
      go_wp2_with fail
      refine ⟨⟨j + 1, by omega, by first | rw [Hsn.out] | exact congrArg Value.string Hsn.out⟩, ?_⟩
      show 252 - (S ++ (⟨#[0]⟩ : ByteArray)).size < 252 - S.size
      rw [ByteArray.size_append]
      show 252 - (S.size + 1) < _
      omega
    · have hje : j = 246 - s.size := by omega
      subst hje
      generalize hS : str ((hd k i s.size ++ s.data.toList) ++ noughts (246 - s.size)) = S at *
      have hs1 : 252 ≤ S.size := by have := Hsz.out; omega
      have hs2 : S.size ≤ 300 := by have := Hsz.out; omega
      have HS := Lib.hid (show str (closed S.data.toList) = str (pg k i s.data.toList) by rw [← hS, Hpg.out, str_list])
      clear hS
      go_wp2_with fail
      refine (rclose_any S _ (by omega)).mono ?_
      rintro e w2 ⟨rfl, hb2⟩
      rw [HS.out]
      go_wp2_with fail
      go_ret
      exact ⟨rfl, ((Below.refl _ _).alloc (Nat.le_refl _) _).trans (hb2.mono (by simp))⟩

end Go.Proofs.YtpgmbpjjefecdaaDoor.Pg
