/- Layer 8, second part: page.kind, page.Put. -/
import Derived.Test.YtpgmbpjjefecdaaDoorPg1
import Derived.Test.YtpgmbpjjefecdaaDoorCh15
import Derived.Test.YtpgmbpjjefecdaaDoorShelf
namespace Go.Proofs.YtpgmbpjjefecdaaDoor.Pg
open Go.RowKit Base Crc Plain
set_option linter.unusedVariables false

theorem okKind_or {k : UInt8} (h : okKind k = true) : k = 67 ∨ k = 78 ∨ k = 77 := by
  simp only [okKind, Bool.or_eq_true, beq_iff_eq] at h
  rcases h with (h | h) | h
  · exact .inl h
  · exact .inr (.inl h)
  · exact .inr (.inr h)
theorem kind_yes (k : UInt8) (w : World) (h : okKind k = true) :
    Calls Tryd.prog 41 #[.int .u8 k.toNat] w fun e w' => e = .returned (.bool true) ∧ w = w' := by
  rcases okKind_or h with rfl | rfl | rfl
  all_goals
    clear h
    show Calls Tryd.prog 41 #[.int .u8 (_ : Int)] w _
    go_enter Tryd.func41, Tryd.ntmps41
    go_wp2
    go_ret
    exact ⟨rfl, rfl⟩
theorem kind_no (k : UInt8) (w : World) (h : okKind k = false) :
    Calls Tryd.prog 41 #[.int .u8 k.toNat] w fun e w' => e = .returned (.bool false) ∧ w = w' := by
  have h1 : ((k.toNat : Int) == 67) = false := by
    simp only [beq_eq_false_iff_ne]
    intro e
    have : k = 67 := UInt8.toNat_inj.1 (by show k.toNat = 67; omega)
    subst this
    cases h
  have h2 : ((k.toNat : Int) == 78) = false := by
    simp only [beq_eq_false_iff_ne]
    intro e
    have : k = 78 := UInt8.toNat_inj.1 (by show k.toNat = 78; omega)
    subst this
    cases h
  have h3 : ((k.toNat : Int) == 77) = false := by
    simp only [beq_eq_false_iff_ne]
    intro e
    have : k = 77 := UInt8.toNat_inj.1 (by show k.toNat = 77; omega)
    subst this
    cases h
  clear h
  generalize k.toNat = x at *
  go_enter Tryd.func41, Tryd.ntmps41
  go_wp2
  go_ret
  exact ⟨rfl, rfl⟩

theorem repeat_noughts (c : Nat) : Lib.repeatL [0] c = noughts c := by
  induction c with
  | zero => rfl
  | succ c ih => first | (rw [Lib.repeatL, ih]; rfl) | (simp [Lib.repeatL, noughts, List.replicate_succ] at *; done)

set_option maxHeartbeats 1000000 in
theorem put_yes (k : UInt8) (i : Nat) (s : ByteArray) (w : World) (hk : okKind k = true) (hi : i ≤ 16777215) (hs : s.size ≤ 246) :
    Calls Tryd.prog 13 #[.int .u8 k.toNat, .int .i64 i, .string s] w fun e w' => e = .returned (.tuple #[.string (str (pg k i s.data.toList)), .int .i64 0]) ∧ Below w.heap.size w w' := by
  have hkl := k.toNat_lt
  have hc : ∀ w : World, (convert 63 9 (.slice (some ⟨w.heap.size, 0, none⟩) 6 6)).run Tryd.prog (w.alloc (.cells #[.int .u8 (k.toNat : Int), .int .u8 ((i : Int) / 65536), .int .u8 ((i : Int) / 256 % 256), .int .u8 ((i : Int) % 256), .int .u8 ((s.size : Int) / 256), .int .u8 (s.size : Int)] 5)) = .ok (.string (str (hd k i s.size))) (w.alloc (.cells #[.int .u8 (k.toNat : Int), .int .u8 ((i : Int) / 65536), .int .u8 ((i : Int) / 256 % 256), .int .u8 ((i : Int) % 256), .int .u8 ((s.size : Int) / 256), .int .u8 (s.size : Int)] 5)) := fun w => by
    have h := conv_new w [(k.toNat : Int), (i : Int) / 65536, (i : Int) / 256 % 256, (i : Int) % 256, (s.size : Int) / 256, (s.size : Int)] (by intro x hx; simp at hx; omega)
    have e : [(k.toNat : Int), (i : Int) / 65536, (i : Int) / 256 % 256, (i : Int) % 256, (s.size : Int) / 256, (s.size : Int)].map (fun x => byt x.toNat) = hd k i s.size := by
      unfold hd
      simp only [List.map_cons, List.map_nil, List.cons.injEq, and_true]
      refine ⟨?_, rfl, byt_mod (i / 256), byt_mod i, rfl, rfl⟩
      exact byt_id _ _ (by omega)
    rw [e] at h
    exact h
  have hpg : pg k i s.data.toList = closed ((hd k i s.size ++ s.data.toList) ++ noughts (246 - s.size)) := by
    unfold pg inner
    simp
  have Hpg := Lib.hid hpg
  have hsz : (str (hd k i s.size) ++ s).size = 6 + s.size := by
    rw [ByteArray.size_append, str_size]
    rfl
  have hcat : str (hd k i s.size) ++ s = str (hd k i s.size ++ s.data.toList) := by
    conv => lhs; rhs; rw [← str_of s]
    rw [str_app]
  have Hcat := Lib.hid hcat
  have hh1 : (str (hd k i s.size)).size ≤ 6 := by rw [str_size]; exact Nat.le_refl _
  have hK := fun w => kind_yes k w hk
  have HK := Lib.hid hK
  clear hpg hcat hK hk
  go_enter Tryd.func13, Tryd.ntmps13
  go_wp2_with fail
  refine (HK.out _).mono ?_
  rintro e w' ⟨rfl, rfl⟩
  go_wp2_with fail
  rw [show (252 - (6 + (s.size : Int))) = ((246 - s.size : Nat) : Int) by omega]
  refine (Tryd.strings_Repeat ⟨#[0]⟩ (246 - s.size) _ (by omega) (by show 1 * (246 - s.size) ≤ _; omega)).mono ?_
  rintro e w1 ⟨rfl, hb1⟩
  have hrep : (⟨(Lib.repeatL (⟨#[0]⟩ : ByteArray).data.toList (246 - s.size)).toArray⟩ : ByteArray) = str (noughts (246 - s.size)) := congrArg str (repeat_noughts _)
  rw [hrep]
  have hsz2 : (str (noughts (246 - s.size))).size = 246 - s.size := by rw [str_size, noughts_len]
  have hsz3 : ((str (hd k i s.size) ++ s) ++ str (noughts (246 - s.size))).size ≤ 300 := by rw [ByteArray.size_append, hsz, hsz2]; omega
  have hfin : str (closed ((str (hd k i s.size) ++ s) ++ str (noughts (246 - s.size))).data.toList) = str (pg k i s.data.toList) := by rw [Hpg.out, Hcat.out, str_app, str_list]
  have Hfin := Lib.hid hfin
  have H3 := Lib.hid hsz3
  have hq1 : (str (hd k i s.size) ++ s).size ≤ 300 := by rw [hsz]; omega
  have hq2 : (str (noughts (246 - s.size))).size ≤ 300 := by rw [hsz2]; omega
  clear hfin hrep hc hsz hsz2 hsz3
  generalize str (noughts (246 - s.size)) = R at *
  go_wp2_with fail
  refine (close_any _ _ (Nat.le_trans H3.out (by omega))).mono ?_
  rintro e w2 ⟨rfl, hb2⟩
  rw [Hfin.out]
  go_wp2_with fail
  go_ret2
  have hb0 : Below w.heap.size w w1 := ((Below.refl _ _).alloc (Nat.le_refl _) _).trans (hb1.mono (by simp))
  exact ⟨rfl, hb0.trans (hb2.mono hb0.size)⟩

theorem pwrong_two {k : UInt8} {i : Int} {n : Nat} (h : okKind k = false ∨ i < 0 ∨ 16777215 < i) : pwrong k i n = 2 := by
  unfold pwrong
  rw [if_neg]
  intro hh
  simp only [Bool.and_eq_true, decide_eq_true_eq] at hh
  rcases h with h | h | h
  · rw [h] at hh; cases hh.1.1
  · omega
  · omega
set_option maxHeartbeats 1000000 in
theorem put_no (k : UInt8) (i : Int) (s : ByteArray) (w : World) (hm : s.size ≤ maxLen) (h : pwrong k i s.size ≠ 0) :
    Calls Tryd.prog 13 #[.int .u8 k.toNat, .int .i64 i, .string s] w fun e w' => e = .returned (.tuple #[.string ⟨#[]⟩, .int .i64 (pwrong k i s.size)]) ∧ w = w' := by
  unfold maxLen at hm
  have hkl := k.toNat_lt
  by_cases hk : okKind k = true
  · have HK := Lib.hid (fun w => kind_yes k w hk)
    by_cases h0 : i < 0
    · rw [pwrong_two (.inr (.inl h0))]
      clear h hk
      generalize k.toNat = x at *
      generalize s.size = n at *
      go_enter Tryd.func13, Tryd.ntmps13
      go_wp2_with fail
      refine (HK.out _).mono ?_
      rintro e w' ⟨rfl, rfl⟩
      go_wp2_with fail
      go_ret2
      exact ⟨rfl, rfl⟩
    · by_cases h1 : 16777215 < i
      · rw [pwrong_two (.inr (.inr h1))]
        clear h hk
        go_enter Tryd.func13, Tryd.ntmps13
        go_wp2_with fail
        refine (HK.out _).mono ?_
        rintro e w' ⟨rfl, rfl⟩
        go_wp2_with fail
        go_ret2
        exact ⟨rfl, rfl⟩
      · have hp : pwrong k i s.size = if 246 < s.size then 5 else 0 := by
          unfold pwrong
          rw [if_pos]
          simp only [Bool.and_eq_true, decide_eq_true_eq]
          exact ⟨⟨hk, by omega⟩, by omega⟩
        by_cases h2 : 246 < s.size
        · rw [hp, if_pos h2]
          clear h hk hp
          go_enter Tryd.func13, Tryd.ntmps13
          go_wp2_with fail
          refine (HK.out _).mono ?_
          rintro e w' ⟨rfl, rfl⟩
          go_wp2_with fail
          go_ret2
          exact ⟨rfl, rfl⟩
        · rw [hp, if_neg h2] at h
          exact absurd rfl h
  · have hk' : okKind k = false := by simpa using hk
    rw [pwrong_two (.inl hk')]
    have HK := Lib.hid (fun w => kind_no k w hk')
    clear h hk hk'
    go_enter Tryd.func13, Tryd.ntmps13
    go_wp2_with fail
    refine (HK.out _).mono ?_
    rintro e w' ⟨rfl, rfl⟩
    go_wp2_with fail
    go_ret2
    exact ⟨rfl, rfl⟩

theorem pwrong_zero {k : UInt8} {i : Int} {n : Nat} (h : pwrong k i n = 0) : okKind k = true ∧ 0 ≤ i ∧ i ≤ 16777215 ∧ n ≤ 246 := by
  unfold pwrong at h
  split at h
  · rename_i hh
    simp only [Bool.and_eq_true, decide_eq_true_eq] at hh
    split at h
    · cases h
    · exact ⟨hh.1.1, hh.1.2, hh.2, by omega⟩
  · cases h

end Go.Proofs.YtpgmbpjjefecdaaDoor.Pg
