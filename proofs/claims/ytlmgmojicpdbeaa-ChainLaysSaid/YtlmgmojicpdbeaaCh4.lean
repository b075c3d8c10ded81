/- The contracts of the reference of package chain (layer 12), fourth part: the piece of bytes. -/
import Derived.Test.YtlmgmojicpdbeaaCh3
import Derived.Deep.RegionLaw
namespace Go.Proofs.Ytlmgmojicpdbeaa.Ch
open Go.RowKit Base Crc
set_option linter.unusedVariables false

/-- a text whose form is another one -/
theorem rtake_form (s : ByteArray) (w : World) (hs : s.size ≤ maxLen) (h : formOk s.data.toList = false) :
    Calls Try.prog 42 #[.string s] w fun e w' => e = .returned (.tuple #[.int .i64 0, .slice none 0 0, .bool false]) ∧ Below w.heap.size w w' := by
  unfold maxLen at hs
  have hl : s.data.toList.length = s.size := by simp
  unfold formOk at h
  rw [hl] at h
  by_cases h1 : s.size < 2
  · have h1' : (s.size : Int) < 2 := by omega
    clear h hl
    go_enter Try.func42, Try.ntmps42
    go_wp2
    go_ret3
    exact ⟨rfl, Below.refl _ _⟩
  · by_cases h2 : s.size % 2 = 0
    · have h3 : 246 < s.size := by
        simp [h2] at h
        omega
      have h2' : (((s.size : Int) % 2) == 1) = false := by simp; omega
      have h3' : (246 : Int) < s.size := by omega
      have h1' : ¬ (s.size : Int) < 2 := by omega
      clear h hl h1 h2
      go_enter Try.func42, Try.ntmps42
      go_wp2
      go_ret3
      exact ⟨rfl, Below.refl _ _⟩
    · have h2' : (((s.size : Int) % 2) == 1) = true := by simp; omega
      have h1' : ¬ (s.size : Int) < 2 := by omega
      clear h hl h1 h2
      go_enter Try.func42, Try.ntmps42
      go_wp2
      go_ret3
      exact ⟨rfl, Below.refl _ _⟩

theorem wrong_okTo (l : List UInt8) (n : Nat) (h0 : 1 ≤ n) (h1 : n ≤ 123) : wrong (numAt l 0 - 1) (pagesTo l n) = if okTo l n then 0 else 2 := by
  unfold wrong okTo
  rw [if_neg (by rw [pagesTo_len]; omega)]
  have e : (n == 0) = false := by simp; omega
  rw [e, Bool.false_or]
  by_cases h2 : numAt l 0 ≤ 2047
  · rw [if_neg (by omega)]
    simp [h2]
  · rw [if_pos (by omega)]
    simp [h2]

set_option maxHeartbeats 2000000 in
theorem rtake_loop (s : ByteArray) (w : World) (n : Nat) (hn : s.size = 2 * n) (h0 : 1 ≤ n) (h1 : n ≤ 123) (P : Ending → World → Prop)
    (hyes : okTo s.data.toList n = true → ∀ v w', w'.ownsRow w.heap.size 3 1 v (pagesTo s.data.toList n).length (nums (pagesTo s.data.toList n)) → Below w.heap.size w w' → P (.returned (.tuple #[.int .i64 (numAt s.data.toList 0 - 1), v, .bool true])) w')
    (hno : okTo s.data.toList n = false → ∀ w', Below w.heap.size w w' → P (.returned (.tuple #[.int .i64 0, .slice none 0 0, .bool false])) w') :
    Calls Try.prog 42 #[.string s] w P := by
  obtain ⟨i0, ti0, tz0, tz1, tz2⟩ := info_parts info_int
  have Hyes := Lib.hid hyes
  have Hno := Lib.hid hno
  clear hyes hno
  have b1 : ¬ (s.size : Int) < 2 := by omega
  have b2 : (((s.size : Int) % 2) == 1) = false := by simp; omega
  have b3 : ¬ (246 : Int) < s.size := by omega
  have Hn := Lib.hid hn
  have hs1 : s.size ≤ 246 := by omega
  have hi0 : 0 < s.size := by omega
  have hi1 : 1 < s.size := by omega
  have hI0 : ∀ W, (Instr.index 9 (.string s) (.int .i64 0)).run Try.prog W = .ok (.int .u8 (s[0].toNat : Int)) W := fun W => index_at s 0 hi0 W
  have hI1 : ∀ W, (Instr.index 9 (.string s) (.int .i64 1)).run Try.prog W = .ok (.int .u8 (s[1].toNat : Int)) W := fun W => index_at s 1 hi1 W
  have hl0 := byte_lt s[0]
  have hl1 := byte_lt s[1]
  have hnum : numAt s.data.toList 0 = (s[0].toNat : Int) * 256 + (s[1].toNat : Int) := num_at s 0 0 rfl hi1
  have Hw := Lib.hid (wrong_okTo s.data.toList n h0 h1)
  have Hnum := Lib.hid hnum
  clear hn hnum
  generalize s[0].toNat = x0 at *
  generalize s[1].toNat = x1 at *
  go_enter Try.func42, Try.ntmps42
  go_wp2
  go_quiet (fail)
  go_wp2_with fail
  go_loopw [6, 7] (fun v i wr => ∃ (k j : Nat), 1 ≤ k ∧ k ≤ n ∧ j = 2 * k ∧ i = .int .i64 (j : Nat) ∧
      wr.ownsRow w.heap.size 3 1 v (pagesTo s.data.toList k).length (nums (pagesTo s.data.toList k)) ∧ Below w.heap.size w wr) (fun _ i _ => 2 * n + 1 - (intOf i).toNat)
  case atStart => exact ⟨1, 2, by omega, h0, rfl, rfl, World.ownsRow_nil _ _ _ _, below_drewN (Below.refl _ _) _⟩
  case round =>
    clear hI0 hI1 hi0 hi1
    obtain ⟨k, j, hk1, hk, hj, rfl, hown, hbe⟩ := hrel
    have Hj := Lib.hid hj
    clear hj
    by_cases hkn : k < n
    · have hi0 : j < s.size := by rw [Hn.out, Hj.out]; omega
      have hi1 : j + 1 < s.size := by rw [Hn.out, Hj.out]; omega
      have hI0 := fun W => index_at s j hi0 W
      have hI1 := fun W => index_at s (j + 1) hi1 W
      rw [show ((j + 1 : Nat) : Int) = (j : Int) + 1 by omega] at hI1
      have hl2 := byte_lt s[j]
      have hl3 := byte_lt s[j + 1]
      have hw1 : IntKind.i64.wrap ((j : Int) + 1) = (j : Int) + 1 := IntWalk.i64_in _ (by omega)
      have hnum : numAt s.data.toList k = (s[j].toNat : Int) * 256 + (s[j + 1].toNat : Int) := num_at s j k Hj.out hi1
      have hpg := pagesTo_succ s.data.toList k hk1
      rw [hnum] at hpg
      have hple := pagesTo_len s.data.toList k
      have hpl : (pagesTo s.data.toList k).length ≤ 200 := by omega
      have Hpg := Lib.hid hpg
      clear hnum hpg hple
      generalize s[j].toNat = y0 at *
      generalize s[j + 1].toNat = y1 at *
      have hw2 : IntKind.i64.wrap (y0 : Int) = y0 := IntWalk.i64_in _ (by omega)
      have hw3 : IntKind.i64.wrap ((y0 : Int) * 256) = (y0 : Int) * 256 := IntWalk.i64_in _ (by omega)
      have hw4 : IntKind.i64.wrap (y1 : Int) = y1 := IntWalk.i64_in _ (by omega)
      have hw5 : IntKind.i64.wrap ((y0 : Int) * 256 + y1) = (y0 : Int) * 256 + y1 := IntWalk.i64_in _ (by omega)
      go_wp2_with fail
      go_region_law (refine step_append1 rfl (.tmp 37) (.tmp 49) 50 rfl w.heap.size 3 i0 (.int .i64 0) 8 Try.underlying50 ti0 tz0 tz1 tz2 rfl wr.drew (.int .i64 ((y0 : Int) * 256 + y1)) rfl u6 _ _ rfl (show wr.drew.ownsRow w.heap.size 3 1 u6 (pagesTo s.data.toList k).length (nums (pagesTo s.data.toList k)) from hown) rfl (by omega) (by decide) hbe.size ?_; intro v' w1 hown1 happ)
      all_goals
        have hbe1 := happ.below (hbe.drew) (show wr.drew.ownsRow w.heap.size 3 1 u6 (pagesTo s.data.toList k).length (nums (pagesTo s.data.toList k)) from hown) (Nat.le_refl _) hbe.size
        clear happ hown hbe
        go_wp2
        refine ⟨⟨k + 1, j + 2, by omega, by omega, by have := Hj.out; omega, by go_num, ?_, hbe1⟩, by have := Hj.out; simp [intOf]; omega⟩
        rw [Hpg.out]
        simpa using hown1
    · have hkk : k = n := by omega
      have hjn : ¬ (j : Int) < s.size := by rw [Hn.out, Hj.out]; omega
      subst hkk
      obtain ⟨A', c', ev⟩ := own_form hown
      subst ev
      have hwr := fun W hr => wrong_any (numAt s.data.toList 0 - 1) A' c' (pagesTo s.data.toList k) W (by rw [pagesTo_len]; unfold maxLen; omega) hr
      rw [Hw.out, Hnum.out] at hwr
      have Hwr := Lib.hid hwr
      clear hwr
      rcases hok : okTo s.data.toList k with _ | _
      · rw [hok] at Hwr
        have Hok := Lib.hid hok
        clear hok
        go_wp2_with fail
        refine (Hwr.out _ (own_row hown)).mono ?_
        rintro e w' ⟨rfl, rfl⟩
        go_wp2_with fail
        go_ret3
        exact Hno.out Hok.out _ hbe
      · rw [hok] at Hwr
        have Hok := Lib.hid hok
        clear hok
        go_wp2_with fail
        refine (Hwr.out _ (own_row hown)).mono ?_
        rintro e w' ⟨rfl, rfl⟩
        go_wp2_with fail
        go_ret3
        have := Hyes.out Hok.out _ _ hown hbe
        rw [Hnum.out] at this
        exact this

end Go.Proofs.Ytlmgmojicpdbeaa.Ch
