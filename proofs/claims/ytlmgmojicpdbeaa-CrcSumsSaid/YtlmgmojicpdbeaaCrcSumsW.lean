/- The walk of CrcSums: it returns true and writes nothing that was there. -/
import Derived.Test.YtlmgmojicpdbeaaCrc6
namespace Go.Proofs.Ytlmgmojicpdbeaa.crcSums
open Go.RowKit Base Crc Plain
set_option linter.unusedVariables false

theorem nat_of {a : Int} (h : (Lit.int .u32 a).wf = true) : ∃ n : Nat, a = n ∧ n < 4294967296 := by
  have := bounds_u32 h
  exact ⟨a.toNat, by omega, by omega⟩
/-- the texts, one behind the other -/
def cat (l : List ByteArray) : List UInt8 := l.flatMap fun t => t.data.toList
theorem cat_len (l : List ByteArray) : (cat l).length = total l := by
  induction l with
  | nil => rfl
  | cons s l ih =>
    simp only [cat, List.flatMap_cons, List.length_append, total, List.map_cons, List.sum_cons] at ih ⊢
    rw [ih]
    simp
theorem cat_snoc {l : List ByteArray} {k : Nat} (hk : k < l.length) : cat (l.take (k + 1)) = cat (l.take k) ++ (l[k]).data.toList := by
  unfold cat
  rw [List.take_succ_eq_append_getElem hk, List.flatMap_append]
  simp
theorem cat_take_le (l : List ByteArray) (k : Nat) : (cat (l.take k)).length ≤ (cat l).length := by
  have h : cat l = cat (l.take k) ++ cat (l.drop k) := by
    unfold cat
    rw [← List.flatMap_append, List.take_append_drop]
  rw [h, List.length_append]
  omega

set_option maxHeartbeats 1000000 in
theorem walk (A0 : Option Addr) (l0 : List ByteArray) (c0 : Nat) (a1 : Int) (s2 : ByteArray) (w : World) (g0 : l0.length ≤ c0) (m0 : c0 ≤ maxLen) (r0 : Row w w.heap.size A0 (l0.map .string)) (w0 : ∀ s ∈ l0, s.size ≤ maxLen)
    (w1 : (Lit.int .u32 a1).wf = true) (w2 : s2.size ≤ maxLen) :
    Calls Try.prog 6 #[.slice A0 l0.length c0, .int .u32 a1, .string s2] w fun e w' => e = .returned (.bool true) ∧ Below w.heap.size w w' := by
  obtain ⟨sum, rfl, hsum⟩ := nat_of w1
  have hbl : l0.length ≤ maxLen := by omega
  have HB := Lib.hid (fun w' hw => bytes_any A0 c0 l0 w' hbl hw)
  have hsm := bytesFrom_small l0 0
  have Hr := Lib.hid r0
  have Hw := Lib.hid w0
  have Hlen := Lib.hid (cat_len l0)
  unfold maxLen at m0 w2 hbl
  clear w1 r0 w0
  by_cases hg : bytesFrom 0 l0 ≤ 2000 ∧ l0.length ≤ 100 ∧ s2.size ≤ 1000
  · obtain ⟨h1, h2, h3⟩ := hg
    have htot := hsm (by omega)
    rw [htot] at h1
    have hcl : (cat l0).length ≤ 2000 := by rw [Hlen.out]; omega
    have htk := fun k => Nat.le_trans (cat_take_le l0 k) hcl
    have Htk := Lib.hid htk
    have hs2 : s2.size ≤ 140737488355328 := by omega
    have hs2' : s2.size ≤ maxLen := by unfold maxLen; omega
    have Hof := Lib.hid (fun w' hw => of_any A0 c0 l0 w' (by omega) Hw.out hw)
    have h1' : ((bytesFrom 0 l0 : Nat) : Int) ≤ 2000 := by omega
    clear hsm htot htk h1
    generalize bytesFrom 0 l0 = B at *
    generalize hn : l0.length = n at *
    have Hn := Lib.hid hn
    clear hn
    go_enter Try.func6, Try.ntmps6
    go_wp2_with fail
    refine (HB.out _ Hr.out).mono ?_
    rintro e w' ⟨rfl, rfl⟩
    go_wp2_with fail
    go_loop [7, 26] (fun v i => ∃ (k : Nat), k ≤ n ∧ i = .int .i64 k ∧ v = .string (str (cat (l0.take k)))) (fun _ i => n - (intOf i).toNat)
    case atStart => exact ⟨0, Nat.zero_le _, rfl, rfl⟩
    case round =>
      obtain ⟨k, hk, rfl, rfl⟩ := hrel
      have hz1 : (str (cat (l0.take k))).size ≤ 2000 := by rw [str_size]; exact Htk.out k
      by_cases hkn : k < n
      · have hkl : k < l0.length := by rw [Hn.out]; exact hkn
        obtain ⟨b, off, rfl, hb, hc⟩ := Hr.out.at_ (k := k) (by simpa using hkl)
        rw [List.getElem_map] at hc
        have hsn := cat_snoc hkl
        have hz2 : (cat (l0.take (k + 1))).length ≤ 2000 := Htk.out (k + 1)
        rw [hsn, List.length_append] at hz2
        have hz3 : (l0[k]'hkl).size ≤ 2000 := by simp at hz2; omega
        have Hsn := Lib.hid hsn
        clear hsn hz2
        generalize l0[k]'hkl = s at *
        generalize hX : str (cat (l0.take k)) = X at *
        have HX := Lib.hid hX
        clear hX
        go_wp2
        go_round
        case rel => exact ⟨k + 1, by omega, by go_num, by rw [Hsn.out, ← str_app, str_of, HX.out]⟩
        case measure => simp [intOf]; omega
      · have hd : l0.take k = l0 := List.take_of_length_le (by rw [Hn.out]; omega)
        rw [hd] at hz1 ⊢
        have hz1' : (str (cat l0)).size ≤ maxLen := by unfold maxLen; omega
        have hrm := fun w => rmore_any 0 (str (cat l0)) w (by decide) hz1'
        rw [str_list] at hrm
        have Hrm := Lib.hid hrm
        clear hrm hd
        generalize hX : str (cat l0) = X at *
        clear hX
        go_wp2_with fail
        refine (Hof.out _ Hr.out).mono ?_
        rintro e w1 ⟨rfl, hb1⟩
        go_wp2_with fail
        refine (Hrm.out _).mono ?_
        rintro e w' ⟨rfl, rfl⟩
        rw [show (l0.flatMap fun t => t.data.toList) = cat l0 from rfl]
        generalize more 0 (cat l0) = M at *
        go_wp2_with fail
        refine (more_any sum s2 _ hsum hs2').mono ?_
        rintro e w2 ⟨rfl, hb2⟩
        go_wp2_with fail
        refine (rmore_any sum s2 _ hsum hs2').mono ?_
        rintro e w' ⟨rfl, rfl⟩
        generalize more sum s2.data.toList = M2 at *
        go_wp2_with fail
        refine (tail_any sum _ hsum).mono ?_
        rintro e w3 ⟨rfl, hb3⟩
        go_wp2_with fail
        refine (rtail_any sum _ hsum).mono ?_
        rintro e w4 ⟨rfl, hb4⟩
        generalize str (tail4 sum) = T at *
        go_wp2_with fail
        refine (close_any s2 _ hs2).mono ?_
        rintro e w5 ⟨rfl, hb5⟩
        go_wp2_with fail
        refine (rclose_any s2 _ hs2).mono ?_
        rintro e w6 ⟨rfl, hb6⟩
        generalize str (closed s2.data.toList) = C at *
        go_wp2_with fail
        refine (awake_any _).mono ?_
        rintro e w7 ⟨rfl, hb7⟩
        go_wp2_with fail
        go_ret
        have k2 := hb1.trans (hb2.mono hb1.size)
        have k3 := k2.trans (hb3.mono k2.size)
        have k4 := k3.trans (hb4.mono k3.size)
        have k5 := k4.trans (hb5.mono k4.size)
        have k6 := k5.trans (hb6.mono k5.size)
        exact ⟨rfl, k6.trans (hb7.mono k6.size)⟩
  · clear hsm
    have hg' : (2000 : Int) < (bytesFrom 0 l0 : Nat) ∨ (¬ (2000 : Int) < (bytesFrom 0 l0 : Nat) ∧ (100 : Int) < l0.length) ∨ (¬ (2000 : Int) < (bytesFrom 0 l0 : Nat) ∧ ¬ (100 : Int) < l0.length ∧ (1000 : Int) < s2.size) := by omega
    clear hg
    generalize bytesFrom 0 l0 = B at *
    generalize hn : l0.length = n at *
    clear hn
    rcases hg' with h1 | ⟨h1, h2⟩ | ⟨h1, h2, h3⟩
    all_goals
      go_enter Try.func6, Try.ntmps6
      go_wp2_with fail
      refine (HB.out _ Hr.out).mono ?_
      rintro e w' ⟨rfl, rfl⟩
      go_wp2_with fail
      refine (awake_any _).mono ?_
      rintro e w1 ⟨rfl, hb⟩
      go_wp2_with fail
      go_ret
      exact ⟨rfl, hb⟩

end Go.Proofs.Ytlmgmojicpdbeaa.crcSums
