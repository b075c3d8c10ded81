/- The contracts of package pitheadplain that this seat reaches: how many bytes texts have. -/
import Derived.Test.YtlmgmojicpdbeaaOpen
import Derived.WalkLawsBesides
namespace Go.Proofs.Ytlmgmojicpdbeaa.Plain
open Go.RowKit Base
set_option linter.unusedVariables false

def bytesFrom (a : Nat) : List ByteArray → Nat
  | [] => a
  | s :: l => if 1000000 ≤ a + min s.size 1000000 then a + min s.size 1000000 else bytesFrom (a + min s.size 1000000) l
def total (l : List ByteArray) : Nat := (l.map (·.size)).sum
theorem bytesFrom_step {l : List ByteArray} {k : Nat} (hk : k < l.length) (a : Nat) : bytesFrom a (l.drop k) = if 1000000 ≤ a + min (l[k]).size 1000000 then a + min (l[k]).size 1000000 else bytesFrom (a + min (l[k]).size 1000000) (l.drop (k + 1)) := by
  rw [List.drop_eq_getElem_cons hk]
  rfl
theorem bytesFrom_small (l : List ByteArray) (a : Nat) (h : bytesFrom a l < 1000000) : bytesFrom a l = a + total l := by
  induction l generalizing a with
  | nil => rfl
  | cons s l ih =>
    simp only [bytesFrom] at h ⊢
    split at h
    · omega
    · rename_i hh
      rw [if_neg hh, ih _ h]
      simp only [total, List.map_cons, List.sum_cons]
      omega
theorem total_mem {l : List ByteArray} {s : ByteArray} (h : s ∈ l) : s.size ≤ total l := by
  induction l with
  | nil => cases h
  | cons t l ih =>
    simp only [total, List.map_cons, List.sum_cons]
    rcases List.mem_cons.1 h with rfl | h
    · omega
    · have := ih h
      simp only [total] at this
      omega

theorem ret_i64 {a b : Int} (h : a = b) : Ending.returned (.int .i64 a) = .returned (.int .i64 b) := by rw [h]

set_option maxHeartbeats 400000 in
theorem bytes_any (A : Option Addr) (c : Nat) (l : List ByteArray) (w : World) (hl : l.length ≤ maxLen) (hr : Row w w.heap.size A (l.map .string)) :
    Calls Try.prog 27 #[.slice A l.length c] w fun e w' => e = .returned (.int .i64 (bytesFrom 0 l : Nat)) ∧ w = w' := by
  unfold maxLen at hl
  have Hr := Lib.hid hr
  clear hr
  generalize hn : l.length = n at *
  have Hn := Lib.hid hn
  clear hn
  go_enter Try.func27, Try.ntmps27
  go_wp2
  go_loop [3, 8] (fun v i => ∃ (k a : Nat), k ≤ n ∧ i = .int .i64 k ∧ v = .int .i64 (a : Nat) ∧ a < 1000000 ∧ bytesFrom 0 l = bytesFrom a (l.drop k)) (fun _ i => n - (intOf i).toNat)
  case atStart => exact ⟨0, 0, Nat.zero_le _, rfl, rfl, by omega, rfl⟩
  case round =>
    obtain ⟨k, a, hk, rfl, rfl, ha, he⟩ := hrel
    have He := Lib.hid he
    clear he
    by_cases hkn : k < n
    · have hkl : k < l.length := by rw [Hn.out]; exact hkn
      obtain ⟨b, off, rfl, hb, hc⟩ := Hr.out.at_ (k := k) (by simpa using hkl)
      rw [List.getElem_map] at hc
      have hst := bytesFrom_step hkl a
      rw [← He.out] at hst
      generalize l[k]'hkl = s at *
      by_cases hs : (s.size : Int) ≤ 1000000
      · -- as it is
        by_cases hz : (1000000 : Int) ≤ a + s.size
        · rw [if_pos (by omega)] at hst
          have Hst := Lib.hid hst
          clear hst
          go_wp2
          go_ret
          exact ⟨ret_i64 (by rw [Hst.out]; omega), rfl⟩
        · rw [if_neg (by omega)] at hst
          have Hst := Lib.hid hst
          clear hst
          go_wp2
          go_round
          case rel => exact ⟨k + 1, a + min s.size 1000000, by omega, by go_num, by first | (congr 1; omega) | go_num, by omega, Hst.out⟩
          case measure => simp [intOf]; omega
      · -- cut off
        rw [if_pos (by omega)] at hst
        have Hst := Lib.hid hst
        clear hst
        have hm : min (s.size : Int) 1000000 = 1000000 := by omega
        have hz' : (1000000 : Int) ≤ a + 1000000 := by omega
        go_wp2
        go_ret
        exact ⟨ret_i64 (by rw [Hst.out]; omega), rfl⟩
    · go_wp2
      go_ret
      have hd : l.drop k = [] := List.drop_eq_nil_of_le (by rw [Hn.out]; omega)
      exact ⟨ret_i64 (by rw [He.out, hd]; rfl), rfl⟩

end Go.Proofs.Ytlmgmojicpdbeaa.Plain
