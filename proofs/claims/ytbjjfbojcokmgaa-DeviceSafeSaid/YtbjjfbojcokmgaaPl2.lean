/- Layer 7 of the document: Shown, in, Read. -/
import Derived.Test.YtbjjfbojcokmgaaPl1
namespace Go.Proofs.Ytbjjfbojcokmgaa.Dv
open Go.RowKit Base
set_option linter.unusedVariables false
set_option linter.unusedSimpArgs false

def shownTo (sec : List ByteArray) (puts : List (Nat × ByteArray)) (i k : Nat) : ByteArray := shown sec (puts.take k) i
theorem shownTo_step (sec : List ByteArray) (puts : List (Nat × ByteArray)) (i k : Nat) (hk : k < puts.length) : shownTo sec puts i (k + 1) = if puts[k].1 = i then puts[k].2 else shownTo sec puts i k := by
  unfold shownTo shown
  rw [List.take_succ_eq_append_getElem hk, List.foldl_append]
  rfl
theorem Row.putN {w : World} {B : Nat} {A : Option Addr} {l : List (Nat × ByteArray)} (h : Row w B A (putV l)) (k : Nat) (hk : k < l.length) :
    ∃ b off, A = some ⟨b, off, none⟩ ∧ b < B ∧ w.cell? ⟨b, off + k * 2, none⟩ = some (.int .i64 (l[k].1 : Nat)) ∧ w.cell? ⟨b, off + k * 2 + 1, none⟩ = some (.string l[k].2) := by
  have hl := putV_len l
  rcases h with h | ⟨b, off, e, hb, hc⟩
  · rw [h] at hl
    simp at hl
    omega
  · exact ⟨b, off, e, hb, hc _ _ (putV_at l k hk).1, by rw [Nat.add_assoc]; exact hc _ _ (putV_at l k hk).2⟩
set_option maxRecDepth 100000 in
set_option maxHeartbeats 400000 in
theorem rshown_any (A A' : Option Addr) (c c' : Nat) (sec : List ByteArray) (puts : List (Nat × ByteArray)) (i : Nat) (w : World) (hs : sec.length ≤ 1000000) (hp : puts.length ≤ 1000000) (hi : i < sec.length)
    (hr : Row w w.heap.size A (sec.map Value.string)) (hr' : Row w w.heap.size A' (putV puts)) :
    Calls Try.prog 49 #[.agg #[.slice A sec.length c, .slice A' puts.length c'], .int .i64 i] w fun e w' => e = .returned (.string (shown sec puts i)) ∧ Below w.heap.size w w' := by
  have hb0 : Below w.heap.size w (w.alloc (.cells #[.slice A sec.length c, .slice A' puts.length c'] 38)) := (by repeat (first | exact Below.refl _ _ | assumption | refine Below.drew ?_ | (refine Below.alloc ?_ (by simp <;> omega) _) | (refine Below.setCell ?_ (by simp <;> omega) _)))
  have Hb0 := Lib.hid hb0
  have HB := Lib.hid (Box.new w 38 #[.slice A sec.length c, .slice A' puts.length c'])
  obtain ⟨b, off, rfl, hbb, hc⟩ := (hr.below hb0).at_ (k := i) (by simpa using hi)
  rw [List.getElem_map] at hc
  have Hr' := Lib.hid (hr'.below hb0)
  have hi0 : (0 : Int) ≤ (i : Int) := by omega
  have hi1 : (i : Int) < (sec.length : Int) := by omega
  have H0 := Lib.hid (show sec[i] = shownTo sec puts i 0 by unfold shownTo shown; rw [List.take_zero, List.foldl_nil, List.getD_eq_getElem?_getD, List.getElem?_eq_getElem hi]; rfl)
  have HE := Lib.hid (show shownTo sec puts i puts.length = shown sec puts i by unfold shownTo; rw [List.take_length])
  clear hr hr' hb0
  generalize sec[i] = s0 at *
  generalize sec.length = n at *
  generalize hM : puts.length = m at *
  have Hm := Lib.hid hM
  clear hM
  go_enter Try.func49, Try.ntmps49
  go_upto_region 1 with fail
  generalize w.alloc (.cells #[.slice (some ⟨b, off, none⟩) n c, .slice A' m c'] 38) = w0 at *
  obtain ⟨a0, a1, _, _⟩ := Box.two HB.out
  go_wp2_with fail
  go_loop [5, 6] (fun v5 v6 => ∃ k : Nat, k ≤ m ∧ v6 = .int .i64 (k : Nat) ∧ v5 = .string (shownTo sec puts i k)) (fun _ v6 => m - (intOf v6).toNat)
  case atStart => exact ⟨0, Nat.zero_le _, rfl, by rw [H0.out]⟩
  case round =>
    obtain ⟨k, hk, rfl, rfl⟩ := hrel
    by_cases hkm : k < m
    · have hkl : k < puts.length := by rw [Hm.out]; exact hkm
      obtain ⟨b', off', rfl, hb', c0, c1⟩ := Row.putN Hr'.out k hkl
      have hk0 : (0 : Int) ≤ (k : Int) := by omega
      have hk1 : (k : Int) < (m : Int) := by omega
      have hst := shownTo_step sec puts i k hkl
      by_cases he : (puts[k]'hkl).1 = i
      · rw [if_pos he] at hst
        have Hst := Lib.hid hst
        have hd : (((puts[k]'hkl).1 : Int) == (i : Int)) = true := by rw [beq_iff_eq]; omega
        clear hst he
        generalize (puts[k]'hkl).1 = x at *
        generalize (puts[k]'hkl).2 = y at *
        go_wp2_with fail
        go_round
        case rel => exact ⟨k + 1, by omega, by go_num, by rw [Hst.out]⟩
        case measure => simp [intOf]; omega
      · rw [if_neg he] at hst
        have Hst := Lib.hid hst
        have hd : (((puts[k]'hkl).1 : Int) == (i : Int)) = false := by rw [beq_eq_false_iff_ne]; omega
        clear hst he
        generalize (puts[k]'hkl).1 = x at *
        generalize (puts[k]'hkl).2 = y at *
        go_wp2_with fail
        go_round
        case rel => exact ⟨k + 1, by omega, by go_num, by rw [Hst.out]⟩
        case measure => simp [intOf]; omega
    · have hke : k = m := by omega
      subst hke
      go_wp2_with fail
      go_ret
      exact ⟨by rw [← HE.out]; rfl, Hb0.out⟩

set_option maxRecDepth 100000 in
set_option maxHeartbeats 400000 in
theorem rin_any (A : Option Addr) (l : List Int) (c : Nat) (x : Int) (w : World) (hl : l.length ≤ 1000000) (hr : Row w w.heap.size A (l.map (Value.int .i64))) :
    Calls Try.prog 51 #[.slice A l.length c, .int .i64 x] w fun e w' => e = .returned (.bool (l.contains x)) ∧ w = w' := by
  have Hr := Lib.hid hr
  clear hr
  have HE := Lib.hid (show l.contains x = (l.take l.length).contains x by rw [List.take_length])
  generalize hV : l.contains x = V at *
  have HV := Lib.hid hV
  clear hV
  generalize hN : l.length = n at *
  have Hn := Lib.hid hN
  clear hN
  go_enter Try.func51, Try.ntmps51
  go_wp2_with fail
  go_loop [5] (fun i => ∃ k : Nat, k ≤ n ∧ i = .int .i64 (k : Nat) ∧ (l.take k).contains x = false) (fun i => n - (intOf i).toNat)
  case atStart => exact ⟨0, Nat.zero_le _, rfl, rfl⟩
  case round =>
    obtain ⟨k, hk, rfl, hno⟩ := hrel
    by_cases hkn : k < n
    · have hkl : k < l.length := by rw [Hn.out]; exact hkn
      obtain ⟨b, off, rfl, hb, hc⟩ := Hr.out.at_ (k := k) (by simpa using hkl)
      rw [List.getElem_map] at hc
      have hk0 : (0 : Int) ≤ (k : Int) := by omega
      have hk1 : (k : Int) < (n : Int) := by omega
      by_cases he : l[k]'hkl = x
      · have HVt := Lib.hid (show V = true by rw [← HV.out, List.contains_iff_mem, ← he]; exact List.getElem_mem _)
        have hd : ((l[k]'hkl) == x) = true := by rw [beq_iff_eq]; exact he
        clear hno he
        generalize l[k]'hkl = y at *
        go_wp2_with fail
        go_ret
        exact ⟨by rw [HVt.out]; rfl, rfl⟩
      · have Hno := Lib.hid (show (l.take (k + 1)).contains x = false by
          rw [List.take_succ_eq_append_getElem hkl, List.contains_eq_any_beq, List.any_append, ← List.contains_eq_any_beq, hno]
          simpa using fun h => he h.symm)
        have hd : ((l[k]'hkl) == x) = false := by rw [beq_eq_false_iff_ne]; exact he
        clear hno he
        generalize l[k]'hkl = y at *
        go_wp2_with fail
        go_round
        case rel => exact ⟨k + 1, by omega, by go_num, Hno.out⟩
        case measure => simp [intOf]; omega
    · have hke : k = n := by omega
      subst hke
      have HVf := Lib.hid (show V = false by rw [← hno, ← Hn.out, List.take_length]; exact HV.out.symm)
      clear hno
      go_wp2_with fail
      go_ret
      exact ⟨by rw [HVf.out]; rfl, rfl⟩

end Go.Proofs.Ytbjjfbojcokmgaa.Dv
