/- Parts of a proof: Layer 5: names and members (the document's, and the program's). Layer 5: the program's checks pass where the document's do; a member's place. Layers 15 and 16: the document's checks of tiers and dimensions. -/
import Derived.Test.YthmbgbmcdbdecaaGreatG01
import Derived.Deep.Fields
import Derived.ChangeSame
import Derived.WalkLawsBesides
import Derived.WalkSpells
import Derived.Deep.RegionHeld3
import Derived.Deep.QuietTactic
import Derived.BigQuiet
import Derived.Deep.Cut
import Derived.Lib.Strings
namespace Go.Proofs.YthmbgbmcdbdecaaGreat.Tc
open Go.RowKit Base
set_option linter.unusedVariables false
set_option linter.unusedSimpArgs false
theorem below_drewN {B : Nat} {a b : World} (h : Below B a b) (n : Nat) : Below B a (b.drewN n) := ⟨h.os, h.tape, h.output, h.size, h.block⟩
theorem less_iff : ∀ x y : List UInt8, Op.bytesLess x y = true ↔ x < y
 | [], [] => by simp [Op.bytesLess]
 | _ :: _, [] => by simp [Op.bytesLess]
 | [], _ :: _ => by simp [Op.bytesLess]
 | a :: x, b :: y => by
  rw [Op.bytesLess, List.cons_lt_cons_iff, ← less_iff x y]
  by_cases h1 : a < b <;> by_cases h2 : a = b <;> simp [h1, h2]
theorem less_total {x y : List UInt8} (h1 : Op.bytesLess x y = false) (h2 : (x == y) = false) : Op.bytesLess y x = true := by
 rw [less_iff]
 have h1' : ¬ x < y := by rw [← less_iff, h1]; simp
 have h2' : ¬ x = y := by simpa using h2
 have h3 : y ≤ x := List.not_lt.1 h1'
 exact Std.lt_of_le_of_ne h3 (fun e => h2' e.symm)
theorem less_trans {x y z : List UInt8} (h1 : Op.bytesLess x y = true) (h2 : Op.bytesLess y z = true) : Op.bytesLess x z = true := by
 rw [less_iff] at *
 exact List.lt_trans h1 h2
theorem less_irrefl (x : List UInt8) : Op.bytesLess x x = false := by
 rcases h : Op.bytesLess x x with _ | _
 ·rfl
 ·rw [less_iff] at h
  exact absurd h (List.lt_irrefl x)
def RetI (P : Int → Prop) (w : World) (e : Ending) (w' : World) : Prop := ∃ r : Int, e = .returned (.int .i64 r) ∧ P r ∧ Below w.heap.size w w'
def RetB (P : Bool → Prop) (w : World) (e : Ending) (w' : World) : Prop := ∃ r : Bool, e = .returned (.bool r) ∧ P r ∧ Below w.heap.size w w'
def IsOk (s : ByteArray) : Prop := 1 ≤ s.size ∧ s.size ≤ 16
set_option maxHeartbeats 400000 in
theorem ris_any (s : ByteArray) (w : World) (hs : s.size ≤ maxLen) : Calls Tryz.prog 146 #[.string s] w (RetB (fun r => r = true → IsOk s) w) := by
 unfold maxLen at hs
 have HR := kp (show ∀ r w', (r = true → 1 ≤ (s.size : Int) ∧ (s.size : Int) ≤ 16) → Below w.heap.size w w' → RetB (fun r => r = true → IsOk s) w (.returned (.bool r)) w' from fun r w' h hb => ⟨_, rfl, (fun e => by have := h e; unfold IsOk; omega), hb⟩)
 generalize hQ : RetB (fun r => r = true → IsOk s) w = Q at *
 clear hQ
 go_enter Tryz.func146, Tryz.ntmps146
 go_wp2_with fail
 all_goals exact HR.out _ _ (by simp; try omega) (Below.refl _ _)
def okc (c : UInt8) : Prop := (97 ≤ (c.toNat : Int) ∧ (c.toNat : Int) ≤ 122) ∨ (48 ≤ (c.toNat : Int) ∧ (c.toNat : Int) ≤ 57) ∨ (c.toNat : Int) = 95
def NameOk (s : ByteArray) : Prop := 1 ≤ s.size ∧ s.size ≤ 12 ∧ ∀ i (h : i < s.size), okc s[i]
set_option maxHeartbeats 1000000 in
theorem rname_any (s : ByteArray) (w : World) (hs : s.size ≤ maxLen) : Calls Tryz.prog 80 #[.string s] w (RetB (fun r => r = true → NameOk s) w) := by
 unfold maxLen at hs
 have HR := kp (show ∀ r w', (r = true → NameOk s) → Below w.heap.size w w' → RetB (fun r => r = true → NameOk s) w (.returned (.bool r)) w' from fun r w' h hb => ⟨_, rfl, h, hb⟩)
 generalize hQ : RetB (fun r => r = true → NameOk s) w = Q at *
 clear hQ
 go_enter Tryz.func80, Tryz.ntmps80
 by_cases h1 : 1 ≤ s.size ∧ s.size ≤ 12
 ·have h11 : ¬ ((s.size : Nat) : Int) < 1 := by omega
  have h12 : ¬ (12 : Int) < ((s.size : Nat) : Int) := by omega
  go_wp2_with fail
  clear h11 h12
  go_loopw [3] (fun i wr => ∃ k : Nat, k ≤ s.size ∧ i = .int .i64 k ∧ (∀ i (h : i < s.size), i < k → okc s[i]) ∧ Below w.heap.size w wr) (fun i _ => s.size - (intOf i).toNat)
  case atStart => exact ⟨0, Nat.zero_le _, rfl, fun i h h' => by omega, Below.refl _ _⟩
  case round =>
   obtain ⟨k, hk, rfl, hok, hbe⟩ := hrel
   have Hok := kp hok
   have Hbe := kp hbe
   clear hok hbe
   by_cases hlt : k < s.size
   ·have HNx := kp (show okc s[k] → ∀ i (h : i < s.size), i < k + 1 → okc s[i] from fun h i hi hik => by
     by_cases e : i = k
     ·subst e; exact h
     ·exact Hok.out i hi (by omega))
    go_wp2_with fail
    all_goals first
     | exact HR.out _ _ (fun h => by cases h) Hbe.out
     | (have ho : okc s[k] := by
         unfold okc
         first
          | omega
          | (rename_i hx; simp at hx; omega)
        exact ⟨⟨k + 1, by omega, by go_num, HNx.out ho, Hbe.out⟩, by simp [intOf]; omega⟩)
   ·go_wp2_with fail
    exact HR.out _ _ (fun _ => ⟨h1.1, h1.2, fun i hi => Hok.out i hi (by omega)⟩) Hbe.out
 ·go_wp2_with fail
  all_goals first
   | exact HR.out _ _ (fun h => by cases h) (Below.refl _ _)
   | (exfalso; omega)
def RowOk (l : List ByteArray) : Prop := (∀ s ∈ l, IsOk s) ∧ ∀ i (h : i + 1 < l.length), Op.bytesLess l[i].toList l[i + 1].toList = true
set_option maxHeartbeats 1000000 in
theorem rrow_any (A : Option Addr) (l : List ByteArray) (c : Nat) (w : World) (hl : l.length ≤ maxLen) (hz : ∀ s ∈ l, s.size ≤ maxLen) (hr : Row w w.heap.size A (l.map .string)) :
 Calls Tryz.prog 128 #[.slice A l.length c] w (RetI (fun r => r = 0 → RowOk l) w) := by
 unfold maxLen at hl
 have HR := kp (show ∀ r w', (r = 0 → RowOk l) → Below w.heap.size w w' → RetI (fun r => r = 0 → RowOk l) w (.returned (.int .i64 r)) w' from fun r w' h hb => ⟨_, rfl, h, hb⟩)
 generalize hQ : RetI (fun r => r = 0 → RowOk l) w = Q at *
 have HI := kp ris_any
 have Hz := kp hz
 have Hr := kp hr
 clear hQ hz hr
 generalize hN : l.length = n at *
 have Hn := kp hN
 clear hN
 go_enter Tryz.func128, Tryz.ntmps128
 go_wp2_with fail
 go_loopw [3] (fun i wr => ∃ k : Nat, k ≤ n ∧ i = .int .i64 k ∧ ((∀ s ∈ l.take k, IsOk s) ∧ ∀ i (h : i + 1 < l.length), i + 1 < k → Op.bytesLess l[i].toList l[i + 1].toList = true) ∧ Below w.heap.size w wr) (fun i _ => n - (intOf i).toNat)
 case atStart => exact ⟨0, Nat.zero_le _, rfl, ⟨by simp, fun i h h' => by omega⟩, Below.refl _ _⟩
 case round =>
  obtain ⟨k, hk, rfl, hok, hbe⟩ := hrel
  have Hok := kp hok
  have Hbe := kp hbe
  clear hok hbe
  by_cases hlt : k < n
  ·have hkl : k < l.length := by rw [Hn.out]; exact hlt
   obtain ⟨b, off, rfl, hb, c0⟩ := Row.at_ ((Hr.out.below Hbe.out).more Hbe.out.size) (k := k) (by rw [List.length_map]; exact hkl)
   rw [List.getElem_map] at c0
   have HIk := kp (HI.out (l[k]'hkl) wr (Hz.out _ (List.getElem_mem hkl)))
   generalize hx : (l[k]'hkl) = x at *
   have Hx := kp hx
   clear hx
   go_wp2_with fail
   refine HIk.out.mono ?_
   rintro e w1 ⟨r, rfl, hr, hb1⟩
   have Hb1 := kp (Hbe.out.trans (hb1.mono Hbe.out.size))
   have c1 := cell_keep hb1 c0
   clear hb1 HIk c0
   rcases r with _ | _
   ·clear hr
    go_wp2_with fail
    exact HR.out _ _ (fun h => by cases h) Hb1.out
   ·have hxk := hr rfl
    have Hs := kp (show ∀ s ∈ l.take (k + 1), IsOk s from fun s hs => by
     rw [List.take_succ_eq_append_getElem hkl] at hs
     rcases List.mem_append.1 hs with hs | hs
     ·exact Hok.out.1 s hs
     ·rw [List.mem_singleton.1 hs, Hx.out]; exact hxk)
    clear hr hxk
    rcases k with _ | k
    ·have h00 : ¬ (0 : Int) < ((0 : Nat) : Int) := by omega
     go_wp2_with fail
     go_quiet (fail)
     go_wp2_with fail
     exact ⟨⟨1, by omega, by go_num, ⟨Hs.out, fun i h h' => by omega⟩, below_drewN Hb1.out _⟩, by simp [intOf]; omega⟩
    ·have hkl' : k < l.length := by omega
     obtain ⟨b', off', e', hb', c2⟩ := Row.at_ ((Hr.out.below Hb1.out).more Hb1.out.size) (k := k) (by rw [List.length_map]; exact hkl')
     rw [List.getElem_map] at c2
     injection e' with e'
     injection e' with e1 e2 _
     subst e1 e2
     generalize hy : (l[k]'hkl') = y at *
     have Hy := kp hy
     clear hy
     have h00 : (0 : Int) < ((k : Nat) : Int) + 1 := by omega
     go_wp2_with fail
     go_quiet (fail)
     go_wp2_with fail
     ·exact HR.out _ _ (fun h => by cases h) (below_drewN Hb1.out _)
     ·rename_i hc
      refine ⟨⟨k + 2, by omega, by go_num, ⟨Hs.out, fun i hi hik => ?_⟩, below_drewN Hb1.out _⟩, by simp [intOf]; omega⟩
      by_cases e : i = k
      ·subst e
       rw [Hx.out, Hy.out]
       exact less_total hc.1 hc.2
      ·exact Hok.out.2 i hi (by omega)
  ·go_wp2_with fail
   exact HR.out _ _ (fun _ => ⟨fun s hs => Hok.out.1 s (by rw [List.take_of_length_le (by rw [Hn.out]; omega)]; exact hs), fun i hi => Hok.out.2 i hi (by rw [Hn.out] at hi; omega)⟩) Hbe.out
theorem toList_len (s : ByteArray) : s.toList.length = s.size := by rw [Lib.toList_data]; simp
theorem nonempty_of {s : ByteArray} (h : 1 ≤ s.size) : s.toList.isEmpty = false ∧ (s.toList == []) = false ∧ ¬ s.toList = [] := by
 have e := toList_len s
 rcases hl : s.toList with _ | ⟨a, l⟩
 ·rw [hl] at e; simp at e; omega
 ·simp
theorem bytes_eq {x y : ByteArray} (h : (x.toList == y.toList) = true) : x = y := by
 have h := eq_of_beq h
 rw [Lib.toList_data, Lib.toList_data] at h
 cases x with
 | mk xd => cases y with
  | mk yd => exact congrArg ByteArray.mk (Array.toList_inj.1 h)
set_option maxHeartbeats 400000 in
theorem tcheck_ok (s : ByteArray) (w : World) (h : IsOk s) : Calls Tryz.prog 135 #[.string s] w fun e w' => e = .returned (.int .i64 0) ∧ w = w' := by
 obtain ⟨h1, h2⟩ := h
 obtain ⟨e1, e2, e3⟩ := nonempty_of h1
 have h3 : ¬ (16 : Int) < (s.size : Int) := by omega
 go_enter Tryz.func135, Tryz.ntmps135
 go_wp2_with fail
 go_ret
 exact ⟨rfl, rfl⟩
set_option maxHeartbeats 1000000 in
theorem tname_ok (s : ByteArray) (w : World) (h : NameOk s) : Calls Tryz.prog 89 #[.string s] w fun e w' => e = .returned (.int .i64 0) ∧ w = w' := by
 obtain ⟨h1, h2, h3⟩ := h
 obtain ⟨e1, e2, e3⟩ := nonempty_of h1
 have h4 : ¬ (12 : Int) < (s.size : Int) := by omega
 have H3 := kp h3
 clear h3
 go_enter Tryz.func89, Tryz.ntmps89
 go_wp2_with fail
 clear e1 e2 e3 h4
 go_loop [14] (fun i => ∃ k : Nat, k ≤ s.size ∧ i = .int .i64 k) (fun i => s.size - (intOf i).toNat)
 case atStart => exact ⟨0, Nat.zero_le _, rfl⟩
 case round =>
  obtain ⟨k, hk, rfl⟩ := hrel
  by_cases hlt : k < s.size
  ·have ho := H3.out k hlt
   unfold okc at ho
   go_wp2_with fail
   all_goals first
    | (exfalso; omega)
    | (exfalso; simp at *; omega)
    | (go_round
       case rel => exact ⟨k + 1, by omega, by go_num⟩
       case measure => simp [intOf]; omega)
  ·go_wp2_with fail
   go_ret
   exact ⟨rfl, rfl⟩
set_option maxHeartbeats 1000000 in
theorem trow_ok (A : Option Addr) (l : List ByteArray) (c : Nat) (w : World) (hl : l.length ≤ maxLen) (hr : Row w w.heap.size A (l.map .string)) (ho : RowOk l) :
 Calls Tryz.prog 116 #[.slice A l.length c] w fun e w' => e = .returned (.int .i64 0) ∧ w = w' := by
 unfold maxLen at hl
 have HC := kp tcheck_ok
 have Hr := kp hr
 have Ho := kp ho
 clear hr ho
 generalize hN : l.length = n at *
 have Hn := kp hN
 clear hN
 go_enter Tryz.func116, Tryz.ntmps116
 go_wp2_with fail
 go_loop [8] (fun i => ∃ k : Nat, k ≤ n ∧ i = .int .i64 k) (fun i => n - (intOf i).toNat)
 case atStart => exact ⟨0, Nat.zero_le _, rfl⟩
 case round =>
  obtain ⟨k, hk, rfl⟩ := hrel
  by_cases hlt : k < n
  ·have hkl : k < l.length := by rw [Hn.out]; exact hlt
   obtain ⟨b, off, rfl, hb, c0⟩ := Row.at_ Hr.out (k := k) (by rw [List.length_map]; exact hkl)
   rw [List.getElem_map] at c0
   have HCk := kp (HC.out (l[k]'hkl) w (Ho.out.1 _ (List.getElem_mem hkl)))
   rcases k with _ | k
   ·rw [Nat.add_zero] at c0
    generalize (l[0]'hkl) = x at *
    have h00 : ¬ (0 : Int) < ((0 : Nat) : Int) := by omega
    go_wp2_with fail
    refine HCk.out.mono ?_
    rintro e w' ⟨rfl, rfl⟩
    go_wp2_with fail
    go_round
    case rel => exact ⟨1, by omega, by go_num⟩
    case measure => simp [intOf]; omega
   ·have hkl' : k < l.length := by omega
    obtain ⟨b', off', e', hb', c2⟩ := Row.at_ Hr.out (k := k) (by rw [List.length_map]; exact hkl')
    rw [List.getElem_map] at c2
    injection e' with e'
    injection e' with e1 e2 _
    subst e1 e2
    have hle := Ho.out.2 k hkl
    generalize (l[k]'hkl') = y at *
    generalize (l[k + 1]'hkl) = x at *
    have h00 : (0 : Int) < ((k : Nat) : Int) + 1 := by omega
    go_wp2_with fail
    refine HCk.out.mono ?_
    rintro e w' ⟨rfl, rfl⟩
    go_wp2_with fail
    go_round
    case rel => exact ⟨k + 2, by omega, by go_num⟩
    case measure => simp [intOf]; omega
  ·go_wp2_with fail
   go_ret
   exact ⟨rfl, rfl⟩
def AtP (l : List ByteArray) (x : ByteArray) (r : Int) : Prop := (0 ≤ r → ∃ i : Nat, r = (i : Int) ∧ l[i]? = some x) ∧ (r < 0 → ∀ i : Nat, l[i]? ≠ some x)
set_option maxHeartbeats 1000000 in
theorem rat_any (A : Option Addr) (l : List ByteArray) (c : Nat) (x : ByteArray) (w : World) (hl : l.length ≤ maxLen) (hr : Row w w.heap.size A (l.map .string)) :
 Calls Tryz.prog 55 #[.slice A l.length c, .string x] w (RetI (AtP l x) w) := by
 unfold maxLen at hl
 have HR := kp (show ∀ (r : Int) w', AtP l x r → Below w.heap.size w w' → RetI (AtP l x) w (.returned (.int .i64 r)) w' from fun r w' h hb => ⟨_, rfl, h, hb⟩)
 generalize hQ : RetI (AtP l x) w = Q at *
 clear hQ
 have Hr := kp hr
 clear hr
 generalize hN : l.length = n at *
 have Hn := kp hN
 clear hN
 go_enter Tryz.func55, Tryz.ntmps55
 go_wp2_with fail
 go_loop [5] (fun i => ∃ k : Nat, k ≤ n ∧ i = .int .i64 k ∧ ∀ j, j < k → l[j]? ≠ some x) (fun i => n - (intOf i).toNat)
 case atStart => exact ⟨0, Nat.zero_le _, rfl, fun j h => by omega⟩
 case round =>
  obtain ⟨k, hk, rfl, hno⟩ := hrel
  have Hno := kp hno
  clear hno
  by_cases hlt : k < n
  ·have hkl : k < l.length := by rw [Hn.out]; exact hlt
   obtain ⟨b, off, rfl, hb, c0⟩ := Row.at_ Hr.out (k := k) (by rw [List.length_map]; exact hkl)
   rw [List.getElem_map] at c0
   have Hy := kp (List.getElem?_eq_getElem hkl)
   generalize (l[k]'hkl) = y at *
   rcases he : (y.toList == x.toList) with _ | _
   ·have Hnx := kp (show ∀ j, j < k + 1 → l[j]? ≠ some x from fun j hj => by
     by_cases e : j = k
     ·subst e
      rw [Hy.out]
      intro hh
      injection hh with hh
      rw [hh] at he
      simp at he
     ·exact Hno.out j (by omega))
    go_wp2_with fail
    go_round
    case rel => exact ⟨k + 1, by omega, by go_num, Hnx.out⟩
    case measure => simp [intOf]; omega
   ·have Hyx := kp (bytes_eq he)
    go_wp2_with fail
    exact HR.out _ _ ⟨fun _ => ⟨k, rfl, by rw [Hy.out, Hyx.out]⟩, fun h => by omega⟩ (Below.refl _ _)
  ·go_wp2_with fail
   exact HR.out _ _ ⟨fun h => by omega, fun _ j hj => Hno.out j (by have := (List.getElem?_eq_some_iff.1 hj).1; rw [Hn.out] at this; omega) hj⟩ (Below.refl _ _)
set_option maxHeartbeats 400000 in
theorem nan1_any (x : ByteArray) (w : World) : Calls Tryz.prog 148 #[.string x] w fun e w' => e = .returned (.bool false) ∧ w = w' := by
 go_enter Tryz.func148, Tryz.ntmps148
 go_wp2_with fail
 go_ret
 exact ⟨by simp, rfl⟩
set_option maxHeartbeats 400000 in
theorem less_any (x y : ByteArray) (w : World) : Calls Tryz.prog 130 #[.string x, .string y] w fun e w' => e = .returned (.bool (Op.bytesLess x.toList y.toList)) ∧ w = w' := by
 have HN := kp nan1_any
 go_enter Tryz.func130, Tryz.ntmps130
 go_wp2_with (go_at_call 148; refine (HN.out _ _).mono ?_; rintro e w' ⟨rfl, rfl⟩)
 go_ret
 exact ⟨rfl, rfl⟩
theorem RowOk.lt {l : List ByteArray} (h : RowOk l) {i j : Nat} (hij : i < j) (hj : j < l.length) : Op.bytesLess (l[i]'(by omega)).toList l[j].toList = true := by
 induction j with
 | zero => omega
 | succ j ih =>
  by_cases e : i = j
  ·subst e; exact h.2 i hj
  ·exact less_trans (ih (by omega) (by omega)) (h.2 j hj)
theorem RowOk.less {l : List ByteArray} (h : RowOk l) {i j : Nat} (hi : i < l.length) (hj : j < l.length) : Op.bytesLess l[i].toList l[j].toList = decide (i < j) := by
 by_cases hij : i < j
 ·rw [h.lt hij hj, decide_eq_true hij]
 ·rw [decide_eq_false hij]
  by_cases e : i = j
  ·subst e; exact less_irrefl _
  ·rcases hb : Op.bytesLess l[i].toList l[j].toList with _ | _
   ·rfl
   ·have := less_trans hb (h.lt (show j < i by omega) hi)
    rw [less_irrefl] at this
    cases this
set_option maxHeartbeats 2000000 in
theorem search_ok (A : Option Addr) (l : List ByteArray) (c : Nat) (i : Nat) (x : ByteArray) (w : World) (hl : l.length ≤ 1000000) (hr : Row w w.heap.size A (l.map .string)) (ho : RowOk l) (hi : l[i]? = some x) :
 Calls Tryz.prog 109 #[.slice A l.length c, .string x] w fun e w' => e = .returned (.tuple #[.int .i64 i, .bool true]) ∧ Below w.heap.size w w' := by
 have HL := kp less_any
 have hil : i < l.length := (List.getElem?_eq_some_iff.1 hi).1
 have hix : l[i] = x := (List.getElem?_eq_some_iff.1 hi).2
 have Hr := kp hr
 have Hls := kp (show ∀ j y, l[j]? = some y → Op.bytesLess y.toList x.toList = decide (j < i) from fun j y hj => by
  obtain ⟨hj', rfl⟩ := List.getElem?_eq_some_iff.1 hj
  rw [← hix]; exact ho.less hj' hil)
 have Hi := kp hi
 clear hr ho hi hix
 generalize hN : l.length = n at *
 have Hn := kp hN
 clear hN
 go_enter Tryz.func109, Tryz.ntmps109
 go_wp2_with fail
 go_loopw [7, 8] (fun s7 s8 wr => ∃ lo hi : Nat, s7 = .int .i64 lo ∧ s8 = .int .i64 hi ∧ lo ≤ i ∧ i ≤ hi ∧ hi ≤ n ∧ Below w.heap.size w wr) (fun s7 s8 _ => (intOf s8).toNat - (intOf s7).toNat)
 case atStart => exact ⟨0, n, rfl, rfl, Nat.zero_le _, by omega, Nat.le_refl _, Below.refl _ _⟩
 case round =>
  obtain ⟨lo, hi, rfl, rfl, h1, h2, h3, hbe⟩ := hrel
  have Hbe := kp hbe
  clear hbe
  by_cases hlt : lo < hi
  ·have hml : (lo + hi) / 2 < l.length := by rw [Hn.out]; omega
   obtain ⟨b, off, rfl, hb, c0⟩ := Row.at_ ((Hr.out.below Hbe.out).more Hbe.out.size) (k := (lo + hi) / 2) (by rw [List.length_map]; exact hml)
   rw [List.getElem_map] at c0
   have hls := Hls.out _ _ (List.getElem?_eq_getElem hml)
   generalize (l[(lo + hi) / 2]'hml) = y at *
   have HLy := kp (HL.out y x)
   rw [hls] at HLy
   clear hls
   have hm0 : (0 : Int) ≤ ((lo : Int) + (hi : Int)) / 2 := by omega
   have hm1 : ((lo : Int) + (hi : Int)) / 2 < (n : Int) := by omega
   by_cases hmi : (lo + hi) / 2 < i
   ·rw [decide_eq_true hmi] at HLy
    go_wp2_with fail
    refine (HLy.out _).mono ?_
    rintro e w' ⟨rfl, rfl⟩
    go_wp2_with fail
    refine ⟨⟨(lo + hi) / 2 + 1, hi, by go_num, rfl, by omega, by omega, by omega, Hbe.out⟩, by simp [intOf]; omega⟩
   ·rw [decide_eq_false hmi] at HLy
    go_wp2_with fail
    refine (HLy.out _).mono ?_
    rintro e w' ⟨rfl, rfl⟩
    go_wp2_with fail
    refine ⟨⟨lo, (lo + hi) / 2, rfl, by go_num, by omega, by omega, by omega, Hbe.out⟩, by simp [intOf]; omega⟩
  ·obtain rfl : i = lo := by omega
   have hil' : i < l.length := by rw [Hn.out]; exact hil
   obtain ⟨b, off, rfl, hb, c0⟩ := Row.at_ ((Hr.out.below Hbe.out).more Hbe.out.size) (k := i) (by rw [List.length_map]; exact hil')
   rw [List.getElem_map] at c0
   have hxe : (l[i]'hil') = x := (List.getElem?_eq_some_iff.1 Hi.out).2
   rw [hxe] at c0
   have hii : (x.toList == x.toList) = true := by simp
   clear hxe
   go_wp2_with fail
   go_ret2
   exact ⟨rfl, Hbe.out⟩
set_option maxHeartbeats 400000 in
theorem tfind_ok (A : Option Addr) (l : List ByteArray) (c : Nat) (i : Nat) (x : ByteArray) (w : World) (hl : l.length ≤ 1000000) (hr : Row w w.heap.size A (l.map .string)) (ho : RowOk l) (hi : l[i]? = some x) :
 Calls Tryz.prog 81 #[.slice A l.length c, .string x] w fun e w' => e = .returned (.tuple #[.int .i64 i, .bool true]) ∧ Below w.heap.size w w' := by
 have HS := kp (search_ok A l c i x w hl hr ho hi)
 clear hl hr ho hi
 generalize l.length = n at *
 go_enter Tryz.func81, Tryz.ntmps81
 go_wp2_with fail
 refine HS.out.mono ?_
 rintro e w' ⟨rfl, hb⟩
 have Hb := kp hb
 clear hb
 go_wp2_with fail
 go_ret2
 exact ⟨rfl, Hb.out⟩
theorem RetB.mono {P : Bool → Prop} {w : World} {r : Bool} {w' : World} (h : P r) (hb : Below w.heap.size w w') : RetB P w (.returned (.bool r)) w' := ⟨r, rfl, h, hb⟩
theorem RetI.mono {P : Int → Prop} {w : World} {r : Int} {w' : World} (h : P r) (hb : Below w.heap.size w w') : RetI P w (.returned (.int .i64 r)) w' := ⟨r, rfl, h, hb⟩
abbrev tierC (t : Tier) : Array Value := #[.string t.name, .slice t.At t.terms.length t.ct, .slice t.Au t.up.length t.cu]
abbrev dimC (d : Dim) : Array Value := #[.string d.name, .slice d.A d.tiers.length d.c]
set_option maxHeartbeats 1000000 in
theorem r15few_any (t : Tier) (w : World) (h : TierAt w w.heap.size t) : Calls Tryz.prog 78 #[.agg (tierC t)] w (RetB (fun _ => True) w) := by
 unfold tierC
 have HR := kp (fun r w' hb => RetB.mono (P := fun _ => True) (w := w) (r := r) (w' := w') trivial hb)
 have Hr := kp h.terms
 have hn := h.nt
 have hu := h.nu
 have hnm := h.name
 have Hz := kp h.sz
 unfold maxLen at hn hu hnm
 clear h
 generalize hQ : RetB (fun _ => True) w = Q at *
 clear hQ
 generalize hL : t.terms = l at *
 clear hL
 generalize t.name = nm at *
 generalize t.At = A at *
 generalize t.ct = ct at *
 generalize t.Au = Au at *
 generalize t.up.length = nu at *
 generalize t.cu = cu at *
 generalize hN : l.length = n at *
 have Hn := kp hN
 clear hN
 by_cases h5 : (nm.size : Int) ≤ 5000
 all_goals
  go_enter Tryz.func78, Tryz.ntmps78
  go_wp2_with fail
  go_loopw [3, 4] (fun v3 v4 wr => ∃ (k : Nat) (x : Int), k ≤ n ∧ k ≤ 221 ∧ v3 = .int .i64 x ∧ v4 = .int .i64 k ∧ Box wr w.heap.size 63 #[.string nm, .slice A n ct, .slice Au nu cu] ∧ Below w.heap.size w wr) (fun _ v4 _ => n - (intOf v4).toNat)
  case atStart => exact ⟨0, _, Nat.zero_le _, by omega, rfl, rfl, Box.new _ _ _, (Below.refl _ _).alloc (Nat.le_refl _) _⟩
  case round =>
   obtain ⟨k, x, hk, hk2, rfl, rfl, hbx, hbe⟩ := hrel
   obtain ⟨b0, b1, b2, _, _, _⟩ := hbx.three
   have Hbx := kp hbx
   have Hbe := kp hbe
   clear hbx hbe
   by_cases hlt : k < n
   ·by_cases h220 : k ≤ 220
    ·have hkl : k < l.length := by rw [Hn.out]; exact hlt
     obtain ⟨b, off, rfl, hb, c0⟩ := Row.at_ ((Hr.out.below Hbe.out).more Hbe.out.size) (k := k) (by rw [List.length_map]; exact hkl)
     rw [List.getElem_map] at c0
     have hsz := Hz.out _ (List.getElem_mem hkl)
     unfold maxLen at hsz
     generalize (l[k]'hkl) = s at *
     go_wp2_with fail
     all_goals exact ⟨⟨k + 1, _, by omega, by omega, rfl, by go_num, Hbx.out, Hbe.out⟩, by simp [intOf]; omega⟩
    ·have h220' : ¬ ((k : Nat) : Int) ≤ 220 := by omega
     go_wp2_with fail
     all_goals exact HR.out _ _ Hbe.out
   ·have hlt' : ¬ ((k : Nat) : Int) < (n : Int) := by omega
    go_wp2_with fail
    all_goals exact HR.out _ _ Hbe.out
set_option maxHeartbeats 1000000 in
theorem r16few_any (d : Dim) (w : World) (h : DimAt w w.heap.size d) : Calls Tryz.prog 45 #[.agg (dimC d)] w (RetB (fun _ => True) w) := by
 have HR := kp (fun r w' hb => RetB.mono (P := fun _ => True) (w := w) (r := r) (w' := w') trivial hb)
 have Hd := kp h
 have hn := h.n
 have hnm := h.name
 have HF := kp r15few_any
 unfold maxLen at hn hnm
 clear h
 generalize hQ : RetB (fun _ => True) w = Q at *
 clear hQ
 go_enter Tryz.func45, Tryz.ntmps45
 go_wp2_with fail
 go_loopw [3] (fun v3 wr => ∃ (k : Nat), k ≤ d.tiers.length ∧ k ≤ 7 ∧ v3 = .int .i64 k ∧ Box wr w.heap.size 61 (dimC d) ∧ Below w.heap.size w wr) (fun v3 _ => d.tiers.length - (intOf v3).toNat)
 case atStart => exact ⟨0, Nat.zero_le _, by omega, rfl, Box.new _ _ _, (Below.refl _ _).alloc (Nat.le_refl _) _⟩
 case round =>
  obtain ⟨k, hk, hk2, rfl, hbx, hbe⟩ := hrel
  obtain ⟨b0, b1, _, _⟩ := hbx.two
  have Hbx := kp hbx
  have Hbe := kp hbe
  clear hbx hbe
  by_cases hlt : k < d.tiers.length
  ·by_cases h6 : k ≤ 6
   ·have hda := (Hd.out.below Hbe.out).more Hbe.out.size
    obtain ⟨b, off, hA, hb, c0, c1, c2⟩ := hda.tier k hlt
    rw [hA] at b1
    have HFk := kp (HF.out (d.tiers[k]'hlt) wr (hda.tiers _ (List.getElem_mem hlt)))
    unfold tierC at HFk
    clear hda hA
    generalize (d.tiers[k]'hlt).name = x0 at *
    generalize (d.tiers[k]'hlt).At = x1 at *
    generalize (d.tiers[k]'hlt).terms.length = x2 at *
    generalize (d.tiers[k]'hlt).ct = x3 at *
    generalize (d.tiers[k]'hlt).Au = x4 at *
    generalize (d.tiers[k]'hlt).up.length = x5 at *
    generalize (d.tiers[k]'hlt).cu = x6 at *
    go_wp2_with fail
    refine HFk.out.mono ?_
    rintro e w1 ⟨r, rfl, _, hb1⟩
    have Hb1 := kp (Hbe.out.trans (hb1.mono Hbe.out.size))
    have Hbx1 := kp (Hbx.out.under hb1)
    clear hb1 HFk
    rcases r with _ | _
    ·go_wp2_with fail
     exact HR.out _ _ Hb1.out
    ·go_wp2_with fail
     exact ⟨⟨k + 1, by omega, by omega, by go_num, Hbx1.out, Hb1.out⟩, by simp [intOf]; omega⟩
   ·have h6' : ¬ ((k : Nat) : Int) ≤ 6 := by omega
    go_wp2_with fail
    all_goals exact HR.out _ _ Hbe.out
  ·have hlt' : ¬ ((k : Nat) : Int) < (d.tiers.length : Int) := by omega
   go_wp2_with fail
   all_goals exact HR.out _ _ Hbe.out
set_option maxHeartbeats 1000000 in
theorem rin_any (A : Option Addr) (l : List Int) (c : Nat) (n : Int) (w : World) (hl : l.length ≤ maxLen) (hr : Row w w.heap.size A (l.map (.int .i64))) :
 Calls Tryz.prog 147 #[.slice A l.length c, .int .i64 n] w fun e w' => e = .returned (.bool (decide (n ∈ l))) ∧ w = w' := by
 unfold maxLen at hl
 have Hr := kp hr
 have HY := kp (show ∀ k, l[k]? = some n → decide (n ∈ l) = true from fun k h => by simp; exact List.mem_of_getElem? h)
 have HN := kp (show (∀ k y, l[k]? = some y → y ≠ n) → decide (n ∈ l) = false from fun h => by
  rw [decide_eq_false_iff_not]
  intro hm
  obtain ⟨k, hk, e⟩ := List.getElem_of_mem hm
  exact h k _ (List.getElem?_eq_getElem hk) e)
 generalize decide (n ∈ l) = V at *
 clear hr
 generalize hN : l.length = m at *
 have Hm := kp hN
 clear hN
 go_enter Tryz.func147, Tryz.ntmps147
 go_wp2_with fail
 go_loop [9] (fun i => ∃ k : Nat, k ≤ m ∧ i = .int .i64 k ∧ ∀ j y, j < k → l[j]? = some y → y ≠ n) (fun i => m - (intOf i).toNat)
 case atStart => exact ⟨0, Nat.zero_le _, rfl, fun j y h => by omega⟩
 case round =>
  obtain ⟨k, hk, rfl, hno⟩ := hrel
  have Hno := kp hno
  clear hno
  by_cases hlt : k < m
  ·have hkl : k < l.length := by rw [Hm.out]; exact hlt
   obtain ⟨b, off, rfl, hb, c0⟩ := Row.at_ Hr.out (k := k) (by rw [List.length_map]; exact hkl)
   rw [List.getElem_map] at c0
   have Hy := kp (List.getElem?_eq_getElem hkl)
   generalize (l[k]'hkl) = y at *
   by_cases he : y = n
   ·subst he
    have hyy : (y == y) = true := by simp
    have HV := kp (HY.out k Hy.out)
    go_wp2_with fail
    go_ret
    exact ⟨by rw [HV.out]; rfl, rfl⟩
   ·have hyn : (y == n) = false := by simpa using he
    have Hnx := kp (show ∀ j z, j < k + 1 → l[j]? = some z → z ≠ n from fun j z hj hz => by
     by_cases e : j = k
     ·subst e
      rw [Hy.out] at hz
      injection hz with hz
      rw [← hz]; exact he
     ·exact Hno.out j z (by omega) hz)
    clear he
    go_wp2_with fail
    go_round
    case rel => exact ⟨k + 1, by omega, by go_num, Hnx.out⟩
    case measure => simp [intOf]; omega
  ·have HV := kp (HN.out (fun j y hj => Hno.out j y (by have := (List.getElem?_eq_some_iff.1 hj).1; rw [Hm.out] at this; omega) hj))
   go_wp2_with fail
   go_ret
   exact ⟨by rw [HV.out]; rfl, rfl⟩
structure TreeOk (t : Tier) (above : Int) : Prop where
 top : above ≤ 0 → t.up = []
 len : 0 < above → t.up.length = t.terms.length
 most : above ≤ 200
 up : ∀ n ∈ t.up, 0 ≤ n ∧ n < above
 all : ∀ i : Nat, (i : Int) < above → (i : Int) ∈ t.up
set_option maxHeartbeats 1000000 in
theorem rtree_any (t : Tier) (above : Int) (w : World) (h : TierAt w w.heap.size t) (ha : above ≤ 9223372036854775807) : Calls Tryz.prog 129 #[.agg (tierC t), .int .i64 above] w (RetB (fun r => r = true → TreeOk t above) w) := by
 unfold tierC
 have HR := kp (fun r w' h hb => RetB.mono (P := fun r => r = true → TreeOk t above) (w := w) (r := r) (w' := w') h hb)
 have Hr := kp h.up
 have hn := h.nt
 have hu := h.nu
 have HT := kp (show t.up = t.up from rfl)
 unfold maxLen at hn hu
 clear h
 generalize hQ : RetB (fun r => r = true → TreeOk t above) w = Q at *
 clear hQ
 have Hlen := kp (show t.up.length = t.up.length ∧ t.terms.length = t.terms.length from ⟨rfl, rfl⟩)
 have HIn := kp rin_any
 by_cases ha0 : above ≤ 0
 ·by_cases hl0 : t.up.length = 0
  ·have hz : ((t.up.length : Int) == 0) = true := by rw [beq_iff_eq]; omega
   have Hok := kp (show TreeOk t above from ⟨fun _ => List.length_eq_zero_iff.1 hl0, fun h => by omega, by omega, fun n hn => by rw [List.length_eq_zero_iff.1 hl0] at hn; simp at hn, fun i h => by omega⟩)
   clear hl0
   go_enter Tryz.func129, Tryz.ntmps129
   go_wp2_with fail
   exact HR.out _ _ (fun _ => Hok.out) ((Below.refl _ _).alloc (Nat.le_refl _) _)
  ·have hz : ((t.up.length : Int) == 0) = false := by rw [beq_eq_false_iff_ne]; omega
   clear hl0
   go_enter Tryz.func129, Tryz.ntmps129
   go_wp2_with fail
   exact HR.out _ _ (fun h => by cases h) ((Below.refl _ _).alloc (Nat.le_refl _) _)
 ·have ha0' : ¬ above ≤ 0 := ha0
  by_cases hll : t.up.length = t.terms.length
  ·by_cases h200 : above ≤ 200
   ·have hne : ((t.up.length : Int) != (t.terms.length : Int)) = false := by simp; omega
    have h2' : ¬ (200 : Int) < above := by omega
    have hb0 := (Below.refl w.heap.size w).alloc (Nat.le_refl _) (.cells (tierC t) 63)
    have Hb0 := kp hb0
    have Hr0 := kp ((Hr.out.below hb0).more hb0.size)
    have HIn0 := kp (fun i => HIn.out t.Au t.up t.cu i _ (by unfold maxLen; omega) Hr0.out)
    have HOk := kp (show (∀ j n, t.up[j]? = some n → 0 ≤ n ∧ n < above) → (∀ i : Nat, (i : Int) < above → (i : Int) ∈ t.up) → TreeOk t above from fun g1 g2 => ⟨fun h => by omega, fun _ => hll, h200, fun n hn => by obtain ⟨j, hj, e⟩ := List.getElem_of_mem hn; exact g1 j n (by rw [List.getElem?_eq_getElem hj, e]), g2⟩)
    clear hb0 hll HT Hlen
    unfold tierC at *
    generalize t.name = x0 at *
    generalize t.At = x1 at *
    generalize t.terms.length = x2 at *
    generalize t.ct = x3 at *
    generalize t.Au = x4 at *
    generalize t.up = up at *
    generalize t.cu = x6 at *
    generalize hN : up.length = n at *
    have Hn := kp hN
    clear hN
    go_enter Tryz.func129, Tryz.ntmps129
    go_wp2_with fail
    clear hne
    obtain ⟨b0, b1, b2, _, _, _⟩ := (Box.new w 63 #[.string x0, .slice x1 x2 x3, .slice x4 n x6]).three
    generalize w.alloc (.cells #[.string x0, .slice x1 x2 x3, .slice x4 n x6] 63) = W0 at *
    go_loop [28] (fun i => ∃ k : Nat, k ≤ n ∧ i = .int .i64 k ∧ ∀ j y, j < k → up[j]? = some y → 0 ≤ y ∧ y < above) (fun i => n - (intOf i).toNat)
    case atStart => exact ⟨0, Nat.zero_le _, rfl, fun j y h => by omega⟩
    case round =>
     obtain ⟨k, hk, rfl, hok⟩ := hrel
     have Hok := kp hok
     clear hok
     by_cases hlt : k < n
     ·have hkl : k < up.length := by rw [Hn.out]; exact hlt
      obtain ⟨b, off, rfl, hb, c0⟩ := Row.at_ Hr0.out (k := k) (by rw [List.length_map]; exact hkl)
      rw [List.getElem_map] at c0
      have Hy := kp (List.getElem?_eq_getElem hkl)
      generalize (up[k]'hkl) = y at *
      by_cases hy : 0 ≤ y ∧ y < above
      ·obtain ⟨hy1, hy2⟩ := hy
       have hy1' : ¬ y < 0 := by omega
       have hy2' : ¬ above ≤ y := by omega
       have Hnx := kp (show ∀ j z, j < k + 1 → up[j]? = some z → 0 ≤ z ∧ z < above from fun j z hj hz => by
        by_cases e : j = k
        ·subst e
         rw [Hy.out] at hz
         injection hz with hz
         rw [← hz]; exact ⟨hy1, hy2⟩
        ·exact Hok.out j z (by omega) hz)
       go_wp2_with fail
       go_round
       case rel => exact ⟨k + 1, by omega, by go_num, Hnx.out⟩
       case measure => simp [intOf]; omega
      ·go_wp2_with fail
       all_goals first
        | exact HR.out _ _ (fun h => by cases h) Hb0.out
        | (exfalso; omega)
     ·have Hup := kp (show ∀ j y, up[j]? = some y → 0 ≤ y ∧ y < above from fun j y hj => Hok.out j y (by have := (List.getElem?_eq_some_iff.1 hj).1; rw [Hn.out] at this; omega) hj)
      go_wp2_with fail
      go_loop [7] (fun i => ∃ k : Nat, (k : Int) ≤ above ∧ i = .int .i64 k ∧ ∀ j : Nat, j < k → (j : Int) ∈ up) (fun i => (above - intOf i).toNat)
      case atStart => exact ⟨0, by omega, rfl, fun j h => by omega⟩
      case round =>
       obtain ⟨q, hq, rfl, hin⟩ := hrel
       have Hin := kp hin
       clear hin
       by_cases hqa : (q : Int) < above
       ·have HI := kp (HIn0.out (q : Int))
        by_cases hm : (q : Int) ∈ up
        ·rw [decide_eq_true hm] at HI
         have Hnx := kp (show ∀ j : Nat, j < q + 1 → (j : Int) ∈ up from fun j hj => by
          by_cases e : j = q
          ·subst e; exact hm
          ·exact Hin.out j (by omega))
         clear hm
         go_wp2_with fail
         refine HI.out.mono ?_
         rintro e w' ⟨rfl, rfl⟩
         go_wp2_with fail
         go_round
         case rel => exact ⟨q + 1, by omega, by go_num, Hnx.out⟩
         case measure => simp [intOf]; omega
        ·rw [decide_eq_false hm] at HI
         clear hm
         go_wp2_with fail
         refine HI.out.mono ?_
         rintro e w' ⟨rfl, rfl⟩
         go_wp2_with fail
         exact HR.out _ _ (fun h => by cases h) Hb0.out
       ·go_wp2_with fail
        exact HR.out _ _ (fun _ => HOk.out Hup.out (fun i hi => Hin.out i (by omega))) Hb0.out
   ·have hne : ((t.up.length : Int) != (t.terms.length : Int)) = false := by simp; omega
    have h2' : (200 : Int) < above := by omega
    go_enter Tryz.func129, Tryz.ntmps129
    go_wp2_with fail
    exact HR.out _ _ (fun h => by cases h) ((Below.refl _ _).alloc (Nat.le_refl _) _)
  ·have hne : ((t.up.length : Int) != (t.terms.length : Int)) = true := by simp; omega
   go_enter Tryz.func129, Tryz.ntmps129
   go_wp2_with fail
   exact HR.out _ _ (fun h => by cases h) ((Below.refl _ _).alloc (Nat.le_refl _) _)
end Go.Proofs.YthmbgbmcdbdecaaGreat.Tc
