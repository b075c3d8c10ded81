/- Layer 4 of the document: number and Num. -/
import Derived.Test.YtpgmbpjjefecdaaDoorSl6
import Derived.Test.YtpgmbpjjefecdaaDoorNm6
namespace Go.Proofs.YtpgmbpjjefecdaaDoor.Sl
open Go.RowKit Base Crc Txt Plain Pg
set_option linter.unusedVariables false
set_option linter.unusedSimpArgs false

abbrev scanV (s : ByteArray) (a e : Nat) : Array Value := #[.string s, .int .i64 a, .int .i64 e]
/-- what the document's number does with what was read and the error so far -/
def rnumber (l : List UInt8) (a e : Nat) : Nat × Nat × Nat :=
  if e ≠ 0 then (a, e, 0) else match Nm.ntake (l.drop a) with
    | none => (a, 3, 0)
    | some (n, z) => (a + z, 0, n)
def rnum (l : List UInt8) (most a e : Nat) : Nat × Nat × Nat :=
  if (rnumber l a e).2.1 ≠ 0 then ((rnumber l a e).1, (rnumber l a e).2.1, 0)
  else if most < (rnumber l a e).2.2 then ((rnumber l a e).1, 5, 0)
  else rnumber l a e

theorem two_boxes {w w1 : World} {t1 t2 : TypeId} {c1 c2 : Array Value} (hb : Below ((w.alloc (.cells c1 t1)).alloc (.cells c2 t2)).heap.size ((w.alloc (.cells c1 t1)).alloc (.cells c2 t2)) w1) :
    Box w1 w.heap.size t1 c1 ∧ Box w1 (w.heap.size + 1) t2 c2 ∧ Below w.heap.size w w1 := by
  refine ⟨((Box.new w t1 c1).alloc _).under hb, ?_, (((Below.refl _ _).alloc (Nat.le_refl _) _).alloc (by simp) _).trans (hb.mono (by simp; omega))⟩
  have h := (Box.new (w.alloc (.cells c1 t1)) t2 c2).under hb
  rw [show (w.alloc (.cells c1 t1)).heap.size = w.heap.size + 1 by simp] at h
  exact h

set_option maxRecDepth 100000 in
set_option maxHeartbeats 400000 in
theorem rnumber_err (s : ByteArray) (a e : Nat) (w : World) (he : e ≠ 0) :
    Calls Tryd.prog 82 #[.agg (scanV s a e)] w fun x w' => x = .returned (.tuple #[.agg (scanV s a e), .int .u64 0]) ∧ Below w.heap.size w w' := by
  have hd : ((e : Int) != 0) = true := by simp; omega
  clear he
  go_enter Tryd.func82, Tryd.ntmps82
  go_wp2_with fail
  refine bodyPost_ret (v := .tuple #[.agg (scanV s a e), .int .u64 0]) (by simp [results, Tryd.results82, go_sem, scanV]) rfl ⟨rfl, ?_⟩
  exact (by repeat (first | exact Below.refl _ _ | assumption | refine Below.drew ?_ | (refine Below.alloc ?_ (by simp <;> omega) _) | (refine Below.setCell ?_ (by simp <;> omega) _)))
set_option maxRecDepth 100000 in
set_option maxHeartbeats 400000 in
theorem rnumber_no (s : ByteArray) (a : Nat) (w : World) (hs : s.size ≤ 1000000) (ha : a ≤ s.size) (h : Nm.ntake (s.data.toList.drop a) = none) :
    Calls Tryd.prog 82 #[.agg (scanV s a 0)] w fun x w' => x = .returned (.tuple #[.agg (scanV s a 3), .int .u64 0]) ∧ Below w.heap.size w w' := by
  have HT := Lib.hid (fun w => Nm.rtake_no (s.extract a s.size) w (by rw [ByteArray.size_extract]; omega) (by rw [ByteArray.data_extract, Array.toList_extract, List.extract_eq_take_drop, List.take_of_length_le (by simp)]; exact h))
  unfold Nm.tnone at HT
  clear h
  go_enter Tryd.func82, Tryd.ntmps82
  go_wp2_with fail
  refine (HT.out _).mono ?_
  rintro e w1 ⟨rfl, hb1⟩
  obtain ⟨B0, B1, hb⟩ := two_boxes hb1
  have Hb := Lib.hid hb
  obtain ⟨k0, k1, k2, e0, e1, e2⟩ := Box.three B0
  obtain ⟨m0, m1, m2, f0, f1, f2⟩ := Box.three B1
  have hlt : w.heap.size + 1 < w1.heap.size := B1.lt
  clear hb1 B0 B1 hb HT
  go_wp2_with fail
  refine bodyPost_ret (v := .tuple #[.agg (scanV s a 3), .int .u64 0]) (by simp [results, Tryd.results82, go_sem, scanV, k0, k1, k2, m0, m1, m2]) rfl ⟨rfl, ?_⟩
  have q := Hb.out
  exact (((q.setCell (by simp) _).setCell (by simp) _).setCell (by simp) _).setCell (by simp) _
set_option maxRecDepth 100000 in
set_option maxHeartbeats 400000 in
theorem rnumber_yes (s : ByteArray) (a n z : Nat) (w : World) (hs : s.size ≤ 1000000) (ha : a ≤ s.size) (hz : a + z ≤ s.size) (h : Nm.ntake (s.data.toList.drop a) = some (n, z)) :
    Calls Tryd.prog 82 #[.agg (scanV s a 0)] w fun x w' => x = .returned (.tuple #[.agg (scanV s (a + z) 0), .int .u64 n]) ∧ Below w.heap.size w w' := by
  have HT := Lib.hid (fun w => Nm.rtake_yes (s.extract a s.size) n z w (by rw [ByteArray.size_extract]; omega) (by rw [ByteArray.data_extract, Array.toList_extract, List.extract_eq_take_drop, List.take_of_length_le (by simp)]; exact h))
  clear h
  go_enter Tryd.func82, Tryd.ntmps82
  go_wp2_with fail
  refine (HT.out _).mono ?_
  rintro e w1 ⟨rfl, hb1⟩
  obtain ⟨B0, B1, hb⟩ := two_boxes hb1
  have Hb := Lib.hid hb
  obtain ⟨k0, k1, k2, e0, e1, e2⟩ := Box.three B0
  obtain ⟨m0, m1, m2, f0, f1, f2⟩ := Box.three B1
  have hlt : w.heap.size + 1 < w1.heap.size := B1.lt
  clear hb1 B0 B1 hb HT
  go_wp2_with fail
  refine bodyPost_ret (v := .tuple #[.agg (scanV s (a + z) 0), .int .u64 n]) (by simp [results, Tryd.results82, go_sem, scanV, k0, k1, k2, m0, m1, m2]) rfl ⟨rfl, ?_⟩
  have q := Hb.out
  exact (((q.setCell (by simp) _).setCell (by simp) _).setCell (by simp) _).setCell (by simp) _

theorem ntake_len {l : List UInt8} {n z : Nat} (h : Nm.ntake l = some (n, z)) : z ≤ l.length ∧ n < 18446744073709551616 := by
  unfold Nm.ntake at h
  split at h
  · cases h
  · split at h
    · cases h
    · split at h
      · injection h with h
        injection h with e1 e2
        subst e1 e2
        exact ⟨by omega, Nm.nval_lt l _ rfl (by omega)⟩
      · cases h
theorem rnumber_any (s : ByteArray) (a e : Nat) (w : World) (hs : s.size ≤ 1000000) (ha : a ≤ s.size) :
    Calls Tryd.prog 82 #[.agg (scanV s a e)] w fun x w' => x = .returned (.tuple #[.agg (scanV s (rnumber s.data.toList a e).1 (rnumber s.data.toList a e).2.1), .int .u64 (rnumber s.data.toList a e).2.2]) ∧ Below w.heap.size w w' := by
  unfold rnumber
  by_cases he : e = 0
  · subst he
    rw [if_neg (by simp)]
    rcases ht : Nm.ntake (s.data.toList.drop a) with _ | ⟨n, z⟩
    · exact rnumber_no s a w hs ha ht
    · have := (ntake_len ht).1
      rw [List.length_drop] at this
      exact rnumber_yes s a n z w hs ha (by have e : s.data.toList.length = s.size := by simp
                                            omega) ht
  · rw [if_pos he]
    exact rnumber_err s a e w he

abbrev NumTo (s : ByteArray) (a e a' e' n : Nat) : Prop := ∀ w, Calls Tryd.prog 82 #[.agg (scanV s a e)] w fun x w' => x = .returned (.tuple #[.agg (scanV s a' e'), .int .u64 n]) ∧ Below w.heap.size w w'
set_option maxRecDepth 100000 in
set_option maxHeartbeats 400000 in
theorem rnum_err (s : ByteArray) (most a e a' e' n : Nat) (w : World) (hN : NumTo s a e a' e' n) (he : e' ≠ 0) :
    Calls Tryd.prog 58 #[.agg (scanV s a e), .int .i64 most] w fun x w' => x = .returned (.tuple #[.agg (scanV s a' e'), .int .i64 0]) ∧ Below w.heap.size w w' := by
  have HN := Lib.hid hN
  clear hN
  have hd : ((e' : Int) == 0) = false := by simpa using he
  have hd' : ((e' : Int) != 0) = true := by simpa using he
  clear he
  go_enter Tryd.func58, Tryd.ntmps58
  go_wp2_with fail
  refine (HN.out _).mono ?_
  rintro e w1 ⟨rfl, hb1⟩
  obtain ⟨B0, B1, hb⟩ := two_boxes hb1
  have Hb := Lib.hid hb
  obtain ⟨k0, k1, k2, e0, e1, e2⟩ := Box.three B0
  obtain ⟨m0, m1, m2, f0, f1, f2⟩ := Box.three B1
  have hlt : w.heap.size + 1 < w1.heap.size := B1.lt
  clear hb1 B0 B1 hb HN
  go_wp2_with fail
  refine bodyPost_ret (v := .tuple #[.agg (scanV s a' e'), .int .i64 0]) (by simp [results, Tryd.results58, go_sem, scanV, k0, k1, k2, m0, m1, m2]) rfl ⟨rfl, ?_⟩
  have q := Hb.out
  (repeat (with_reducible refine Below.setCell ?_ (by simp) _))
  exact q
set_option maxRecDepth 100000 in
set_option maxHeartbeats 1000000 in
theorem rnum_big (s : ByteArray) (most a e a' e' n : Nat) (w : World) (hN : NumTo s a e a' 0 n) (hm : most ≤ 2000000) (hn : most < n) :
    Calls Tryd.prog 58 #[.agg (scanV s a e), .int .i64 most] w fun x w' => x = .returned (.tuple #[.agg (scanV s a' 5), .int .i64 0]) ∧ Below w.heap.size w w' := by
  have HN := Lib.hid hN
  clear hN
  have hu : IntKind.u64.wrap (most : Int) = most := by rw [IntKind.wrap_u64]; omega
  have hd : decide (most < n) = true := by simpa using hn
  have hneg : decide ((most : Int) < 0) = false := by simp
  clear hm hn
  go_enter Tryd.func58, Tryd.ntmps58
  go_wp2_with fail
  refine (HN.out _).mono ?_
  rintro e w1 ⟨rfl, hb1⟩
  obtain ⟨B0, B1, hb⟩ := two_boxes hb1
  have Hb := Lib.hid hb
  obtain ⟨k0, k1, k2, e0, e1, e2⟩ := Box.three B0
  obtain ⟨m0, m1, m2, f0, f1, f2⟩ := Box.three B1
  have hlt : w.heap.size + 1 < w1.heap.size := B1.lt
  have B3 : Box ((((w1.setCell ⟨w.heap.size, 0, none⟩ (.string s)).setCell ⟨w.heap.size, 1, none⟩ (.int .i64 a')).setCell ⟨w.heap.size, 2, none⟩ (.int .i64 0)).setCell ⟨w.heap.size, 2, none⟩ (.int .i64 5)) w.heap.size 78 #[.string s, .int .i64 a', .int .i64 5] := (((B0.set 0 (.string s)).set 1 (.int .i64 a')).set 2 (.int .i64 0)).set 2 (.int .i64 5)
  obtain ⟨z0, z1, z2, _, _, _⟩ := Box.three B3
  clear hb1 B0 B1 hb HN B3
  go_wp2_with fail
  refine bodyPost_ret (v := .tuple #[.agg (scanV s a' 5), .int .i64 0]) (by simp [results, Tryd.results58, go_sem, scanV, k0, k1, k2, m0, m1, m2, z0, z1, z2]) rfl ⟨rfl, ?_⟩
  have q := Hb.out
  (repeat (with_reducible refine Below.setCell ?_ (by simp) _))
  exact q
set_option maxRecDepth 100000 in
set_option maxHeartbeats 400000 in
theorem rnum_yes (s : ByteArray) (most a e a' e' n : Nat) (w : World) (hN : NumTo s a e a' 0 n) (hm : most ≤ 2000000) (hn : n ≤ most) :
    Calls Tryd.prog 58 #[.agg (scanV s a e), .int .i64 most] w fun x w' => x = .returned (.tuple #[.agg (scanV s a' 0), .int .i64 n]) ∧ Below w.heap.size w w' := by
  have HN := Lib.hid hN
  clear hN
  have hu : IntKind.u64.wrap (most : Int) = most := by rw [IntKind.wrap_u64]; omega
  have hd : decide (most < n) = false := by simpa using hn
  have hneg : decide ((most : Int) < 0) = false := by simp
  have hv : IntKind.i64.wrap (n : Int) = n := IntWalk.i64_in _ (by omega)
  clear hm
  go_enter Tryd.func58, Tryd.ntmps58
  go_wp2_with fail
  refine (HN.out _).mono ?_
  rintro e w1 ⟨rfl, hb1⟩
  obtain ⟨B0, B1, hb⟩ := two_boxes hb1
  have Hb := Lib.hid hb
  obtain ⟨k0, k1, k2, e0, e1, e2⟩ := Box.three B0
  obtain ⟨m0, m1, m2, f0, f1, f2⟩ := Box.three B1
  have hlt : w.heap.size + 1 < w1.heap.size := B1.lt
  clear hb1 B0 B1 hb HN
  go_wp2_with fail
  refine bodyPost_ret (v := .tuple #[.agg (scanV s a' 0), .int .i64 n]) (by simp [results, Tryd.results58, go_sem, scanV, k0, k1, k2, m0, m1, m2]) rfl ⟨rfl, ?_⟩
  have q := Hb.out
  (repeat (with_reducible refine Below.setCell ?_ (by simp) _))
  exact q

theorem rnum_any (s : ByteArray) (most a e : Nat) (w : World) (hs : s.size ≤ 1000000) (ha : a ≤ s.size) (hm : most ≤ 2000000) :
    Calls Tryd.prog 58 #[.agg (scanV s a e), .int .i64 most] w fun x w' => x = .returned (.tuple #[.agg (scanV s (rnum s.data.toList most a e).1 (rnum s.data.toList most a e).2.1), .int .i64 (rnum s.data.toList most a e).2.2]) ∧ Below w.heap.size w w' := by
  have HN : NumTo s a e (rnumber s.data.toList a e).1 (rnumber s.data.toList a e).2.1 (rnumber s.data.toList a e).2.2 := fun w => rnumber_any s a e w hs ha
  unfold rnum
  rcases hr : rnumber s.data.toList a e with ⟨a', e', n⟩
  rw [hr] at HN
  clear hr
  simp only at *
  by_cases he : e' = 0
  · subst he
    rw [if_neg (by simp)]
    by_cases hn : most < n
    · rw [if_pos hn]
      exact rnum_big s most a e a' 0 n w HN hm hn
    · rw [if_neg hn]
      exact rnum_yes s most a e a' 0 n w HN hm (by omega)
  · rw [if_pos he]
    exact rnum_err s most a e a' e' n w HN he
theorem rnum_le (l : List UInt8) (most a e : Nat) (ha : a ≤ l.length) : (rnum l most a e).1 ≤ l.length ∧ (rnum l most a e).2.2 ≤ most := by
  have h : (rnumber l a e).1 ≤ l.length := by
    unfold rnumber
    split
    · exact ha
    · split
      · exact ha
      · rename_i n z h
        have := (ntake_len h).1
        rw [List.length_drop] at this
        show a + z ≤ _
        omega
  unfold rnum
  split
  · exact ⟨h, Nat.zero_le _⟩
  · split
    · exact ⟨h, Nat.zero_le _⟩
    · exact ⟨h, by omega⟩

end Go.Proofs.YtpgmbpjjefecdaaDoor.Sl
