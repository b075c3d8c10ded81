/- Layer 9, first part: which versions may be: slot.Check (gensl1.py prints it). -/
import Derived.Test.YtpgmbpjjefecdaaDoorTk4
import Derived.Test.YtpgmbpjjefecdaaDoorPg6
namespace Go.Proofs.YtpgmbpjjefecdaaDoor.Sl
open Go.RowKit Base Crc Txt Plain Pg
set_option linter.unusedVariables false

structure Rt where
  g : Int
  p : Int
  m : Int
  c : Int
  n : Int
  t : Int
abbrev rtV (r : Rt) : Array Value := #[.int .i64 r.g, .int .i64 r.p, .int .i64 r.m, .int .i64 r.c, .int .i64 r.n, .int .i64 r.t]
def zeroR : Rt := ⟨0, 0, 0, 0, 0, 0⟩
/-- a version that may be -/
structure Ok (r : Rt) : Prop where
  g1 : 1 ≤ r.g
  g2 : r.g ≤ 1099511627776
  c1 : 1 ≤ r.c
  c2 : r.c ≤ 1048576
  n1 : 0 ≤ r.n
  n2 : r.n ≤ 1048576
  t1 : 0 ≤ r.t
  t2 : r.t < max r.n 1
  p1 : r.p = pcount r.c + pcount r.n
  p2 : r.p ≤ 2047
  m1 : 0 ≤ r.m
  m2 : r.m < 2047
theorem pcount_bd (n : Int) (h : n ≤ 1048576) : 0 ≤ pcount n ∧ pcount n ≤ 5000 := by
  unfold pcount
  split <;> omega

set_option maxRecDepth 100000 in
set_option maxHeartbeats 1000000 in
theorem check_g1 (r : Rt) (w : World) (h : r.g < 1) :
    Calls Tryd.prog 31 #[.agg (rtV r)] w fun e w' => e = .returned (.int .i64 2) ∧ Below w.heap.size w w' := by
  obtain ⟨g, p, m, c, n, t⟩ := r
  simp only at *
  go_enter Tryd.func31, Tryd.ntmps31
  go_wp2_with fail
  go_ret
  exact ⟨rfl, (Below.refl _ _).alloc (Nat.le_refl _) _⟩
set_option maxRecDepth 100000 in
set_option maxHeartbeats 1000000 in
theorem check_g2 (r : Rt) (w : World) (a1 : 1 ≤ r.g) (h : 1099511627776 < r.g) :
    Calls Tryd.prog 31 #[.agg (rtV r)] w fun e w' => e = .returned (.int .i64 2) ∧ Below w.heap.size w w' := by
  obtain ⟨g, p, m, c, n, t⟩ := r
  simp only at *
  go_enter Tryd.func31, Tryd.ntmps31
  go_wp2_with fail
  go_ret
  exact ⟨rfl, (Below.refl _ _).alloc (Nat.le_refl _) _⟩
set_option maxRecDepth 100000 in
set_option maxHeartbeats 1000000 in
theorem check_c1 (r : Rt) (w : World) (a1 : 1 ≤ r.g) (a2 : r.g ≤ 1099511627776) (h : r.c < 1) :
    Calls Tryd.prog 31 #[.agg (rtV r)] w fun e w' => e = .returned (.int .i64 2) ∧ Below w.heap.size w w' := by
  obtain ⟨g, p, m, c, n, t⟩ := r
  simp only at *
  go_enter Tryd.func31, Tryd.ntmps31
  go_wp2_with fail
  go_ret
  exact ⟨rfl, (Below.refl _ _).alloc (Nat.le_refl _) _⟩
set_option maxRecDepth 100000 in
set_option maxHeartbeats 1000000 in
theorem check_c2 (r : Rt) (w : World) (a1 : 1 ≤ r.g) (a2 : r.g ≤ 1099511627776) (b1 : 1 ≤ r.c) (h : 1048576 < r.c) :
    Calls Tryd.prog 31 #[.agg (rtV r)] w fun e w' => e = .returned (.int .i64 2) ∧ Below w.heap.size w w' := by
  obtain ⟨g, p, m, c, n, t⟩ := r
  simp only at *
  go_enter Tryd.func31, Tryd.ntmps31
  go_wp2_with fail
  go_ret
  exact ⟨rfl, (Below.refl _ _).alloc (Nat.le_refl _) _⟩
set_option maxRecDepth 100000 in
set_option maxHeartbeats 1000000 in
theorem check_n1 (r : Rt) (w : World) (a1 : 1 ≤ r.g) (a2 : r.g ≤ 1099511627776) (b1 : 1 ≤ r.c) (b2 : r.c ≤ 1048576) (h : r.n < 0) :
    Calls Tryd.prog 31 #[.agg (rtV r)] w fun e w' => e = .returned (.int .i64 2) ∧ Below w.heap.size w w' := by
  obtain ⟨g, p, m, c, n, t⟩ := r
  simp only at *
  go_enter Tryd.func31, Tryd.ntmps31
  go_wp2_with fail
  go_ret
  exact ⟨rfl, (Below.refl _ _).alloc (Nat.le_refl _) _⟩
set_option maxRecDepth 100000 in
set_option maxHeartbeats 1000000 in
theorem check_n2 (r : Rt) (w : World) (a1 : 1 ≤ r.g) (a2 : r.g ≤ 1099511627776) (b1 : 1 ≤ r.c) (b2 : r.c ≤ 1048576) (b3 : 0 ≤ r.n) (h : 1048576 < r.n) :
    Calls Tryd.prog 31 #[.agg (rtV r)] w fun e w' => e = .returned (.int .i64 2) ∧ Below w.heap.size w w' := by
  obtain ⟨g, p, m, c, n, t⟩ := r
  simp only at *
  go_enter Tryd.func31, Tryd.ntmps31
  go_wp2_with fail
  go_ret
  exact ⟨rfl, (Below.refl _ _).alloc (Nat.le_refl _) _⟩
set_option maxRecDepth 100000 in
set_option maxHeartbeats 1000000 in
theorem check_t1 (r : Rt) (w : World) (a1 : 1 ≤ r.g) (a2 : r.g ≤ 1099511627776) (b1 : 1 ≤ r.c) (b2 : r.c ≤ 1048576) (b3 : 0 ≤ r.n) (b4 : r.n ≤ 1048576) (h : r.t < 0) :
    Calls Tryd.prog 31 #[.agg (rtV r)] w fun e w' => e = .returned (.int .i64 2) ∧ Below w.heap.size w w' := by
  obtain ⟨g, p, m, c, n, t⟩ := r
  simp only at *
  go_enter Tryd.func31, Tryd.ntmps31
  go_wp2_with fail
  go_ret
  exact ⟨rfl, (Below.refl _ _).alloc (Nat.le_refl _) _⟩
set_option maxRecDepth 100000 in
set_option maxHeartbeats 1000000 in
theorem check_t2 (r : Rt) (w : World) (a1 : 1 ≤ r.g) (a2 : r.g ≤ 1099511627776) (b1 : 1 ≤ r.c) (b2 : r.c ≤ 1048576) (b3 : 0 ≤ r.n) (b4 : r.n ≤ 1048576) (d1 : 0 ≤ r.t) (h : max r.n 1 ≤ r.t) :
    Calls Tryd.prog 31 #[.agg (rtV r)] w fun e w' => e = .returned (.int .i64 2) ∧ Below w.heap.size w w' := by
  obtain ⟨g, p, m, c, n, t⟩ := r
  simp only at *
  obtain ⟨mx, hmx⟩ : ∃ mx, mx = max n 1 := ⟨_, rfl⟩
  rw [← hmx] at h
  have hmx2 := hmx.symm
  clear hmx
  go_enter Tryd.func31, Tryd.ntmps31
  go_wp2_with fail
  go_ret
  exact ⟨rfl, (Below.refl _ _).alloc (Nat.le_refl _) _⟩
set_option maxRecDepth 100000 in
set_option maxHeartbeats 1000000 in
theorem check_p1 (r : Rt) (w : World) (a1 : 1 ≤ r.g) (a2 : r.g ≤ 1099511627776) (b1 : 1 ≤ r.c) (b2 : r.c ≤ 1048576) (b3 : 0 ≤ r.n) (b4 : r.n ≤ 1048576) (d1 : 0 ≤ r.t) (d2 : r.t < max r.n 1) (h : r.p ≠ pcount r.c + pcount r.n) :
    Calls Tryd.prog 31 #[.agg (rtV r)] w fun e w' => e = .returned (.int .i64 2) ∧ Below w.heap.size w w' := by
  obtain ⟨g, p, m, c, n, t⟩ := r
  simp only at *
  obtain ⟨mx, hmx⟩ : ∃ mx, mx = max n 1 := ⟨_, rfl⟩
  rw [← hmx] at d2
  have hmx2 := hmx.symm
  clear hmx
  have q1 := pcount_bd c b2
  have q2 := pcount_bd n b4
  have v1 : IntKind.i64.wrap (pcount c + pcount n) = pcount c + pcount n := IntWalk.i64_in _ (by omega)
  have u1 : (p != pcount c + pcount n) = true := by simpa using h
  clear h
  go_enter Tryd.func31, Tryd.ntmps31
  go_wp2_with fail
  go_quiet ((go_at_call 25; exact quiet_same (pcount_any _ _ (by omega))))
  go_wp2_with fail
  go_ret
  exact ⟨rfl, below_drewN ((Below.refl _ _).alloc (Nat.le_refl _) _) _⟩
set_option maxRecDepth 100000 in
set_option maxHeartbeats 1000000 in
theorem check_p2 (r : Rt) (w : World) (a1 : 1 ≤ r.g) (a2 : r.g ≤ 1099511627776) (b1 : 1 ≤ r.c) (b2 : r.c ≤ 1048576) (b3 : 0 ≤ r.n) (b4 : r.n ≤ 1048576) (d1 : 0 ≤ r.t) (d2 : r.t < max r.n 1) (e1 : r.p = pcount r.c + pcount r.n) (h : 2047 < r.p) :
    Calls Tryd.prog 31 #[.agg (rtV r)] w fun e w' => e = .returned (.int .i64 2) ∧ Below w.heap.size w w' := by
  obtain ⟨g, p, m, c, n, t⟩ := r
  simp only at *
  obtain ⟨mx, hmx⟩ : ∃ mx, mx = max n 1 := ⟨_, rfl⟩
  rw [← hmx] at d2
  have hmx2 := hmx.symm
  clear hmx
  have q1 := pcount_bd c b2
  have q2 := pcount_bd n b4
  have v1 : IntKind.i64.wrap (pcount c + pcount n) = pcount c + pcount n := IntWalk.i64_in _ (by omega)
  have u1 : (p != pcount c + pcount n) = false := by simpa using e1
  have u2 : decide (2047 < p) = true := by simpa using h
  clear e1
  go_enter Tryd.func31, Tryd.ntmps31
  go_wp2_with fail
  go_quiet ((go_at_call 25; exact quiet_same (pcount_any _ _ (by omega))))
  go_wp2_with fail
  go_ret
  exact ⟨rfl, below_drewN ((Below.refl _ _).alloc (Nat.le_refl _) _) _⟩
set_option maxRecDepth 100000 in
set_option maxHeartbeats 1000000 in
theorem check_m1 (r : Rt) (w : World) (a1 : 1 ≤ r.g) (a2 : r.g ≤ 1099511627776) (b1 : 1 ≤ r.c) (b2 : r.c ≤ 1048576) (b3 : 0 ≤ r.n) (b4 : r.n ≤ 1048576) (d1 : 0 ≤ r.t) (d2 : r.t < max r.n 1) (e1 : r.p = pcount r.c + pcount r.n) (e2 : r.p ≤ 2047) (h : r.m < 0) :
    Calls Tryd.prog 31 #[.agg (rtV r)] w fun e w' => e = .returned (.int .i64 2) ∧ Below w.heap.size w w' := by
  obtain ⟨g, p, m, c, n, t⟩ := r
  simp only at *
  obtain ⟨mx, hmx⟩ : ∃ mx, mx = max n 1 := ⟨_, rfl⟩
  rw [← hmx] at d2
  have hmx2 := hmx.symm
  clear hmx
  have q1 := pcount_bd c b2
  have q2 := pcount_bd n b4
  have v1 : IntKind.i64.wrap (pcount c + pcount n) = pcount c + pcount n := IntWalk.i64_in _ (by omega)
  have u1 : (p != pcount c + pcount n) = false := by simpa using e1
  have u2 : decide (2047 < p) = false := by simpa using e2
  clear e1
  go_enter Tryd.func31, Tryd.ntmps31
  go_wp2_with fail
  go_quiet ((go_at_call 25; exact quiet_same (pcount_any _ _ (by omega))))
  go_wp2_with fail
  go_ret
  exact ⟨rfl, below_drewN ((Below.refl _ _).alloc (Nat.le_refl _) _) _⟩
set_option maxRecDepth 100000 in
set_option maxHeartbeats 1000000 in
theorem check_m2 (r : Rt) (w : World) (a1 : 1 ≤ r.g) (a2 : r.g ≤ 1099511627776) (b1 : 1 ≤ r.c) (b2 : r.c ≤ 1048576) (b3 : 0 ≤ r.n) (b4 : r.n ≤ 1048576) (d1 : 0 ≤ r.t) (d2 : r.t < max r.n 1) (e1 : r.p = pcount r.c + pcount r.n) (e2 : r.p ≤ 2047) (f1 : 0 ≤ r.m) (h : 2047 ≤ r.m) :
    Calls Tryd.prog 31 #[.agg (rtV r)] w fun e w' => e = .returned (.int .i64 2) ∧ Below w.heap.size w w' := by
  obtain ⟨g, p, m, c, n, t⟩ := r
  simp only at *
  obtain ⟨mx, hmx⟩ : ∃ mx, mx = max n 1 := ⟨_, rfl⟩
  rw [← hmx] at d2
  have hmx2 := hmx.symm
  clear hmx
  have q1 := pcount_bd c b2
  have q2 := pcount_bd n b4
  have v1 : IntKind.i64.wrap (pcount c + pcount n) = pcount c + pcount n := IntWalk.i64_in _ (by omega)
  have u1 : (p != pcount c + pcount n) = false := by simpa using e1
  have u2 : decide (2047 < p) = false := by simpa using e2
  clear e1
  go_enter Tryd.func31, Tryd.ntmps31
  go_wp2_with fail
  go_quiet ((go_at_call 25; exact quiet_same (pcount_any _ _ (by omega))))
  go_wp2_with fail
  go_ret
  exact ⟨rfl, below_drewN ((Below.refl _ _).alloc (Nat.le_refl _) _) _⟩
set_option maxRecDepth 100000 in
set_option maxHeartbeats 1000000 in
theorem check_yes (r : Rt) (w : World) (h : Ok r) :
    Calls Tryd.prog 31 #[.agg (rtV r)] w fun e w' => e = .returned (.int .i64 0) ∧ Below w.heap.size w w' := by
  obtain ⟨g, p, m, c, n, t⟩ := r
  obtain ⟨a1, a2, b1, b2, b3, b4, d1, d2, e1, e2, f1, f2⟩ := h
  simp only at *
  obtain ⟨mx, hmx⟩ : ∃ mx, mx = max n 1 := ⟨_, rfl⟩
  rw [← hmx] at d2
  have hmx2 := hmx.symm
  clear hmx
  have q1 := pcount_bd c b2
  have q2 := pcount_bd n b4
  have v1 : IntKind.i64.wrap (pcount c + pcount n) = pcount c + pcount n := IntWalk.i64_in _ (by omega)
  have u1 : (p != pcount c + pcount n) = false := by simpa using e1
  have u2 : decide (2047 < p) = false := by simpa using e2
  clear e1
  go_enter Tryd.func31, Tryd.ntmps31
  go_wp2_with fail
  go_quiet ((go_at_call 25; exact quiet_same (pcount_any _ _ (by omega))))
  go_wp2_with fail
  go_ret
  exact ⟨rfl, below_drewN ((Below.refl _ _).alloc (Nat.le_refl _) _) _⟩

theorem check_no (r : Rt) (w : World) (h : ¬ Ok r) :
    Calls Tryd.prog 31 #[.agg (rtV r)] w fun e w' => e = .returned (.int .i64 2) ∧ Below w.heap.size w w' := by
  by_cases a1 : 1 ≤ r.g
  · by_cases a2 : r.g ≤ 1099511627776
    · by_cases b1 : 1 ≤ r.c
      · by_cases b2 : r.c ≤ 1048576
        · by_cases b3 : 0 ≤ r.n
          · by_cases b4 : r.n ≤ 1048576
            · by_cases d1 : 0 ≤ r.t
              · by_cases d2 : r.t < max r.n 1
                · by_cases e1 : r.p = pcount r.c + pcount r.n
                  · by_cases e2 : r.p ≤ 2047
                    · by_cases f1 : 0 ≤ r.m
                      · by_cases f2 : r.m < 2047
                        · exact absurd ⟨a1, a2, b1, b2, b3, b4, d1, d2, e1, e2, f1, f2⟩ h
                        · exact check_m2 r w a1 a2 b1 b2 b3 b4 d1 d2 e1 e2 f1 (by omega)
                      · exact check_m1 r w a1 a2 b1 b2 b3 b4 d1 d2 e1 e2 (by omega)
                    · exact check_p2 r w a1 a2 b1 b2 b3 b4 d1 d2 e1 (by omega)
                  · exact check_p1 r w a1 a2 b1 b2 b3 b4 d1 d2 e1
                · exact check_t2 r w a1 a2 b1 b2 b3 b4 d1 (by omega)
              · exact check_t1 r w a1 a2 b1 b2 b3 b4 (by omega)
            · exact check_n2 r w a1 a2 b1 b2 b3 (by omega)
          · exact check_n1 r w a1 a2 b1 b2 (by omega)
        · exact check_c2 r w a1 a2 b1 (by omega)
      · exact check_c1 r w a1 a2 (by omega)
    · exact check_g2 r w a1 (by omega)
  · exact check_g1 r w (by omega)

end Go.Proofs.YtpgmbpjjefecdaaDoor.Sl
