/- Layer 9, second part: the document's Is (gensl2.py prints it). -/
import Derived.Test.YtpgmbpjjefecdaaDoorSl1
namespace Go.Proofs.YtpgmbpjjefecdaaDoor.Sl
open Go.RowKit Base Crc Txt Plain Pg
set_option linter.unusedVariables false

set_option maxRecDepth 100000 in
set_option maxHeartbeats 1000000 in
theorem is_g1 (r : Rt) (w : World) (h : r.g < 1) :
    Calls Tryd.prog 30 #[.agg (rtV r)] w fun e w' => e = .returned (.bool false) ∧ Below w.heap.size w w' := by
  obtain ⟨g, p, m, c, n, t⟩ := r
  simp only at *
  go_enter Tryd.func30, Tryd.ntmps30
  go_wp2_with fail
  go_ret
  exact ⟨rfl, (Below.refl _ _).alloc (Nat.le_refl _) _⟩
set_option maxRecDepth 100000 in
set_option maxHeartbeats 1000000 in
theorem is_g2 (r : Rt) (w : World) (a1 : 1 ≤ r.g) (h : 1099511627776 < r.g) :
    Calls Tryd.prog 30 #[.agg (rtV r)] w fun e w' => e = .returned (.bool false) ∧ Below w.heap.size w w' := by
  obtain ⟨g, p, m, c, n, t⟩ := r
  simp only at *
  go_enter Tryd.func30, Tryd.ntmps30
  go_wp2_with fail
  go_ret
  exact ⟨rfl, (Below.refl _ _).alloc (Nat.le_refl _) _⟩
set_option maxRecDepth 100000 in
set_option maxHeartbeats 1000000 in
theorem is_c1 (r : Rt) (w : World) (a1 : 1 ≤ r.g) (a2 : r.g ≤ 1099511627776) (h : r.c < 1) :
    Calls Tryd.prog 30 #[.agg (rtV r)] w fun e w' => e = .returned (.bool false) ∧ Below w.heap.size w w' := by
  obtain ⟨g, p, m, c, n, t⟩ := r
  simp only at *
  go_enter Tryd.func30, Tryd.ntmps30
  go_wp2_with fail
  go_ret
  exact ⟨rfl, (Below.refl _ _).alloc (Nat.le_refl _) _⟩
set_option maxRecDepth 100000 in
set_option maxHeartbeats 1000000 in
theorem is_c2 (r : Rt) (w : World) (a1 : 1 ≤ r.g) (a2 : r.g ≤ 1099511627776) (b1 : 1 ≤ r.c) (h : 1048576 < r.c) :
    Calls Tryd.prog 30 #[.agg (rtV r)] w fun e w' => e = .returned (.bool false) ∧ Below w.heap.size w w' := by
  obtain ⟨g, p, m, c, n, t⟩ := r
  simp only at *
  go_enter Tryd.func30, Tryd.ntmps30
  go_wp2_with fail
  go_ret
  exact ⟨rfl, (Below.refl _ _).alloc (Nat.le_refl _) _⟩
set_option maxRecDepth 100000 in
set_option maxHeartbeats 1000000 in
theorem is_n1 (r : Rt) (w : World) (a1 : 1 ≤ r.g) (a2 : r.g ≤ 1099511627776) (b1 : 1 ≤ r.c) (b2 : r.c ≤ 1048576) (h : r.n < 0) :
    Calls Tryd.prog 30 #[.agg (rtV r)] w fun e w' => e = .returned (.bool false) ∧ Below w.heap.size w w' := by
  obtain ⟨g, p, m, c, n, t⟩ := r
  simp only at *
  go_enter Tryd.func30, Tryd.ntmps30
  go_wp2_with fail
  go_ret
  exact ⟨rfl, (Below.refl _ _).alloc (Nat.le_refl _) _⟩
set_option maxRecDepth 100000 in
set_option maxHeartbeats 1000000 in
theorem is_n2 (r : Rt) (w : World) (a1 : 1 ≤ r.g) (a2 : r.g ≤ 1099511627776) (b1 : 1 ≤ r.c) (b2 : r.c ≤ 1048576) (b3 : 0 ≤ r.n) (h : 1048576 < r.n) :
    Calls Tryd.prog 30 #[.agg (rtV r)] w fun e w' => e = .returned (.bool false) ∧ Below w.heap.size w w' := by
  obtain ⟨g, p, m, c, n, t⟩ := r
  simp only at *
  go_enter Tryd.func30, Tryd.ntmps30
  go_wp2_with fail
  go_ret
  exact ⟨rfl, (Below.refl _ _).alloc (Nat.le_refl _) _⟩
set_option maxRecDepth 100000 in
set_option maxHeartbeats 1000000 in
theorem is_t1 (r : Rt) (w : World) (a1 : 1 ≤ r.g) (a2 : r.g ≤ 1099511627776) (b1 : 1 ≤ r.c) (b2 : r.c ≤ 1048576) (b3 : 0 ≤ r.n) (b4 : r.n ≤ 1048576) (h : r.t < 0) :
    Calls Tryd.prog 30 #[.agg (rtV r)] w fun e w' => e = .returned (.bool false) ∧ Below w.heap.size w w' := by
  obtain ⟨g, p, m, c, n, t⟩ := r
  simp only at *
  go_enter Tryd.func30, Tryd.ntmps30
  go_wp2_with fail
  go_ret
  exact ⟨rfl, (Below.refl _ _).alloc (Nat.le_refl _) _⟩
set_option maxRecDepth 100000 in
set_option maxHeartbeats 1000000 in
theorem is_t2 (r : Rt) (w : World) (a1 : 1 ≤ r.g) (a2 : r.g ≤ 1099511627776) (b1 : 1 ≤ r.c) (b2 : r.c ≤ 1048576) (b3 : 0 ≤ r.n) (b4 : r.n ≤ 1048576) (d1 : 0 ≤ r.t) (h : max r.n 1 ≤ r.t) :
    Calls Tryd.prog 30 #[.agg (rtV r)] w fun e w' => e = .returned (.bool false) ∧ Below w.heap.size w w' := by
  obtain ⟨g, p, m, c, n, t⟩ := r
  simp only at *
  by_cases hn : n = 0
  · have z1 : (n == 0) = true := by simpa using hn
    have z2 : ¬ 0 < n := by omega
    have z3 : 0 < t := by omega
    clear hn
    clear h
    go_enter Tryd.func30, Tryd.ntmps30
    go_wp2_with fail
    go_ret
    exact ⟨rfl, (Below.refl _ _).alloc (Nat.le_refl _) _⟩
  · have z1 : (n == 0) = false := by simpa using hn
    have z2 : 0 < n := by omega
    have z3 : n ≤ t := by omega
    clear hn
    clear h
    go_enter Tryd.func30, Tryd.ntmps30
    go_wp2_with fail
    go_ret
    exact ⟨rfl, (Below.refl _ _).alloc (Nat.le_refl _) _⟩
set_option maxRecDepth 100000 in
set_option maxHeartbeats 1000000 in
theorem is_m1 (r : Rt) (w : World) (a1 : 1 ≤ r.g) (a2 : r.g ≤ 1099511627776) (b1 : 1 ≤ r.c) (b2 : r.c ≤ 1048576) (b3 : 0 ≤ r.n) (b4 : r.n ≤ 1048576) (d1 : 0 ≤ r.t) (d2 : r.t < max r.n 1) (h : r.m < 0) :
    Calls Tryd.prog 30 #[.agg (rtV r)] w fun e w' => e = .returned (.bool false) ∧ Below w.heap.size w w' := by
  obtain ⟨g, p, m, c, n, t⟩ := r
  simp only at *
  by_cases hn : n = 0
  · have z1 : (n == 0) = true := by simpa using hn
    have z2 : ¬ 0 < n := by omega
    have z3 : ¬ 0 < t := by omega
    clear hn
    clear d2
    go_enter Tryd.func30, Tryd.ntmps30
    go_wp2_with fail
    go_ret
    exact ⟨rfl, (Below.refl _ _).alloc (Nat.le_refl _) _⟩
  · have z1 : (n == 0) = false := by simpa using hn
    have z2 : 0 < n := by omega
    have z3 : ¬ n ≤ t := by omega
    clear hn
    clear d2
    go_enter Tryd.func30, Tryd.ntmps30
    go_wp2_with fail
    go_ret
    exact ⟨rfl, (Below.refl _ _).alloc (Nat.le_refl _) _⟩
set_option maxRecDepth 100000 in
set_option maxHeartbeats 1000000 in
theorem is_m2 (r : Rt) (w : World) (a1 : 1 ≤ r.g) (a2 : r.g ≤ 1099511627776) (b1 : 1 ≤ r.c) (b2 : r.c ≤ 1048576) (b3 : 0 ≤ r.n) (b4 : r.n ≤ 1048576) (d1 : 0 ≤ r.t) (d2 : r.t < max r.n 1) (f1 : 0 ≤ r.m) (h : 2047 ≤ r.m) :
    Calls Tryd.prog 30 #[.agg (rtV r)] w fun e w' => e = .returned (.bool false) ∧ Below w.heap.size w w' := by
  obtain ⟨g, p, m, c, n, t⟩ := r
  simp only at *
  have h2 : 2046 < m := by omega
  by_cases hn : n = 0
  · have z1 : (n == 0) = true := by simpa using hn
    have z2 : ¬ 0 < n := by omega
    have z3 : ¬ 0 < t := by omega
    clear hn
    clear d2
    go_enter Tryd.func30, Tryd.ntmps30
    go_wp2_with fail
    go_ret
    exact ⟨rfl, (Below.refl _ _).alloc (Nat.le_refl _) _⟩
  · have z1 : (n == 0) = false := by simpa using hn
    have z2 : 0 < n := by omega
    have z3 : ¬ n ≤ t := by omega
    clear hn
    clear d2
    go_enter Tryd.func30, Tryd.ntmps30
    go_wp2_with fail
    go_ret
    exact ⟨rfl, (Below.refl _ _).alloc (Nat.le_refl _) _⟩
set_option maxRecDepth 100000 in
set_option maxHeartbeats 1000000 in
theorem is_p2 (r : Rt) (w : World) (a1 : 1 ≤ r.g) (a2 : r.g ≤ 1099511627776) (b1 : 1 ≤ r.c) (b2 : r.c ≤ 1048576) (b3 : 0 ≤ r.n) (b4 : r.n ≤ 1048576) (d1 : 0 ≤ r.t) (d2 : r.t < max r.n 1) (f1 : 0 ≤ r.m) (f2 : r.m < 2047) (h : 2047 < r.p) :
    Calls Tryd.prog 30 #[.agg (rtV r)] w fun e w' => e = .returned (.bool false) ∧ Below w.heap.size w w' := by
  obtain ⟨g, p, m, c, n, t⟩ := r
  simp only at *
  by_cases hn : n = 0
  · have z1 : (n == 0) = true := by simpa using hn
    have z2 : ¬ 0 < n := by omega
    have z3 : ¬ 0 < t := by omega
    clear hn
    clear d2
    go_enter Tryd.func30, Tryd.ntmps30
    go_wp2_with fail
    go_ret
    exact ⟨rfl, (Below.refl _ _).alloc (Nat.le_refl _) _⟩
  · have z1 : (n == 0) = false := by simpa using hn
    have z2 : 0 < n := by omega
    have z3 : ¬ n ≤ t := by omega
    clear hn
    clear d2
    go_enter Tryd.func30, Tryd.ntmps30
    go_wp2_with fail
    go_ret
    exact ⟨rfl, (Below.refl _ _).alloc (Nat.le_refl _) _⟩
set_option maxRecDepth 100000 in
set_option maxHeartbeats 1000000 in
theorem is_p1 (r : Rt) (w : World) (a1 : 1 ≤ r.g) (a2 : r.g ≤ 1099511627776) (b1 : 1 ≤ r.c) (b2 : r.c ≤ 1048576) (b3 : 0 ≤ r.n) (b4 : r.n ≤ 1048576) (d1 : 0 ≤ r.t) (d2 : r.t < max r.n 1) (f1 : 0 ≤ r.m) (f2 : r.m < 2047) (e2 : r.p ≤ 2047) (h : r.p ≠ pcount r.c + pcount r.n) :
    Calls Tryd.prog 30 #[.agg (rtV r)] w fun e w' => e = .returned (.bool false) ∧ Below w.heap.size w w' := by
  obtain ⟨g, p, m, c, n, t⟩ := r
  simp only at *
  have q1 := pcount_bd c b2
  have q2 := pcount_bd n b4
  have v1 : IntKind.i64.wrap (pcount c + pcount n) = pcount c + pcount n := IntWalk.i64_in _ (by omega)
  have u1 : (p == pcount c + pcount n) = false := by simpa using h
  clear h
  by_cases hn : n = 0
  · have z1 : (n == 0) = true := by simpa using hn
    have z2 : ¬ 0 < n := by omega
    have z3 : ¬ 0 < t := by omega
    clear hn
    clear d2
    go_enter Tryd.func30, Tryd.ntmps30
    go_wp2_with fail
    go_quiet ((go_at_call 23; exact quiet_same (rpcount_any _ _ (by omega))))
    go_wp2_with fail
    go_ret
    exact ⟨rfl, below_drewN ((Below.refl _ _).alloc (Nat.le_refl _) _) _⟩
  · have z1 : (n == 0) = false := by simpa using hn
    have z2 : 0 < n := by omega
    have z3 : ¬ n ≤ t := by omega
    clear hn
    clear d2
    go_enter Tryd.func30, Tryd.ntmps30
    go_wp2_with fail
    go_quiet ((go_at_call 23; exact quiet_same (rpcount_any _ _ (by omega))))
    go_wp2_with fail
    go_ret
    exact ⟨rfl, below_drewN ((Below.refl _ _).alloc (Nat.le_refl _) _) _⟩
set_option maxRecDepth 100000 in
set_option maxHeartbeats 1000000 in
theorem is_yes (r : Rt) (w : World) (h : Ok r) :
    Calls Tryd.prog 30 #[.agg (rtV r)] w fun e w' => e = .returned (.bool true) ∧ Below w.heap.size w w' := by
  obtain ⟨g, p, m, c, n, t⟩ := r
  obtain ⟨a1, a2, b1, b2, b3, b4, d1, d2, e1, e2, f1, f2⟩ := h
  simp only at *
  have q1 := pcount_bd c b2
  have q2 := pcount_bd n b4
  have v1 : IntKind.i64.wrap (pcount c + pcount n) = pcount c + pcount n := IntWalk.i64_in _ (by omega)
  have u1 : (p == pcount c + pcount n) = true := by simpa using e1
  clear e1
  by_cases hn : n = 0
  · have z1 : (n == 0) = true := by simpa using hn
    have z2 : ¬ 0 < n := by omega
    have z3 : ¬ 0 < t := by omega
    clear hn
    clear d2
    go_enter Tryd.func30, Tryd.ntmps30
    go_wp2_with fail
    go_quiet ((go_at_call 23; exact quiet_same (rpcount_any _ _ (by omega))))
    go_wp2_with fail
    go_ret
    exact ⟨rfl, below_drewN ((Below.refl _ _).alloc (Nat.le_refl _) _) _⟩
  · have z1 : (n == 0) = false := by simpa using hn
    have z2 : 0 < n := by omega
    have z3 : ¬ n ≤ t := by omega
    clear hn
    clear d2
    go_enter Tryd.func30, Tryd.ntmps30
    go_wp2_with fail
    go_quiet ((go_at_call 23; exact quiet_same (rpcount_any _ _ (by omega))))
    go_wp2_with fail
    go_ret
    exact ⟨rfl, below_drewN ((Below.refl _ _).alloc (Nat.le_refl _) _) _⟩

theorem is_no (r : Rt) (w : World) (h : ¬ Ok r) :
    Calls Tryd.prog 30 #[.agg (rtV r)] w fun e w' => e = .returned (.bool false) ∧ Below w.heap.size w w' := by
  by_cases a1 : 1 ≤ r.g
  · by_cases a2 : r.g ≤ 1099511627776
    · by_cases b1 : 1 ≤ r.c
      · by_cases b2 : r.c ≤ 1048576
        · by_cases b3 : 0 ≤ r.n
          · by_cases b4 : r.n ≤ 1048576
            · by_cases d1 : 0 ≤ r.t
              · by_cases d2 : r.t < max r.n 1
                · by_cases f1 : 0 ≤ r.m
                  · by_cases f2 : r.m < 2047
                    · by_cases e2 : r.p ≤ 2047
                      · by_cases e1 : r.p = pcount r.c + pcount r.n
                        · exact absurd ⟨a1, a2, b1, b2, b3, b4, d1, d2, e1, e2, f1, f2⟩ h
                        · exact is_p1 r w a1 a2 b1 b2 b3 b4 d1 d2 f1 f2 e2 e1
                      · exact is_p2 r w a1 a2 b1 b2 b3 b4 d1 d2 f1 f2 (by omega)
                    · exact is_m2 r w a1 a2 b1 b2 b3 b4 d1 d2 f1 (by omega)
                  · exact is_m1 r w a1 a2 b1 b2 b3 b4 d1 d2 (by omega)
                · exact is_t2 r w a1 a2 b1 b2 b3 b4 d1 (by omega)
              · exact is_t1 r w a1 a2 b1 b2 b3 b4 (by omega)
            · exact is_n2 r w a1 a2 b1 b2 b3 (by omega)
          · exact is_n1 r w a1 a2 b1 b2 (by omega)
        · exact is_c2 r w a1 a2 b1 (by omega)
      · exact is_c1 r w a1 a2 (by omega)
    · exact is_g2 r w a1 (by omega)
  · exact is_g1 r w (by omega)

end Go.Proofs.YtpgmbpjjefecdaaDoor.Sl
