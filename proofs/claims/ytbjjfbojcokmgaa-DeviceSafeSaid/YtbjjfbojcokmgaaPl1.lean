/- Layer 7 of the document: ready, step, Fuse, Boot (genpl1.py prints it). -/
import Derived.Test.YtbjjfbojcokmgaaDv12
namespace Go.Proofs.Ytbjjfbojcokmgaa.Dv
open Go.RowKit Base
set_option linter.unusedVariables false
set_option linter.unusedSimpArgs false

set_option maxRecDepth 100000 in
set_option maxHeartbeats 400000 in
theorem rready_off (A A' : Option Addr) (n c m c' : Nat) (f r s : Nat) (w : World) (hn : n ≤ 1000000) (i : Int)  :
    Calls Try.prog 48 #[.agg #[.slice A n c, (.slice A' m c'), .bool true, .int .i64 f, .int .i64 r, .int .i64 s], .int .i64 i] w fun e w' => e = .returned (.int .i64 8) ∧ Below w.heap.size w w' := by
  go_enter Try.func48, Try.ntmps48
  go_wp2_with fail
  go_ret
  exact ⟨rfl, (by repeat (first | exact Below.refl _ _ | assumption | refine Below.drew ?_ | (refine Below.alloc ?_ (by simp <;> omega) _) | (refine Below.setCell ?_ (by simp <;> omega) _)))⟩
set_option maxRecDepth 100000 in
set_option maxHeartbeats 400000 in
theorem rready_neg (A A' : Option Addr) (n c m c' : Nat) (f r s : Nat) (w : World) (hn : n ≤ 1000000) (i : Int) (hi : i < 0) :
    Calls Try.prog 48 #[.agg #[.slice A n c, (.slice A' m c'), .bool false, .int .i64 f, .int .i64 r, .int .i64 s], .int .i64 i] w fun e w' => e = .returned (.int .i64 9) ∧ Below w.heap.size w w' := by
  have hd : decide (i < 0) = true := by simpa using hi
  go_enter Try.func48, Try.ntmps48
  go_wp2_with fail
  go_ret
  exact ⟨rfl, (by repeat (first | exact Below.refl _ _ | assumption | refine Below.drew ?_ | (refine Below.alloc ?_ (by simp <;> omega) _) | (refine Below.setCell ?_ (by simp <;> omega) _)))⟩
set_option maxRecDepth 100000 in
set_option maxHeartbeats 400000 in
theorem rready_big (A A' : Option Addr) (n c m c' : Nat) (f r s : Nat) (w : World) (hn : n ≤ 1000000) (i : Int) (hi : (n : Int) ≤ i) :
    Calls Try.prog 48 #[.agg #[.slice A n c, (.slice A' m c'), .bool false, .int .i64 f, .int .i64 r, .int .i64 s], .int .i64 i] w fun e w' => e = .returned (.int .i64 9) ∧ Below w.heap.size w w' := by
  have hd : decide (i < 0) = false := by simp; omega
  have hd2 : decide ((n : Int) ≤ i) = true := by simpa using hi
  go_enter Try.func48, Try.ntmps48
  go_wp2_with fail
  go_ret
  exact ⟨rfl, (by repeat (first | exact Below.refl _ _ | assumption | refine Below.drew ?_ | (refine Below.alloc ?_ (by simp <;> omega) _) | (refine Below.setCell ?_ (by simp <;> omega) _)))⟩
set_option maxRecDepth 100000 in
set_option maxHeartbeats 400000 in
theorem rready_yes (A A' : Option Addr) (n c m c' : Nat) (f r s : Nat) (w : World) (hn : n ≤ 1000000) (i : Int) (h0 : 0 ≤ i) (hi : i < (n : Int)) :
    Calls Try.prog 48 #[.agg #[.slice A n c, (.slice A' m c'), .bool false, .int .i64 f, .int .i64 r, .int .i64 s], .int .i64 i] w fun e w' => e = .returned (.int .i64 0) ∧ Below w.heap.size w w' := by
  have hd : decide (i < 0) = false := by simp; omega
  have hd2 : decide ((n : Int) ≤ i) = false := by simp; omega
  go_enter Try.func48, Try.ntmps48
  go_wp2_with fail
  go_ret
  exact ⟨rfl, (by repeat (first | exact Below.refl _ _ | assumption | refine Below.drew ?_ | (refine Below.alloc ?_ (by simp <;> omega) _) | (refine Below.setCell ?_ (by simp <;> omega) _)))⟩
set_option maxRecDepth 100000 in
set_option maxHeartbeats 400000 in
theorem rstep_down (A A' : Option Addr) (n c m c' : Nat) (o : Bool) (f r s : Nat) (w : World)  :
    Calls Try.prog 50 #[.agg #[.slice A n c, (.slice A' m c'), .bool o, .int .i64 1, .int .i64 r, .int .i64 s]] w fun e w' => e = .returned (.tuple #[.agg #[.slice A n c, (.slice A' m c'), .bool true, .int .i64 0, .int .i64 r, .int .i64 s], .bool false]) ∧ Below w.heap.size w w' := by
  go_enter Try.func50, Try.ntmps50
  go_wp2_with fail
  refine bodyPost_ret (v := .tuple #[.agg #[.slice A n c, (.slice A' m c'), .bool true, .int .i64 0, .int .i64 r, .int .i64 s], .bool false]) (by simp [results, Try.results50, go_sem]) rfl ⟨rfl, ?_⟩
  exact (by repeat (first | exact Below.refl _ _ | assumption | refine Below.drew ?_ | (refine Below.alloc ?_ (by simp <;> omega) _) | (refine Below.setCell ?_ (by simp <;> omega) _)))
set_option maxRecDepth 100000 in
set_option maxHeartbeats 400000 in
theorem rstep_zero (A A' : Option Addr) (n c m c' : Nat) (o : Bool) (f r s : Nat) (w : World) (hs : s < 1000000) :
    Calls Try.prog 50 #[.agg #[.slice A n c, (.slice A' m c'), .bool o, .int .i64 0, .int .i64 r, .int .i64 s]] w fun e w' => e = .returned (.tuple #[.agg #[.slice A n c, (.slice A' m c'), .bool o, .int .i64 0, .int .i64 r, .int .i64 ((s : Int) + 1)], .bool true]) ∧ Below w.heap.size w w' := by
  go_enter Try.func50, Try.ntmps50
  go_wp2_with fail
  refine bodyPost_ret (v := .tuple #[.agg #[.slice A n c, (.slice A' m c'), .bool o, .int .i64 0, .int .i64 r, .int .i64 ((s : Int) + 1)], .bool true]) (by simp [results, Try.results50, go_sem]) rfl ⟨rfl, ?_⟩
  exact (by repeat (first | exact Below.refl _ _ | assumption | refine Below.drew ?_ | (refine Below.alloc ?_ (by simp <;> omega) _) | (refine Below.setCell ?_ (by simp <;> omega) _)))
set_option maxRecDepth 100000 in
set_option maxHeartbeats 400000 in
theorem rstep_more (A A' : Option Addr) (n c m c' : Nat) (o : Bool) (f r s : Nat) (w : World) (hf : 2 ≤ f) (hfb : f ≤ 9223372036854775807) (hs : s < 1000000) :
    Calls Try.prog 50 #[.agg #[.slice A n c, (.slice A' m c'), .bool o, .int .i64 f, .int .i64 r, .int .i64 s]] w fun e w' => e = .returned (.tuple #[.agg #[.slice A n c, (.slice A' m c'), .bool o, .int .i64 ((f : Int) - 1), .int .i64 r, .int .i64 ((s : Int) + 1)], .bool true]) ∧ Below w.heap.size w w' := by
  have h1 : ((f : Int) == 1) = false := by rw [beq_eq_false_iff_ne]; omega
  have h2 : decide ((0 : Int) < (f : Int)) = true := by simp; omega
  go_enter Try.func50, Try.ntmps50
  go_wp2_with fail
  refine bodyPost_ret (v := .tuple #[.agg #[.slice A n c, (.slice A' m c'), .bool o, .int .i64 ((f : Int) - 1), .int .i64 r, .int .i64 ((s : Int) + 1)], .bool true]) (by simp [results, Try.results50, go_sem]) rfl ⟨rfl, ?_⟩
  exact (by repeat (first | exact Below.refl _ _ | assumption | refine Below.drew ?_ | (refine Below.alloc ?_ (by simp <;> omega) _) | (refine Below.setCell ?_ (by simp <;> omega) _)))
set_option maxRecDepth 100000 in
set_option maxHeartbeats 400000 in
theorem rfuse_off (A A' : Option Addr) (n c m c' : Nat) (o : Bool) (f r s : Nat) (w : World) (i : Int) :
    Calls Try.prog 42 #[.agg #[.slice A n c, (.slice A' m c'), .bool true, .int .i64 f, .int .i64 r, .int .i64 s], .int .i64 i] w fun e w' => e = .returned (.tuple #[.agg #[.slice A n c, (.slice A' m c'), .bool true, .int .i64 f, .int .i64 r, .int .i64 s], .int .i64 8]) ∧ Below w.heap.size w w' := by
  go_enter Try.func42, Try.ntmps42
  go_wp2_with fail
  refine bodyPost_ret (v := .tuple #[.agg #[.slice A n c, (.slice A' m c'), .bool true, .int .i64 f, .int .i64 r, .int .i64 s], .int .i64 8]) (by simp [results, Try.results42, go_sem]) rfl ⟨rfl, ?_⟩
  exact (by repeat (first | exact Below.refl _ _ | assumption | refine Below.drew ?_ | (refine Below.alloc ?_ (by simp <;> omega) _) | (refine Below.setCell ?_ (by simp <;> omega) _)))
set_option maxRecDepth 100000 in
set_option maxHeartbeats 400000 in
theorem rfuse_neg (A A' : Option Addr) (n c m c' : Nat) (o : Bool) (f r s : Nat) (w : World) (i : Int) (hi : i < 0) :
    Calls Try.prog 42 #[.agg #[.slice A n c, (.slice A' m c'), .bool false, .int .i64 f, .int .i64 r, .int .i64 s], .int .i64 i] w fun e w' => e = .returned (.tuple #[.agg #[.slice A n c, (.slice A' m c'), .bool false, .int .i64 f, .int .i64 r, .int .i64 s], .int .i64 2]) ∧ Below w.heap.size w w' := by
  have hd : decide (i < 0) = true := by simpa using hi
  go_enter Try.func42, Try.ntmps42
  go_wp2_with fail
  refine bodyPost_ret (v := .tuple #[.agg #[.slice A n c, (.slice A' m c'), .bool false, .int .i64 f, .int .i64 r, .int .i64 s], .int .i64 2]) (by simp [results, Try.results42, go_sem]) rfl ⟨rfl, ?_⟩
  exact (by repeat (first | exact Below.refl _ _ | assumption | refine Below.drew ?_ | (refine Below.alloc ?_ (by simp <;> omega) _) | (refine Below.setCell ?_ (by simp <;> omega) _)))
set_option maxRecDepth 100000 in
set_option maxHeartbeats 400000 in
theorem rfuse_set (A A' : Option Addr) (n c m c' : Nat) (o : Bool) (f r s : Nat) (w : World) (i : Int) (hi : 0 ≤ i) :
    Calls Try.prog 42 #[.agg #[.slice A n c, (.slice A' m c'), .bool false, .int .i64 f, .int .i64 r, .int .i64 s], .int .i64 i] w fun e w' => e = .returned (.tuple #[.agg #[.slice A n c, (.slice A' m c'), .bool false, .int .i64 i, .int .i64 r, .int .i64 s], .int .i64 0]) ∧ Below w.heap.size w w' := by
  have hd : decide (i < 0) = false := by simpa using hi
  go_enter Try.func42, Try.ntmps42
  go_wp2_with fail
  refine bodyPost_ret (v := .tuple #[.agg #[.slice A n c, (.slice A' m c'), .bool false, .int .i64 i, .int .i64 r, .int .i64 s], .int .i64 0]) (by simp [results, Try.results42, go_sem]) rfl ⟨rfl, ?_⟩
  exact (by repeat (first | exact Below.refl _ _ | assumption | refine Below.drew ?_ | (refine Below.alloc ?_ (by simp <;> omega) _) | (refine Below.setCell ?_ (by simp <;> omega) _)))
set_option maxRecDepth 100000 in
set_option maxHeartbeats 400000 in
theorem rboot_any (A A' : Option Addr) (n c m c' : Nat) (o : Bool) (f r s : Nat) (w : World)  :
    Calls Try.prog 44 #[.agg #[.slice A n c, (.slice A' m c'), .bool o, .int .i64 f, .int .i64 r, .int .i64 s]] w fun e w' => e = .returned (.agg #[.slice A n c, (.slice none 0 0), .bool false, .int .i64 0, .int .i64 r, .int .i64 s]) ∧ Below w.heap.size w w' := by
  go_enter Try.func44, Try.ntmps44
  go_wp2_with fail
  refine bodyPost_ret (v := .agg #[.slice A n c, (.slice none 0 0), .bool false, .int .i64 0, .int .i64 r, .int .i64 s]) (by simp [results, Try.results44, go_sem]) rfl ⟨rfl, ?_⟩
  exact (by repeat (first | exact Below.refl _ _ | assumption | refine Below.drew ?_ | (refine Below.alloc ?_ (by simp <;> omega) _) | (refine Below.setCell ?_ (by simp <;> omega) _)))

end Go.Proofs.Ytbjjfbojcokmgaa.Dv
