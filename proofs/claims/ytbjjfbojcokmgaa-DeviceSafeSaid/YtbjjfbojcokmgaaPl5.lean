/- Layer 7 of the document: Sync. -/
import Derived.Test.YtbjjfbojcokmgaaPl4
namespace Go.Proofs.Ytbjjfbojcokmgaa.Dv
open Go.RowKit Base
set_option linter.unusedVariables false
set_option linter.unusedSimpArgs false

theorem layAll_shown (sec : List ByteArray) (puts : List (Nat × ByteArray)) (i : Nat) (hi : i < sec.length) : (layAll sec puts)[i]? = some (shown sec puts i) := by
  induction puts generalizing sec with
  | nil =>
    show sec[i]? = some (sec.getD i ByteArray.empty)
    rw [List.getD_eq_getElem?_getD, List.getElem?_eq_getElem hi]
    rfl
  | cons p ps ih =>
    have h := ih (sec.set p.1 p.2) (by rw [List.length_set]; exact hi)
    have e : shown sec (p :: ps) i = shown (sec.set p.1 p.2) ps i := by
      unfold shown
      rw [List.foldl_cons]
      congr 1
      by_cases he : p.1 = i
      · rw [if_pos he, he, List.getD_eq_getElem?_getD, List.getElem?_set_self hi]
        rfl
      · rw [if_neg he, List.getD_eq_getElem?_getD, List.getD_eq_getElem?_getD, List.getElem?_set_ne he]
    rw [e]
    exact h
def layTo (sec : List ByteArray) (puts : List (Nat × ByteArray)) (k : Nat) : List ByteArray := (List.range k).map (shown sec puts)
theorem layTo_len (sec : List ByteArray) (puts : List (Nat × ByteArray)) (k : Nat) : (layTo sec puts k).length = k := by unfold layTo; simp
theorem layTo_step (sec : List ByteArray) (puts : List (Nat × ByteArray)) (k : Nat) : layTo sec puts (k + 1) = layTo sec puts k ++ [shown sec puts k] := by
  unfold layTo
  rw [List.range_succ, List.map_append]
  rfl
theorem layTo_all (sec : List ByteArray) (puts : List (Nat × ByteArray)) : layTo sec puts sec.length = layAll sec puts := by
  refine List.ext_getElem? fun i => ?_
  by_cases hi : i < sec.length
  · rw [layAll_shown sec puts i hi]
    unfold layTo
    rw [List.getElem?_map, List.getElem?_range hi]
    rfl
  · rw [List.getElem?_eq_none (by rw [layTo_len]; omega), List.getElem?_eq_none (by rw [layAll_len]; omega)]

section
variable (A A' : Option Addr) (c c' : Nat) (s : Dv) (w : World)
set_option maxRecDepth 100000 in
set_option maxHeartbeats 1000000 in
theorem rsync_off (ho : s.off = true) :
    Calls Try.prog 41 #[qv A A' c c' s] w fun e w' => e = .returned (.tuple #[qv A A' c c' s, .int .i64 8]) ∧ Below w.heap.size w w' := by
  unfold qv
  rw [ho]
  clear ho
  generalize s.sec.length = n at *
  generalize s.puts.length = m at *
  generalize s.fuse = f at *
  generalize s.reads = r at *
  generalize s.steps = t at *
  go_enter Try.func41, Try.ntmps41
  go_wp2_with fail
  refine bodyPost_ret (v := .tuple #[.agg #[.slice A n c, .slice A' m c', .bool true, .int .i64 f, .int .i64 r, .int .i64 t], .int .i64 8]) (by simp [results, Try.results41, go_sem]) rfl ⟨rfl, ?_⟩
  exact (by repeat (first | exact Below.refl _ _ | assumption | refine Below.drew ?_ | (refine Below.alloc ?_ (by simp <;> omega) _) | (refine Below.setCell ?_ (by simp <;> omega) _)))
set_option maxRecDepth 100000 in
set_option maxHeartbeats 1000000 in
theorem rsync_down (hg : Good s) (ho : s.off = false) (hf : s.fuse = 1) (hs : s.steps < 1000000) :
    Calls Try.prog 41 #[qv A A' c c' s] w fun e w' => e = .returned (.tuple #[qv A A' c c' (stepD s), .int .i64 8]) ∧ Below w.heap.size w w' := by
  have HS := Lib.hid (fun w => rstep_any A A' c c' s w hg hs)
  rw [decide_eq_false (by simpa using hf)] at HS
  have hsl : (stepD s).sec.length = s.sec.length := by unfold stepD; split <;> rfl
  have hpl : (stepD s).puts.length = s.puts.length := by unfold stepD; split <;> rfl
  unfold qv at *
  simp only [hsl, hpl] at HS ⊢
  rw [ho] at *
  clear hg hf hsl hpl hs ho
  generalize (stepD s).off = o' at *
  generalize (stepD s).fuse = f' at *
  generalize (stepD s).reads = r' at *
  generalize (stepD s).steps = t' at *
  generalize s.sec.length = n at *
  generalize s.puts.length = m at *
  generalize s.fuse = f at *
  generalize s.reads = r at *
  generalize s.steps = t at *
  go_enter Try.func41, Try.ntmps41
  go_wp2_with fail
  refine (HS.out _).mono ?_
  rintro e w1 ⟨rfl, hb1⟩
  obtain ⟨B0, B1, hb⟩ := two_new hb1
  have Hb := Lib.hid hb
  obtain ⟨⟨k0, k1, k2, k3, k4, k5⟩, ⟨j0, j1, j2, j3, j4, j5⟩⟩ := Box.six B0
  obtain ⟨⟨m0, m1, m2, m3, m4, m5⟩, ⟨e0, e1, e2, e3, e4, e5⟩⟩ := Box.six B1
  clear B0 B1 hb hb1
  go_wp2_with fail
  refine bodyPost_ret (v := .tuple #[.agg #[.slice A n c, .slice A' m c', .bool o', .int .i64 f', .int .i64 r', .int .i64 t'], .int .i64 8]) (by simp [results, Try.results41, go_sem, m0, m1, m2, m3, m4, m5]) rfl ⟨rfl, ?_⟩
  exact below_set6' (below_set6' Hb.out (Nat.le_refl _)) (by omega)
end

end Go.Proofs.Ytbjjfbojcokmgaa.Dv
