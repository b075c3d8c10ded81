/- Layer 7 in plain Lean: a device; and how it lies in memory. -/
import Derived.Test.YtbjjfbojcokmgaaOpen
import Derived.Test.YtbjjfbojcokmgaaOwn
import Derived.Test.YtbjjfbojcokmgaaOver
import Derived.Test.YtbjjfbojcokmgaaTurn
import Derived.WalkLawsBesides
import Derived.WalkSpells
import Derived.Deep.RegionHeld3
import Derived.Deep.QuietTactic
import Derived.BigQuiet
import Derived.Deep.Cut
namespace Go.Proofs.Ytbjjfbojcokmgaa.Dv
open Go.RowKit Base
set_option linter.unusedVariables false

theorem Box.six {w : World} {g : Nat} {t : TypeId} {a b c d e f : Value} (h : Box w g t #[a, b, c, d, e, f]) :
    (w.cell? ⟨g, 0, none⟩ = some a ∧ w.cell? ⟨g, 1, none⟩ = some b ∧ w.cell? ⟨g, 2, none⟩ = some c ∧ w.cell? ⟨g, 3, none⟩ = some d ∧ w.cell? ⟨g, 4, none⟩ = some e ∧ w.cell? ⟨g, 5, none⟩ = some f) ∧ (w.frozen? ⟨g, 0, none⟩ = false ∧ w.frozen? ⟨g, 1, none⟩ = false ∧ w.frozen? ⟨g, 2, none⟩ = false ∧ w.frozen? ⟨g, 3, none⟩ = false ∧ w.frozen? ⟨g, 4, none⟩ = false ∧ w.frozen? ⟨g, 5, none⟩ = false) :=
  ⟨⟨h.cell 0, h.cell 1, h.cell 2, h.cell 3, h.cell 4, h.cell 5⟩, ⟨h.free 0, h.free 1, h.free 2, h.free 3, h.free 4, h.free 5⟩⟩

/-- what a device has -/
structure Dv where
  sec : List ByteArray
  puts : List (Nat × ByteArray)
  fuse : Nat
  reads : Nat
  steps : Nat
  off : Bool
/-- a device that calls made -/
structure Good (s : Dv) : Prop where
  lo : 16 ≤ s.sec.length
  hi : s.sec.length ≤ 4096
  sec : ∀ x ∈ s.sec, x.size = 128
  at_ : ∀ p ∈ s.puts, p.1 < s.sec.length
  data : ∀ p ∈ s.puts, p.2.size = 128
  puts : s.puts.length ≤ 1000000
  fuse : s.fuse ≤ 9223372036854775807
  reads : s.reads ≤ 1000000
  steps : s.steps ≤ 1000000
/-- a list of writes as it lies in memory -/
def putV (l : List (Nat × ByteArray)) : List Value := l.flatMap fun p => [.int .i64 (p.1 : Nat), .string p.2]
theorem putV_len (l : List (Nat × ByteArray)) : (putV l).length = l.length * 2 := by
  unfold putV
  induction l with
  | nil => rfl
  | cons a l ih => rw [List.flatMap_cons, List.length_append, ih]; simp; omega
theorem putV_at (l : List (Nat × ByteArray)) (k : Nat) (h : k < l.length) : (putV l)[k * 2]? = some (.int .i64 (l[k].1 : Nat)) ∧ (putV l)[k * 2 + 1]? = some (.string l[k].2) := by
  induction l generalizing k with
  | nil => simp at h
  | cons a l ih =>
    cases k with
    | zero => exact ⟨rfl, rfl⟩
    | succ k =>
      have h' : k < l.length := by simpa using h
      have := ih k h'
      rw [show (k + 1) * 2 = k * 2 + 2 by omega]
      exact this
theorem putV_app (l : List (Nat × ByteArray)) (p : Nat × ByteArray) : putV (l ++ [p]) = putV l ++ [.int .i64 (p.1 : Nat), .string p.2] := by
  unfold putV
  simp [List.flatMap_append]

/-- a device as it lies in memory: d: its own block; F: the blocks that are its own. -/
structure DevAt (w : World) (B : Nat) (F : Nat → Prop) (d gs c : Nat) (pv : Value) (s : Dv) : Prop where
  box : Box w d 56 #[.slice (some ⟨gs, 0, none⟩) s.sec.length c, pv, .int .i64 s.fuse, .int .i64 s.reads, .int .i64 s.steps, .bool s.off]
  sec : w.ownsRow B 9 1 (.slice (some ⟨gs, 0, none⟩) s.sec.length c) s.sec.length (s.sec.map .string)
  puts : w.ownsRow B 65 2 pv s.puts.length (putV s.puts)
  dg : d ≠ gs
  pd : pv.ownBlock ≠ some d
  pg : pv.ownBlock ≠ some gs
  fd : F d
  fg : F gs
  fp : ∀ k, pv.ownBlock = some k → F k
  own : ∀ k, F k → B ≤ k ∧ k < w.heap.size
  good : Good s
def Dev (w : World) (B : Nat) (F : Nat → Prop) (d : Nat) (s : Dv) : Prop := ∃ gs c pv, DevAt w B F d gs c pv s
theorem own_turn {w w' : World} {p : Nat → Prop} {base : Nat} {e : TypeId} {size : Nat} {v : Value} {n : Nat} {xs : List Value} (h : w.ownsRow base e size v n xs) (ht : Turn p w w') (hp : ∀ k, v.ownBlock = some k → ¬ p k) : w'.ownsRow base e size v n xs := by
  obtain ⟨h1, h2⟩ := h
  refine ⟨h1, ?_⟩
  rcases h2 with h2 | ⟨g, cap, cur, r1, r2, r3, r4⟩
  · exact .inl h2
  · have hlt : g < w.heap.size := by
      rcases Nat.lt_or_ge g w.heap.size with hh | hh
      · exact hh
      · rw [Array.getElem?_eq_none hh] at r3; cases r3
    exact .inr ⟨g, cap, cur, r1, r2, (ht.block g hlt (hp g (by rw [r1]; rfl))).trans r3, r4⟩
theorem DevAt.turn {w w' : World} {B : Nat} {F p : Nat → Prop} {d gs c : Nat} {pv : Value} {s : Dv} (h : DevAt w B F d gs c pv s) (ht : Turn p w w') (hp : ∀ k, F k → ¬ p k) : DevAt w' B F d gs c pv s :=
  ⟨h.box.turn ht (hp d h.fd), own_turn h.sec ht (fun k hk => by simp [Value.ownBlock] at hk; subst hk; exact hp _ h.fg), own_turn h.puts ht (fun k hk => hp k (h.fp k hk)), h.dg, h.pd, h.pg, h.fd, h.fg, h.fp, fun k hk => ⟨(h.own k hk).1, Nat.lt_of_lt_of_le (h.own k hk).2 ht.size⟩, h.good⟩
theorem DevAt.below {w w' : World} {B : Nat} {F : Nat → Prop} {d gs c : Nat} {pv : Value} {s : Dv} (h : DevAt w B F d gs c pv s) (hb : Below w.heap.size w w') : DevAt w' B F d gs c pv s :=
  h.turn (p := fun _ => False) (.below hb) (fun _ _ h => h)
theorem Dev.turn {w w' : World} {B : Nat} {F p : Nat → Prop} {d : Nat} {s : Dv} (h : Dev w B F d s) (ht : Turn p w w') (hp : ∀ k, F k → ¬ p k) : Dev w' B F d s := by
  obtain ⟨gs, c, pv, h⟩ := h
  exact ⟨gs, c, pv, h.turn ht hp⟩
theorem Dev.below {w w' : World} {B : Nat} {F : Nat → Prop} {d : Nat} {s : Dv} (h : Dev w B F d s) (hb : Below w.heap.size w w') : Dev w' B F d s := by
  obtain ⟨gs, c, pv, h⟩ := h
  exact ⟨gs, c, pv, h.below hb⟩

end Go.Proofs.Ytbjjfbojcokmgaa.Dv
