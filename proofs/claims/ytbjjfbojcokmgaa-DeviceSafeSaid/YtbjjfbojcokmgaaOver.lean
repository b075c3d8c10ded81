/- What stands at and above a line is left as it was. -/
import Derived.Test.YtbjjfbojcokmgaaBase
namespace Go.Proofs.Ytbjjfbojcokmgaa.Base
open Go.RowKit

/-- what stands at and above B is left as it was -/
structure Over (B : Nat) (w w' : World) : Prop where
  size : w.heap.size ≤ w'.heap.size
  block : ∀ k, B ≤ k → k < w.heap.size → w'.heap[k]? = w.heap[k]?
theorem Over.box {B g : Nat} {w w' : World} {t : TypeId} {cs : Array Value} (h : Over B w w') (hb : Box w g t cs) (hg : B ≤ g) : Box w' g t cs := (h.block g hg hb.lt).trans hb
theorem Over.own {B base : Nat} {w w' : World} {e : TypeId} {v : Value} {n : Nat} {xs : List Value} (h : Over B w w') (ho : w.ownsRow base e 1 v n xs) (hB : B ≤ base) : w'.ownsRow base e 1 v n xs := by
  obtain ⟨h1, h2⟩ := ho
  refine ⟨h1, ?_⟩
  rcases h2 with h2 | ⟨g, cap, cur, r1, r2, r3, r4⟩
  · exact .inl h2
  · have hlt : g < w.heap.size := by
      rcases Nat.lt_or_ge g w.heap.size with hh | hh
      · exact hh
      · rw [Array.getElem?_eq_none hh] at r3; cases r3
    exact .inr ⟨g, cap, cur, r1, r2, (h.block g (by omega) hlt).trans r3, r4⟩
theorem Over.trans {B : Nat} {a b c : World} (h : Over B a b) (k : Over B b c) : Over B a c :=
  ⟨Nat.le_trans h.size k.size, fun i h1 h2 => (k.block i h1 (Nat.lt_of_lt_of_le h2 h.size)).trans (h.block i h1 h2)⟩
theorem Over.mono {B C : Nat} {a b : World} (h : Over B a b) (hBC : B ≤ C) : Over C a b := ⟨h.size, fun i h1 h2 => h.block i (by omega) h2⟩
theorem Over.under {B : Nat} {a b : World} (h : Below a.heap.size a b) : Over B a b := ⟨h.size, fun i _ h2 => h.block i h2⟩
theorem Over.grown {B : Nat} {a b : World} {row : Option Nat} (h : a.grownBy b row) (hr : ∀ g, row = some g → g < B) : Over B a b :=
  ⟨h.size, fun i h1 h2 => h.block i h2 (by intro hh; have := hr i hh.symm; omega)⟩
theorem Over.alloc {B : Nat} (a : World) (o : Obj) : Over B a (a.alloc o) := .under (Below.refl _ _ |>.alloc (Nat.le_refl _) o)
theorem below_grown {B : Nat} {a b : World} {row : Option Nat} (h : a.grownBy b row) (hr : ∀ g, row = some g → B ≤ g) (hB : B ≤ a.heap.size) : Below B a b :=
  ⟨h.os, h.tape, h.output, h.size, fun i hi => h.block i (by omega) (by intro hh; have := hr i hh.symm; omega)⟩
end Go.Proofs.Ytbjjfbojcokmgaa.Base
