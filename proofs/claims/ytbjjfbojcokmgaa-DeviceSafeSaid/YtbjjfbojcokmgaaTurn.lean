/- What a call may turn: the blocks of a kind, and what is new. -/
import Derived.Test.YtbjjfbojcokmgaaBase
namespace Go.Proofs.Ytbjjfbojcokmgaa.Base
open Go.RowKit

structure Turn (p : Nat → Prop) (w w' : World) : Prop where
  os : w'.os = w.os
  tape : w'.tape = w.tape
  output : w'.output = w.output
  size : w.heap.size ≤ w'.heap.size
  block : ∀ k, k < w.heap.size → ¬ p k → w'.heap[k]? = w.heap[k]?
section
variable {p : Nat → Prop} {a b c : World}
theorem Turn.refl (p : Nat → Prop) (w : World) : Turn p w w := ⟨rfl, rfl, rfl, Nat.le_refl _, fun _ _ _ => rfl⟩
theorem Turn.trans (h : Turn p a b) (k : Turn p b c) : Turn p a c :=
  ⟨k.os.trans h.os, k.tape.trans h.tape, k.output.trans h.output, Nat.le_trans h.size k.size, fun i hi hp => (k.block i (Nat.lt_of_lt_of_le hi h.size) hp).trans (h.block i hi hp)⟩
theorem Turn.below (h : Below a.heap.size a b) : Turn p a b := ⟨h.os, h.tape, h.output, h.size, fun i hi _ => h.block i hi⟩
theorem Turn.set (w : World) (q : Addr) (v : Value) (hp : p q.block) : Turn p w (w.setCell q v) :=
  have h := (Below.refl 0 w).setCell (p := q) (Nat.zero_le _) v
  ⟨h.os, h.tape, h.output, h.size, fun i _ hi => Below.heap_setCell w q v i (fun e => hi (e ▸ hp))⟩
theorem Turn.drewN (h : Turn p a b) (n : Nat) : Turn p a (b.drewN n) := ⟨h.os, h.tape, h.output, h.size, h.block⟩
theorem Turn.drew (h : Turn p a b) : Turn p a b.drew := ⟨h.os, h.tape, h.output, h.size, h.block⟩
theorem Turn.alloc (h : Turn p a b) (o : Obj) : Turn p a (b.alloc o) := h.trans (.below ((Below.refl _ _).alloc (Nat.le_refl _) o))
theorem Turn.more {q : Nat → Prop} (h : Turn p a b) (hq : ∀ k, p k → q k) : Turn q a b := ⟨h.os, h.tape, h.output, h.size, fun i hi hp => h.block i hi (fun e => hp (hq i e))⟩
theorem Turn.toBelow {B : Nat} (h : Turn p a b) (hp : ∀ k, p k → B ≤ k) (hB : B ≤ a.heap.size) : Below B a b :=
  ⟨h.os, h.tape, h.output, h.size, fun i hi => h.block i (by omega) (fun e => by have := hp i e; omega)⟩
theorem Box.turn {g : Nat} {t : TypeId} {cs : Array Value} (h : Box a g t cs) (ht : Turn p a b) (hg : ¬ p g) : Box b g t cs := (ht.block g h.lt hg).trans h
theorem Row.turn {B : Nat} {A : Option Addr} {vs : List Value} (h : Row a B A vs) (ht : Turn p a b) (hp : ∀ k, p k → B ≤ k) (hB : B ≤ a.heap.size) : Row b B A vs := h.below (ht.toBelow hp hB)
end
theorem Box.three {w : World} {g : Nat} {t : TypeId} {x y z : Value} (h : Box w g t #[x, y, z]) : w.cell? ⟨g, 0, none⟩ = some x ∧ w.cell? ⟨g, 1, none⟩ = some y ∧ w.cell? ⟨g, 2, none⟩ = some z ∧ w.frozen? ⟨g, 0, none⟩ = false ∧ w.frozen? ⟨g, 1, none⟩ = false ∧ w.frozen? ⟨g, 2, none⟩ = false :=
  ⟨h.cell 0, h.cell 1, h.cell 2, h.free 0, h.free 1, h.free 2⟩
end Go.Proofs.Ytbjjfbojcokmgaa.Base
