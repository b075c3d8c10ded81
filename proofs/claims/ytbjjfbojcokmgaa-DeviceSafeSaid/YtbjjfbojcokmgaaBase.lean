/- Words on memory that the walks of this seat share: a slice that reads as a list. -/
import Derived.Test.YtbjjfbojcokmgaaRows
import Derived.WalkKit
import Derived.ProofKit
import Derived.Outline
import Derived.Below
import Derived.Lib.Hide
import Derived.Laws.OwnMore
import Derived.Deep.Draws
import Derived.Laws.Rows
import Derived.Maps.AppendAt
import Derived.OwnWalk
import Derived.Carry
namespace Go.Proofs.Ytbjjfbojcokmgaa.Base
open Go.RowKit

/-- The slice whose address is A shows the values vs, below block number B; an empty one may have whatever address. -/
def Row (w : World) (B : Nat) (A : Option Addr) (vs : List Value) : Prop :=
  vs = [] ∨ ∃ b off, A = some ⟨b, off, none⟩ ∧ b < B ∧ ∀ i v, vs[i]? = some v → w.cell? ⟨b, off + i, none⟩ = some v

theorem Row.nil (w : World) (B : Nat) (A : Option Addr) : Row w B A [] := .inl rfl
theorem Row.at_ {w : World} {B : Nat} {A : Option Addr} {vs : List Value} (h : Row w B A vs) {k : Nat} (hk : k < vs.length) :
    ∃ b off, A = some ⟨b, off, none⟩ ∧ b < B ∧ w.cell? ⟨b, off + k, none⟩ = some vs[k] := by
  rcases h with rfl | ⟨b, off, e, hb, hc⟩
  · simp at hk
  · exact ⟨b, off, e, hb, hc k _ (List.getElem?_eq_getElem hk)⟩
theorem Row.keep {w w' : World} {B : Nat} {A : Option Addr} {vs : List Value} (h : Row w B A vs) (hk : ∀ p : Addr, p.block < B → w'.cell? p = w.cell? p) : Row w' B A vs := by
  rcases h with rfl | ⟨b, off, e, hb, hc⟩
  · exact .inl rfl
  · exact .inr ⟨b, off, e, hb, fun i v hv => (hk _ hb).trans (hc i v hv)⟩
theorem Row.below {w w' : World} {B : Nat} {A : Option Addr} {vs : List Value} (h : Row w B A vs) (hb : Below B w w') : Row w' B A vs := h.keep fun _ hp => hb.cell hp
theorem Row.more {w : World} {B B' : Nat} {A : Option Addr} {vs : List Value} (h : Row w B A vs) (hB : B ≤ B') : Row w B' A vs := by
  rcases h with rfl | ⟨b, off, e, hb, hc⟩
  · exact .inl rfl
  · exact .inr ⟨b, off, e, by omega, hc⟩
theorem Row.take {w : World} {B : Nat} {A : Option Addr} {vs : List Value} (h : Row w B A vs) (n : Nat) : Row w B A (vs.take n) := by
  rcases h with rfl | ⟨b, off, e, hb, hc⟩
  · exact .inl (by simp)
  · refine .inr ⟨b, off, e, hb, fun i v hv => hc i v ?_⟩
    rw [List.getElem?_take] at hv
    split at hv
    · exact hv
    · cases hv
theorem Row.of_own {w : World} {base : Nat} {e : TypeId} {A : Option Addr} {n c : Nat} {vs : List Value} (h : w.ownsRow base e 1 (.slice A n c) n vs) : Row w w.heap.size A vs := by
  rcases h.2 with ⟨_, h0⟩ | ⟨g, cap, cur, hv, _, hh, _⟩
  · subst h0
    have h1 := h.1
    simp at h1
    exact .inl h1
  · injection hv with hA
    subst hA
    have hl := (h.lt g rfl).2
    refine .inr ⟨g, 0, rfl, hl, fun i v hv => ?_⟩
    have := h.cells (g := g) rfl i v hv
    unfold Addr.add at this
    rw [Nat.zero_add]
    split at this
    · rename_i h0; subst h0; exact this
    · simpa using this

/-- Block g is just these cells, of element type t, none of them shut. -/
def Box (w : World) (g : Nat) (t : TypeId) (cs : Array Value) : Prop := w.heap[g]? = some (.cells cs t (0, 0))
theorem Box.lt {w : World} {g : Nat} {t : TypeId} {cs : Array Value} (h : Box w g t cs) : g < w.heap.size := by
  by_cases hg : g < w.heap.size
  · exact hg
  · unfold Box at h
    rw [Array.getElem?_eq_none (by omega)] at h
    cases h
theorem Box.cell {w : World} {g : Nat} {t : TypeId} {cs : Array Value} (h : Box w g t cs) (i : Nat) : w.cell? ⟨g, i, none⟩ = cs[i]? := cell_of_row w g i cs t (0, 0) h
theorem Box.free {w : World} {g : Nat} {t : TypeId} {cs : Array Value} (h : Box w g t cs) (i : Nat) : w.frozen? ⟨g, i, none⟩ = false := by
  unfold Box at h
  simp [World.frozen?, h]
theorem Box.new (w : World) (t : TypeId) (cs : Array Value) : Box (w.alloc (.cells cs t)) w.heap.size t cs := heap_alloc_new w _
theorem Box.alloc {w : World} {g : Nat} {t : TypeId} {cs : Array Value} (h : Box w g t cs) (o : Obj) : Box (w.alloc o) g t cs := (Below.heap_alloc w o g h.lt).trans h
theorem Box.drew {w : World} {g : Nat} {t : TypeId} {cs : Array Value} (h : Box w g t cs) : Box w.drew g t cs := h
theorem Box.drewN {w : World} {g : Nat} {t : TypeId} {cs : Array Value} (h : Box w g t cs) (n : Nat) : Box (w.drewN n) g t cs := h
theorem Box.set {w : World} {g : Nat} {t : TypeId} {cs : Array Value} (h : Box w g t cs) (i : Nat) (u : Value) : Box (w.setCell ⟨g, i, none⟩ u) g t (cs.setIfInBounds i u) := by
  unfold Box at h ⊢
  simp [World.setCell, Array.getElem?_modify, h]
theorem Box.far {w : World} {g : Nat} {t : TypeId} {cs : Array Value} (h : Box w g t cs) {p : Addr} (hp : g ≠ p.block) (u : Value) : Box (w.setCell p u) g t cs := (Below.heap_setCell w p u g hp).trans h
theorem Box.below {w w' : World} {B g : Nat} {t : TypeId} {cs : Array Value} (h : Box w g t cs) (hb : Below B w w') (hg : g < B) : Box w' g t cs := (hb.block g hg).trans h
theorem Box.under {w w' : World} {g : Nat} {t : TypeId} {cs : Array Value} (h : Box w g t cs) (hb : Below w.heap.size w w') : Box w' g t cs := h.below hb h.lt
theorem Box.grown {w w' : World} {g : Nat} {t : TypeId} {cs : Array Value} {row : Option Nat} (h : Box w g t cs) (hb : w.grownBy w' row) (hg : some g ≠ row) : Box w' g t cs := (hb.block g h.lt hg).trans h

theorem Box.one {w : World} {g : Nat} {t : TypeId} {x : Value} (h : Box w g t #[x]) : w.cell? ⟨g, 0, none⟩ = some x ∧ w.frozen? ⟨g, 0, none⟩ = false := ⟨h.cell 0, h.free 0⟩
theorem Box.two {w : World} {g : Nat} {t : TypeId} {x y : Value} (h : Box w g t #[x, y]) : w.cell? ⟨g, 0, none⟩ = some x ∧ w.cell? ⟨g, 1, none⟩ = some y ∧ w.frozen? ⟨g, 0, none⟩ = false ∧ w.frozen? ⟨g, 1, none⟩ = false :=
  ⟨h.cell 0, h.cell 1, h.free 0, h.free 1⟩

theorem cell_below {B : Nat} {w w1 : World} (hb : Below B w w1) (b o : Nat) (h : b < B) : w1.cell? ⟨b, o, none⟩ = w.cell? ⟨b, o, none⟩ := hb.cell (p := ⟨b, o, none⟩) h
theorem frozen_below {B : Nat} {w w1 : World} (hb : Below B w w1) (b o : Nat) (h : b < B) : w1.frozen? ⟨b, o, none⟩ = w.frozen? ⟨b, o, none⟩ := hb.frozen (p := ⟨b, o, none⟩) h

/-! ### rows of the call's own -/
theorem own_form {w : World} {base : Nat} {e : TypeId} {v : Value} {n : Nat} {xs : List Value} (h : w.ownsRow base e 1 v n xs) : ∃ A c, v = .slice A n c := by
  rcases h.2 with ⟨rfl, rfl⟩ | ⟨g, cap, cur, rfl, _⟩
  · exact ⟨none, 0, rfl⟩
  · exact ⟨_, _, rfl⟩
theorem own_row {w : World} {base : Nat} {e : TypeId} {A : Option Addr} {n c : Nat} {xs : List Value} (h : w.ownsRow base e 1 (.slice A n c) n xs) : Row w w.heap.size A xs := Row.of_own h
theorem own_len {w : World} {base : Nat} {e : TypeId} {v : Value} {n : Nat} {xs : List Value} (h : w.ownsRow base e 1 v n xs) : xs.length = n := by simpa using h.1
theorem own_lt {w : World} {base : Nat} {e : TypeId} {v : Value} {n : Nat} {xs : List Value} (h : w.ownsRow base e 1 v n xs) {k : Nat} (hk : v.ownBlock = some k) : base ≤ k ∧ k < w.heap.size := h.lt k hk
/-- two rows of the call's own do not share a block -/
def Apart (u v : Value) : Prop := u.ownBlock = none ∨ u.ownBlock ≠ v.ownBlock
theorem Apart.symm {u v : Value} (h : Apart u v) : Apart v u := by
  unfold Apart at h ⊢
  rcases h with h | h
  · rw [h]
    rcases v.ownBlock with _ | b
    · exact .inl rfl
    · exact .inr (by simp)
  · exact .inr (fun e => h e.symm)
/-- behind an append to v (now v'), a row u apart from v is apart from v' -/
theorem Apart.next {w : World} {base : Nat} {e : TypeId} {u v v' : Value} {n : Nat} {xs : List Value} (h : Apart u v) (hu : w.ownsRow base e 1 u n xs) (hat : v'.ownBlock = v.ownBlock ∨ v'.ownBlock = some w.heap.size) : Apart u v' := by
  rcases hat with hat | hat
  · unfold Apart; rw [hat]; exact h
  · rcases hb : u.ownBlock with _ | k
    · exact .inl hb
    · refine .inr ?_
      rw [hb, hat]
      have := (own_lt hu hb).2
      intro hh
      injection hh with hh
      omega
theorem below_own {B : Nat} {a w w' : World} {base : Nat} {e : TypeId} {v : Value} {n : Nat} {xs : List Value} (h : Below B a w) (hown : w.ownsRow base e 1 v n xs) (hB : B ≤ base) (hs : B ≤ w.heap.size) (hg : w.grownBy w' v.ownBlock) : Below B a w' :=
  h.grown hg hs (fun _ hk => Nat.le_trans hB (own_lt hown hk).1)
end Go.Proofs.Ytbjjfbojcokmgaa.Base
