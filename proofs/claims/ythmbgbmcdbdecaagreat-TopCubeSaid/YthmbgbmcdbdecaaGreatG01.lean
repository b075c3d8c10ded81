/- Parts of a proof: Words on memory that the walks of this seat share: a slice that reads as a list. append(s, x) of one element onto a row of the call's own, in one law; and appends of a whole slice. What a call may turn: the blocks of a kind, and what is new. Arguments opened: what an argument that can be read looks like in memory. Arguments opened: slices of structs, structs that hold slices. Cubes: schemas, rows, members, as they lie in memory; the arguments of a statement opened. -/
import Derived.Test.YthmbgbmcdbdecaaGreatRows
import Derived.WalkKit
import Derived.ProofKit
import Derived.Outline
import Derived.Below
import Derived.Lib.Hide
import Derived.Laws.OwnMore
import Derived.Deep.Draws
import Derived.Laws.Rows
import Derived.Maps.AppendAt
import Derived.OwnWalk
import Derived.Carry
import Derived.OpenShut
import Derived.ChangeOld
import Derived.ShutString
import Derived.SliceStrings
import Derived.Lib.SmallJoins
import Derived.Deep.Grids
import Derived.Deep.Slices
import Derived.Deep.Fields
import Derived.ChangeSame
namespace Go.Proofs.YthmbgbmcdbdecaaGreat.Base
open Go.RowKit
def Row (w : World) (B : Nat) (A : Option Addr) (vs : List Value) : Prop :=
 vs = [] ∨ ∃ b off, A = some ⟨b, off, none⟩ ∧ b < B ∧ ∀ i v, vs[i]? = some v → w.cell? ⟨b, off + i, none⟩ = some v
theorem Row.nil (w : World) (B : Nat) (A : Option Addr) : Row w B A [] := .inl rfl
theorem Row.at_ {w : World} {B : Nat} {A : Option Addr} {vs : List Value} (h : Row w B A vs) {k : Nat} (hk : k < vs.length) :
 ∃ b off, A = some ⟨b, off, none⟩ ∧ b < B ∧ w.cell? ⟨b, off + k, none⟩ = some vs[k] := by
 rcases h with rfl | ⟨b, off, e, hb, hc⟩
 ·simp at hk
 ·exact ⟨b, off, e, hb, hc k _ (List.getElem?_eq_getElem hk)⟩
theorem Row.keep {w w' : World} {B : Nat} {A : Option Addr} {vs : List Value} (h : Row w B A vs) (hk : ∀ p : Addr, p.block < B → w'.cell? p = w.cell? p) : Row w' B A vs := by
 rcases h with rfl | ⟨b, off, e, hb, hc⟩
 ·exact .inl rfl
 ·exact .inr ⟨b, off, e, hb, fun i v hv => (hk _ hb).trans (hc i v hv)⟩
theorem Row.below {w w' : World} {B : Nat} {A : Option Addr} {vs : List Value} (h : Row w B A vs) (hb : Below B w w') : Row w' B A vs := h.keep fun _ hp => hb.cell hp
theorem Row.more {w : World} {B B' : Nat} {A : Option Addr} {vs : List Value} (h : Row w B A vs) (hB : B ≤ B') : Row w B' A vs := by
 rcases h with rfl | ⟨b, off, e, hb, hc⟩
 ·exact .inl rfl
 ·exact .inr ⟨b, off, e, by omega, hc⟩
theorem Row.take {w : World} {B : Nat} {A : Option Addr} {vs : List Value} (h : Row w B A vs) (n : Nat) : Row w B A (vs.take n) := by
 rcases h with rfl | ⟨b, off, e, hb, hc⟩
 ·exact .inl (by simp)
 ·refine .inr ⟨b, off, e, hb, fun i v hv => hc i v ?_⟩
  rw [List.getElem?_take] at hv
  split at hv
  ·exact hv
  ·cases hv
theorem Row.of_own {w : World} {base : Nat} {e : TypeId} {A : Option Addr} {n c : Nat} {vs : List Value} (h : w.ownsRow base e 1 (.slice A n c) n vs) : Row w w.heap.size A vs := by
 rcases h.2 with ⟨_, h0⟩ | ⟨g, cap, cur, hv, _, hh, _⟩
 ·subst h0
  have h1 := h.1
  simp at h1
  exact .inl h1
 ·injection hv with hA
  subst hA
  have hl := (h.lt g rfl).2
  refine .inr ⟨g, 0, rfl, hl, fun i v hv => ?_⟩
  have := h.cells (g := g) rfl i v hv
  unfold Addr.add at this
  rw [Nat.zero_add]
  split at this
  ·rename_i h0; subst h0; exact this
  ·simpa using this
def Box (w : World) (g : Nat) (t : TypeId) (cs : Array Value) : Prop := w.heap[g]? = some (.cells cs t (0, 0))
theorem Box.lt {w : World} {g : Nat} {t : TypeId} {cs : Array Value} (h : Box w g t cs) : g < w.heap.size := by
 by_cases hg : g < w.heap.size
 ·exact hg
 ·unfold Box at h
  rw [Array.getElem?_eq_none (by omega)] at h
  cases h
theorem Box.cell {w : World} {g : Nat} {t : TypeId} {cs : Array Value} (h : Box w g t cs) (i : Nat) : w.cell? ⟨g, i, none⟩ = cs[i]? := cell_of_row w g i cs t (0, 0) h
theorem Box.free {w : World} {g : Nat} {t : TypeId} {cs : Array Value} (h : Box w g t cs) (i : Nat) : w.frozen? ⟨g, i, none⟩ = false := by
 unfold Box at h
 simp [World.frozen?, h]
theorem Box.new (w : World) (t : TypeId) (cs : Array Value) : Box (w.alloc (.cells cs t)) w.heap.size t cs := heap_alloc_new w _
theorem Box.alloc {w : World} {g : Nat} {t : TypeId} {cs : Array Value} (h : Box w g t cs) (o : Obj) : Box (w.alloc o) g t cs := (Below.heap_alloc w o g h.lt).trans h
theorem Box.drew {w : World} {g : Nat} {t : TypeId} {cs : Array Value} (h : Box w g t cs) : Box w.drew g t cs := h
theorem Box.drewN {w : World} {g : Nat} {t : TypeId} {cs : Array Value} (h : Box w g t cs) (n : Nat) : Box (w.drewN n) g t cs := h
theorem Box.set {w : World} {g : Nat} {t : TypeId} {cs : Array Value} (h : Box w g t cs) (i : Nat) (u : Value) : Box (w.setCell ⟨g, i, none⟩ u) g t (cs.setIfInBounds i u) := by
 unfold Box at h ⊢
 simp [World.setCell, Array.getElem?_modify, h]
theorem Box.far {w : World} {g : Nat} {t : TypeId} {cs : Array Value} (h : Box w g t cs) {p : Addr} (hp : g ≠ p.block) (u : Value) : Box (w.setCell p u) g t cs := (Below.heap_setCell w p u g hp).trans h
theorem Box.below {w w' : World} {B g : Nat} {t : TypeId} {cs : Array Value} (h : Box w g t cs) (hb : Below B w w') (hg : g < B) : Box w' g t cs := (hb.block g hg).trans h
theorem Box.under {w w' : World} {g : Nat} {t : TypeId} {cs : Array Value} (h : Box w g t cs) (hb : Below w.heap.size w w') : Box w' g t cs := h.below hb h.lt
theorem Box.grown {w w' : World} {g : Nat} {t : TypeId} {cs : Array Value} {row : Option Nat} (h : Box w g t cs) (hb : w.grownBy w' row) (hg : some g ≠ row) : Box w' g t cs := (hb.block g h.lt hg).trans h
theorem Box.one {w : World} {g : Nat} {t : TypeId} {x : Value} (h : Box w g t #[x]) : w.cell? ⟨g, 0, none⟩ = some x ∧ w.frozen? ⟨g, 0, none⟩ = false := ⟨h.cell 0, h.free 0⟩
theorem Box.two {w : World} {g : Nat} {t : TypeId} {x y : Value} (h : Box w g t #[x, y]) : w.cell? ⟨g, 0, none⟩ = some x ∧ w.cell? ⟨g, 1, none⟩ = some y ∧ w.frozen? ⟨g, 0, none⟩ = false ∧ w.frozen? ⟨g, 1, none⟩ = false :=
 ⟨h.cell 0, h.cell 1, h.free 0, h.free 1⟩
theorem cell_below {B : Nat} {w w1 : World} (hb : Below B w w1) (b o : Nat) (h : b < B) : w1.cell? ⟨b, o, none⟩ = w.cell? ⟨b, o, none⟩ := hb.cell (p := ⟨b, o, none⟩) h
theorem frozen_below {B : Nat} {w w1 : World} (hb : Below B w w1) (b o : Nat) (h : b < B) : w1.frozen? ⟨b, o, none⟩ = w.frozen? ⟨b, o, none⟩ := hb.frozen (p := ⟨b, o, none⟩) h
theorem own_form {w : World} {base : Nat} {e : TypeId} {v : Value} {n : Nat} {xs : List Value} (h : w.ownsRow base e 1 v n xs) : ∃ A c, v = .slice A n c := by
 rcases h.2 with ⟨rfl, rfl⟩ | ⟨g, cap, cur, rfl, _⟩
 ·exact ⟨none, 0, rfl⟩
 ·exact ⟨_, _, rfl⟩
theorem own_row {w : World} {base : Nat} {e : TypeId} {A : Option Addr} {n c : Nat} {xs : List Value} (h : w.ownsRow base e 1 (.slice A n c) n xs) : Row w w.heap.size A xs := Row.of_own h
theorem own_len {w : World} {base : Nat} {e : TypeId} {v : Value} {n : Nat} {xs : List Value} (h : w.ownsRow base e 1 v n xs) : xs.length = n := by simpa using h.1
theorem own_lt {w : World} {base : Nat} {e : TypeId} {v : Value} {n : Nat} {xs : List Value} (h : w.ownsRow base e 1 v n xs) {k : Nat} (hk : v.ownBlock = some k) : base ≤ k ∧ k < w.heap.size := h.lt k hk
def Apart (u v : Value) : Prop := u.ownBlock = none ∨ u.ownBlock ≠ v.ownBlock
theorem Apart.symm {u v : Value} (h : Apart u v) : Apart v u := by
 unfold Apart at h ⊢
 rcases h with h | h
 ·rw [h]
  rcases v.ownBlock with _ | b
  ·exact .inl rfl
  ·exact .inr (by simp)
 ·exact .inr (fun e => h e.symm)
theorem Apart.next {w : World} {base : Nat} {e : TypeId} {u v v' : Value} {n : Nat} {xs : List Value} (h : Apart u v) (hu : w.ownsRow base e 1 u n xs) (hat : v'.ownBlock = v.ownBlock ∨ v'.ownBlock = some w.heap.size) : Apart u v' := by
 rcases hat with hat | hat
 ·unfold Apart; rw [hat]; exact h
 ·rcases hb : u.ownBlock with _ | k
  ·exact .inl hb
  ·refine .inr ?_
   rw [hb, hat]
   have := (own_lt hu hb).2
   intro hh
   injection hh with hh
   omega
theorem below_own {B : Nat} {a w w' : World} {base : Nat} {e : TypeId} {v : Value} {n : Nat} {xs : List Value} (h : Below B a w) (hown : w.ownsRow base e 1 v n xs) (hB : B ≤ base) (hs : B ≤ w.heap.size) (hg : w.grownBy w' v.ownBlock) : Below B a w' :=
 h.grown hg hs (fun _ hk => Nat.le_trans hB (own_lt hown hk).1)
theorem kp {p : Prop} (h : p) : Go.RowKit.Hid p := Lib.hid h
structure App (wr w' : World) (v v' : Value) : Prop where
 grown : wr.grownBy w' v.ownBlock
 lies : v'.ownBlock = v.ownBlock ∨ ∃ k, v'.ownBlock = some k ∧ wr.heap.size ≤ k
section
variable {P : Program}
theorem wpList_append1 {ops : Array Oper} {rest : List Oper} {o : Oper} {a : Act} {Q : Exit → Act → World → Prop} (hgd : o.guard = none) (s x : Operand) (t : TypeId)
 (ho : o.op = .call { callee := .builtin .append, args := #[s, x], argTypes := #[t, t] })
 (base : Nat) (e : TypeId) (i : TypeInfo) (z : Value) (bytes : Nat) (ht : P.underlying t = some (.slice e)) (hi : P.info? e = some i) (hz : i.zero = some z)
 (hsize : i.size = 1) (hby : i.bytes = bytes) (hzs : z.cells.size = 1)
 (wr : World) (u : Value) (hu : u.oneCell' = true) (v : Value) (n : Nat) (xs : List Value) (hs : a.eval s = v) (hown : wr.ownsRow base e 1 v n xs)
 (hx : a.eval x = .slice (some ⟨wr.heap.size, 0, none⟩) 1 1)
 (hn : n < 1048576 * 64) (hb : bytes ≤ 256) (hbase : base ≤ wr.heap.size)
 (h : ∀ v' w', w'.ownsRow base e 1 v' (n + 1) (xs ++ [u]) → App wr w' v v' → wpList P ops Q rest (a.put o.dst v') w') :
 wpList P ops Q (o :: rest) a (wr.alloc (.cells #[u] e)) := by
 refine wpList_append_own_at _ hgd s x t ho base e i z 1 bytes ht hi hz hsize hby hzs (by decide) v n xs hs (hown.alloc _) ⟨wr.heap.size, 0, none⟩ 1 1 [u] hx rfl (cell_one_new _ _ _) ?_ ?_ ?_ ?_ ?_
 ·intro y hy
  simp at hy
  subst hy
  exact hu
 ·unfold maxLen; omega
 ·have : (n + 1) * bytes ≤ (1048576 * 64) * 256 := Nat.mul_le_mul (by omega) hb
  omega
 ·simp; omega
 ·intro v' w' h1 h2 _ h4
  refine h v' w' h1 ⟨⟨h2.os, h2.tape, h2.output, Nat.le_trans (by simp) h2.size, fun k hk hne => (h2.block k (by simp; omega) hne).trans (Below.heap_alloc _ _ _ hk)⟩, ?_⟩
  rcases h4 with h4 | h4
  ·exact .inl h4
  ·exact .inr ⟨_, h4, by simp⟩
theorem wp_append1 {o : Oper} {a : Act} {K : Act → World → Prop} {Q : Exit → Act → World → Prop} (s x : Operand) (t : TypeId)
 (ho : o.op = .call { callee := .builtin .append, args := #[s, x], argTypes := #[t, t] })
 (base : Nat) (e : TypeId) (i : TypeInfo) (z : Value) (bytes : Nat) (ht : P.underlying t = some (.slice e)) (hi : P.info? e = some i) (hz : i.zero = some z)
 (hsize : i.size = 1) (hby : i.bytes = bytes) (hzs : z.cells.size = 1)
 (wr : World) (u : Value) (hu : u.oneCell' = true) (v : Value) (n : Nat) (xs : List Value) (hs : a.eval s = v) (hown : wr.ownsRow base e 1 v n xs)
 (hx : a.eval x = .slice (some ⟨wr.heap.size, 0, none⟩) 1 1)
 (hn : n < 1048576 * 64) (hb : bytes ≤ 256) (hbase : base ≤ wr.heap.size)
 (h : ∀ v' w', w'.ownsRow base e 1 v' (n + 1) (xs ++ [u]) → App wr w' v v' → K (a.put o.dst v') w') :
 o.wp P a (wr.alloc (.cells #[u] e)) K Q := by
 obtain ⟨v', w', hr, h2, h3, _, h5⟩ := run_append_own_at (P := P) (wr.alloc (.cells #[u] e)) base t o.type e i z 1 bytes ht hi hz hsize hby hzs (by decide) v n xs (hown.alloc _) ⟨wr.heap.size, 0, none⟩ 1 1 [u] rfl (cell_one_new _ _ _)
  (by intro y hy; simp at hy; subst hy; exact hu) (by unfold maxLen; omega) (by have : (n + 1) * bytes ≤ (1048576 * 64) * 256 := Nat.mul_le_mul (by omega) hb; omega) (by simp; omega)
 unfold Oper.wp execOp
 simp only [ho, resolve, invoke, builtin, Sem.run_bind, Sem.run_pure, Result.andThen_ok, List.map_toArray, List.map_cons, List.map_nil, hs, hx, hr]
 refine h v' w' h2 ⟨⟨h3.os, h3.tape, h3.output, Nat.le_trans (by simp) h3.size, fun k hk hne => (h3.block k (by simp; omega) hne).trans (Below.heap_alloc _ _ _ hk)⟩, ?_⟩
 rcases h5 with h5 | h5
 ·exact .inl h5
 ·exact .inr ⟨_, h5, by simp⟩
theorem step_append1 {ops : Array Oper} {o : Oper} {a : Act} {K : Act → World → Prop} {Q : Exit → Act → World → Prop} {E : Prop} (hgd : o.guard = none) (s x : Operand) (t : TypeId)
 (ho : o.op = .call { callee := .builtin .append, args := #[s, x], argTypes := #[t, t] })
 (base : Nat) (e : TypeId) (i : TypeInfo) (z : Value) (bytes : Nat) (ht : P.underlying t = some (.slice e)) (hi : P.info? e = some i) (hz : i.zero = some z)
 (hsize : i.size = 1) (hby : i.bytes = bytes) (hzs : z.cells.size = 1)
 (wr : World) (u : Value) (hu : u.oneCell' = true) (v : Value) (n : Nat) (xs : List Value) (hs : a.eval s = v) (hown : wr.ownsRow base e 1 v n xs)
 (hx : a.eval x = .slice (some ⟨wr.heap.size, 0, none⟩) 1 1)
 (hn : n < 1048576 * 64) (hb : bytes ≤ 256) (hbase : base ≤ wr.heap.size)
 (h : ∀ v' w', w'.ownsRow base e 1 v' (n + 1) (xs ++ [u]) → App wr w' v v' → K (a.put o.dst v') w') :
 if Region.wanted o (yielded ops a.tmps) = true then o.wp P a (wr.alloc (.cells #[u] e)) K Q else E := by
 have hw : Region.wanted o (yielded ops a.tmps) = true := by simp [Region.wanted, hgd]
 rw [if_pos hw]
 exact wp_append1 s x t ho base e i z bytes ht hi hz hsize hby hzs wr u hu v n xs hs hown hx hn hb hbase h
end
section
variable {wr w' : World} {v v' : Value}
theorem App.below {B : Nat} {a : World} {base : Nat} {e : TypeId} {n : Nat} {xs : List Value} (h : App wr w' v v') (hb : Below B a wr) (hown : wr.ownsRow base e 1 v n xs) (hB : B ≤ base) (hs : B ≤ wr.heap.size) : Below B a w' := below_own hb hown hB hs h.grown
theorem App.box {g : Nat} {t : TypeId} {cs : Array Value} {base : Nat} {e : TypeId} {n : Nat} {xs : List Value} (h : App wr w' v v') (hb : Box wr g t cs) (hown : wr.ownsRow base e 1 v n xs) (hg : g < base) : Box w' g t cs := by
 refine hb.grown h.grown fun hh => ?_
 have := (own_lt hown hh.symm).1
 omega
theorem App.other {u : Value} {base : Nat} {e : TypeId} {m : Nat} {ys : List Value} (h : App wr w' v v') (hu : wr.ownsRow base e 1 u m ys) (hap : Apart u v) : w'.ownsRow base e 1 u m ys := hu.kept h.grown hap
theorem App.apart {u : Value} {base : Nat} {e : TypeId} {m : Nat} {ys : List Value} (h : App wr w' v v') (hu : wr.ownsRow base e 1 u m ys) (hap : Apart u v) : Apart u v' := by
 rcases h.lies with hat | ⟨k, hat, hk⟩
 ·unfold Apart; rw [hat]; exact hap
 ·rcases hb : u.ownBlock with _ | j
  ·exact .inl hb
  ·refine .inr ?_
   rw [hb, hat]
   have := (own_lt hu hb).2
   intro hh
   injection hh with hh
   omega
theorem App.row {B : Nat} {A : Option Addr} {vs : List Value} {base : Nat} {e : TypeId} {n : Nat} {xs : List Value} (h : App wr w' v v') (hr : Row wr B A vs) (hown : wr.ownsRow base e 1 v n xs) (hB : B ≤ base) (hs : B ≤ wr.heap.size) : Row w' B A vs :=
 hr.below (App.below h (Below.refl _ _) hown hB hs)
end
structure Turn (p : Nat → Prop) (w w' : World) : Prop where
 os : w'.os = w.os
 tape : w'.tape = w.tape
 output : w'.output = w.output
 size : w.heap.size ≤ w'.heap.size
 block : ∀ k, k < w.heap.size → ¬ p k → w'.heap[k]? = w.heap[k]?
section
variable {p : Nat → Prop} {a b c : World}
theorem Turn.refl (p : Nat → Prop) (w : World) : Turn p w w := ⟨rfl, rfl, rfl, Nat.le_refl _, fun _ _ _ => rfl⟩
theorem Turn.trans (h : Turn p a b) (k : Turn p b c) : Turn p a c :=
 ⟨k.os.trans h.os, k.tape.trans h.tape, k.output.trans h.output, Nat.le_trans h.size k.size, fun i hi hp => (k.block i (Nat.lt_of_lt_of_le hi h.size) hp).trans (h.block i hi hp)⟩
theorem Turn.below (h : Below a.heap.size a b) : Turn p a b := ⟨h.os, h.tape, h.output, h.size, fun i hi _ => h.block i hi⟩
theorem Turn.set (w : World) (q : Addr) (v : Value) (hp : p q.block) : Turn p w (w.setCell q v) :=
 have h := (Below.refl 0 w).setCell (p := q) (Nat.zero_le _) v
 ⟨h.os, h.tape, h.output, h.size, fun i _ hi => Below.heap_setCell w q v i (fun e => hi (e ▸ hp))⟩
theorem Turn.drewN (h : Turn p a b) (n : Nat) : Turn p a (b.drewN n) := ⟨h.os, h.tape, h.output, h.size, h.block⟩
theorem Turn.drew (h : Turn p a b) : Turn p a b.drew := ⟨h.os, h.tape, h.output, h.size, h.block⟩
theorem Turn.alloc (h : Turn p a b) (o : Obj) : Turn p a (b.alloc o) := h.trans (.below ((Below.refl _ _).alloc (Nat.le_refl _) o))
theorem Turn.more {q : Nat → Prop} (h : Turn p a b) (hq : ∀ k, p k → q k) : Turn q a b := ⟨h.os, h.tape, h.output, h.size, fun i hi hp => h.block i hi (fun e => hp (hq i e))⟩
theorem Turn.toBelow {B : Nat} (h : Turn p a b) (hp : ∀ k, p k → B ≤ k) (hB : B ≤ a.heap.size) : Below B a b :=
 ⟨h.os, h.tape, h.output, h.size, fun i hi => h.block i (by omega) (fun e => by have := hp i e; omega)⟩
theorem Box.turn {g : Nat} {t : TypeId} {cs : Array Value} (h : Box a g t cs) (ht : Turn p a b) (hg : ¬ p g) : Box b g t cs := (ht.block g h.lt hg).trans h
theorem Row.turn {B : Nat} {A : Option Addr} {vs : List Value} (h : Row a B A vs) (ht : Turn p a b) (hp : ∀ k, p k → B ≤ k) (hB : B ≤ a.heap.size) : Row b B A vs := h.below (ht.toBelow hp hB)
end
theorem Box.three {w : World} {g : Nat} {t : TypeId} {x y z : Value} (h : Box w g t #[x, y, z]) : w.cell? ⟨g, 0, none⟩ = some x ∧ w.cell? ⟨g, 1, none⟩ = some y ∧ w.cell? ⟨g, 2, none⟩ = some z ∧ w.frozen? ⟨g, 0, none⟩ = false ∧ w.frozen? ⟨g, 1, none⟩ = false ∧ w.frozen? ⟨g, 2, none⟩ = false :=
 ⟨h.cell 0, h.cell 1, h.cell 2, h.free 0, h.free 1, h.free 2⟩
end Go.Proofs.YthmbgbmcdbdecaaGreat.Base
namespace Go.Proofs.YthmbgbmcdbdecaaGreat.Base
open Go.ChangeShapes Go.WideShapes Go.ChangeAt Go.RowKit Go.Joins Go.Deep
theorem Box.lay {w : World} {g : Nat} {t : TypeId} {cs : Array Value} (hg : w.heap.size = g) : Box (w.alloc (.cells cs t)) g t cs := hg ▸ Box.new w t cs
theorem cell_block_lt {w : World} {a : Addr} {v : Value} (h : w.cell? a = some v) : a.block < w.heap.size := by
 by_cases hb : a.block < w.heap.size
 ·exact hb
 ·have e : w.heap[a.block]? = none := Array.getElem?_eq_none (by omega)
  simp [World.cell?, e] at h
theorem cell_keep {W w' : World} (hb : Below W.heap.size W w') {b o : Nat} {v : Value} (h : W.cell? ⟨b, o, none⟩ = some v) : w'.cell? ⟨b, o, none⟩ = some v := (hb.cell (p := ⟨b, o, none⟩) (cell_block_lt h)).trans h
theorem add_at (b off i : Nat) : (⟨b, off, none⟩ : Addr).add i = ⟨b, off + i, none⟩ := by
 unfold Addr.add
 split
 ·rename_i h; subst h; rfl
 ·rfl
theorem row_of_cells {w : World} {a : Addr} {vs : List Value} (h : ∀ i v, vs[i]? = some v → w.cell? (a.add i) = some v) : Row w w.heap.size (some a) vs := by
 rcases vs with _ | ⟨v0, vs⟩
 ·exact .inl rfl
 ·obtain ⟨b, off, spot⟩ := a
  have h0 := h 0 v0 rfl
  have hs : spot = none := by
   have := World.cell?_spot h0
   simpa [Addr.add] using this
  subst hs
  rw [add_at] at h0
  refine .inr ⟨b, off, rfl, cell_block_lt h0, fun i v hv => ?_⟩
  rw [← add_at]
  exact h i v hv
section
variable {H : Type} {enc : TypeId × Value → H} {P : Program} {W : World} {base : Nat}
theorem open_row_ints {t e : TypeId} {k : IntKind} {v : Value} {d : DataW H} {p : List MemPlace} (ht : P.underlying t = some (.slice e)) (he : P.underlying e = some (.int k)) (hc : P.cellsOf e = 1)
 (hv : Value.okWide P W .any base t v) (h : DataW.Trod enc P W 0 (fun _ => true) true t v d p) :
 ∃ (A : Option Addr) (l : List Int) (c : Nat), v = .slice A l.length c ∧ l.length ≤ c ∧ c ≤ maxLen ∧ Row W W.heap.size A (l.map (.int k)) ∧ ∀ n ∈ l, (Lit.int k n).wf = true := by
 obtain ⟨a0, len0, cap0, rfl⟩ := okWide_slice ht hv
 obtain ⟨fuel, hf⟩ := h
 rcases open_ints ht he hc hf with ⟨hcs, _⟩ | ⟨x, l, c, zs, hcs, _, hl, hm, hz, _, hcell, hwz⟩
 ·simp [Value.cells] at hcs
  obtain ⟨rfl, rfl, rfl⟩ := hcs
  exact ⟨none, [], 0, rfl, Nat.le_refl _, Nat.zero_le _, .inl rfl, by simp⟩
 ·simp [Value.cells] at hcs
  obtain ⟨rfl, rfl, rfl⟩ := hcs
  simp at hz
  have hlen : (zs.take len0).length = len0 := by rw [List.length_take, hz]; omega
  refine ⟨_, zs.take len0, cap0, by rw [hlen], by rw [hlen]; exact hl, hm, row_of_cells fun i v hv => ?_, fun n hn => hwz n (List.mem_of_mem_take hn)⟩
  rw [List.getElem?_map, List.getElem?_take] at hv
  split at hv
  ·rename_i hi
   have hi' : i < zs.length := by omega
   rw [List.getElem?_eq_getElem hi'] at hv
   simp at hv
   rw [← hv, hcell i hi']
   simp [hi']
  ·cases hv
theorem open_row_strings {t e : TypeId} {v : Value} {d : DataW H} {p : List MemPlace} (ht : P.underlying t = some (.slice e)) (he : P.underlying e = some .string) (hc : P.cellsOf e = 1)
 (hv : Value.okWide P W .any base t v) (h : DataW.Trod enc P W 0 (fun _ => true) true t v d p) :
 ∃ (A : Option Addr) (l : List ByteArray) (c : Nat), v = .slice A l.length c ∧ l.length ≤ c ∧ c ≤ maxLen ∧ Row W W.heap.size A (l.map .string) ∧ ∀ s ∈ l, s.size ≤ maxLen := by
 obtain ⟨a0, len0, cap0, rfl⟩ := okWide_slice ht hv
 obtain ⟨fuel, hf⟩ := h
 rcases open_strings ht he hc hf with ⟨hcs, _⟩ | ⟨x, l, c, zs, hcs, _, hl, hm, hz, _, hcell, hwz⟩
 ·simp [Value.cells] at hcs
  obtain ⟨rfl, rfl, rfl⟩ := hcs
  exact ⟨none, [], 0, rfl, Nat.le_refl _, Nat.zero_le _, .inl rfl, by simp⟩
 ·simp [Value.cells] at hcs
  obtain ⟨rfl, rfl, rfl⟩ := hcs
  simp at hz
  have hlen : (zs.take len0).length = len0 := by rw [List.length_take, hz]; omega
  refine ⟨_, zs.take len0, cap0, by rw [hlen], by rw [hlen]; exact hl, hm, row_of_cells fun i v hv => ?_, fun n hn => hwz n (List.mem_of_mem_take hn)⟩
  rw [List.getElem?_map, List.getElem?_take] at hv
  split at hv
  ·rename_i hi
   have hi' : i < zs.length := by omega
   rw [List.getElem?_eq_getElem hi'] at hv
   simp at hv
   rw [← hv, hcell i hi']
   simp [hi']
  ·cases hv
theorem open_row_bools {t e : TypeId} {v : Value} {d : DataW H} {p : List MemPlace} (ht : P.underlying t = some (.slice e)) (he : P.underlying e = some .bool) (hc : P.cellsOf e = 1)
 (hv : Value.okWide P W .any base t v) (h : DataW.Trod enc P W 0 (fun _ => true) true t v d p) :
 ∃ (A : Option Addr) (l : List Bool) (c : Nat), v = .slice A l.length c ∧ l.length ≤ c ∧ c ≤ maxLen ∧ Row W W.heap.size A (l.map .bool) := by
 obtain ⟨a0, len0, cap0, rfl⟩ := okWide_slice ht hv
 obtain ⟨fuel, hf⟩ := h
 rcases open_bools ht he hc hf with ⟨hcs, _⟩ | ⟨x, l, c, B, hcs, _, hl, hm, _, hcell⟩
 ·simp [Value.cells] at hcs
  obtain ⟨rfl, rfl, rfl⟩ := hcs
  exact ⟨none, [], 0, rfl, Nat.le_refl _, Nat.zero_le _, .inl rfl⟩
 ·simp [Value.cells] at hcs
  obtain ⟨rfl, rfl, rfl⟩ := hcs
  refine ⟨some x, (List.range len0).map B, cap0, by simp, by simpa using hl, hm, row_of_cells fun i v hv => ?_⟩
  rw [List.getElem?_map, List.getElem?_map] at hv
  by_cases hi : i < len0
  ·rw [List.getElem?_range hi] at hv
   simp at hv
   rw [← hv, hcell i (by omega)]
  ·rw [List.getElem?_eq_none (by simpa using hi)] at hv
   cases hv
theorem open_two_ints {t : TypeId} {f0 f1 : Field} {k0 k1 : IntKind} {v : Value} {d : DataW H} {p : List MemPlace} (hs : P.underlying t = some (.struct #[f0, f1])) (hone : oneCellFields P #[f0, f1] = true) (hC : P.cellsOf t = 2)
 (h0 : P.underlying f0.type = some (.int k0)) (h1 : P.underlying f1.type = some (.int k1)) (hv : Value.okWide P W .any base t v) (h : DataW.Trod enc P W 0 (fun _ => true) true t v d p) :
 ∃ a b : Int, v = .agg #[.int k0 a, .int k1 b] ∧ (Lit.int k0 a).wf = true ∧ (Lit.int k1 b).wf = true := by
 obtain ⟨c0, c1, y0, y1, m, rfl, rfl, rfl, hy0, hy1⟩ := open_agg2 hs hone hC hv h
 obtain ⟨a, e0, _, wa⟩ := DataW.trod_int h0 hy0
 obtain ⟨b, e1, _, wb⟩ := DataW.trod_int h1 hy1
 simp at e0 e1
 subst e0 e1
 exact ⟨a, b, rfl, wa, wb⟩
end
end Go.Proofs.YthmbgbmcdbdecaaGreat.Base
namespace Go.Proofs.YthmbgbmcdbdecaaGreat.Base
open Go.ChangeShapes Go.WideShapes Go.ChangeAt Go.RowKit Go.Joins Go.Deep
set_option linter.unusedVariables false
theorem list_of {α : Type} (Q : Nat → α → Prop) (n : Nat) (h : ∀ i, i < n → ∃ a, Q i a) : ∃ l : List α, l.length = n ∧ ∀ i (hi : i < l.length), Q i l[i] := by
 induction n with
 | zero => exact ⟨[], rfl, fun i hi => by simp at hi⟩
 | succ n ih =>
  obtain ⟨l, hl, hq⟩ := ih (fun i hi => h i (by omega))
  obtain ⟨a, ha⟩ := h n (by omega)
  refine ⟨l ++ [a], by simp [hl], fun i hi => ?_⟩
  by_cases hin : i < l.length
  ·rw [List.getElem_append_left hin]
   exact hq i hin
  ·have : i = l.length := by simp at hi; omega
   subst this
   rw [List.getElem_append_right (Nat.le_refl _)]
   simp
   rw [hl]
   exact ha
section
variable {H : Type} {enc : TypeId × Value → H} {P : Program} {W : World} {b0 : Nat} {sp : Nat → Bool} {held : Bool}
theorem field_cell {t : TypeId} {fs : Array Field} {cs : List Value} {fuel : Nat} {x : DataW H × List MemPlace} (hs : P.underlying t = some (.struct fs)) (hone : oneCellFields P fs = true) (hC : P.cellsOf t = fs.size)
 (h : DataW.trod enc P W b0 sp held fuel t cs = some x) (j : Nat) (f : Field) (hj : fs[j]? = some f) : ∃ u n y, cs[j]? = some u ∧ DataW.trod enc P W b0 sp held n f.type [u] = some y := by
 obtain ⟨ys, n, _, _, hl, hyl, hg⟩ := DataW.trod_struct hs h
 obtain ⟨ho, hk⟩ := hone_of hone j f hj
 have hjl : j < fs.size := (Array.getElem?_eq_some_iff.1 hj).1
 have hlt : j < cs.length := by omega
 have h1 := hg j f hj
 have e1 : (cs.drop j).take 1 = [cs[j]] := by rw [List.drop_eq_getElem_cons hlt]; rfl
 rw [ho, hk, e1] at h1
 exact ⟨cs[j], n, ys[j]'(by omega), List.getElem?_eq_getElem hlt, h1.trans (List.getElem?_eq_getElem (by omega))⟩
theorem open_struct_row {t e : TypeId} {fs : Array Field} {cs : List Value} {fuel : Nat} {x : DataW H × List MemPlace} (ht : P.underlying t = some (.slice e)) (he : P.underlying e = some (.struct fs)) (hone : oneCellFields P fs = true) (hC : P.cellsOf e = fs.size)
 (h : DataW.trod enc P W b0 sp held fuel t cs = some x) :
 cs = [.slice none 0 0] ∨ ∃ a len cap, cs = [.slice (some a) len cap] ∧ len ≤ cap ∧ cap ≤ maxLen ∧ ∀ i, i < len → ∀ (j : Nat) (f : Field), fs[j]? = some f → ∃ u n y, W.cell? (a.add (i * fs.size + j)) = some u ∧ DataW.trod enc P W b0 sp held n f.type [u] = some y := by
 rcases open_slice ht h with ⟨h0, _⟩ | ⟨a, len, cap, m, n, D, Pl, hcs, _, hl, hm, hmm, _, hi⟩
 ·exact .inl h0
 ·refine .inr ⟨a, len, cap, hcs, hl, hm, fun i hil j f hj => ?_⟩
  have him : i < m := by rw [hmm]; split <;> omega
  obtain ⟨cs', hc, ht'⟩ := hi i him
  rw [hC] at hc
  obtain ⟨_, hcl, hat⟩ := World.cells?_some hc
  obtain ⟨u, n', y, hu, hy⟩ := field_cell he hone hC ht' j f hj
  have hjl : j < fs.size := (Array.getElem?_eq_some_iff.1 hj).1
  refine ⟨u, n', y, ?_, hy⟩
  rw [← Go.Deep.add_add, hat j hjl, hu]
theorem open_strings_at {t e : TypeId} {v : Value} {fuel : Nat} {x : DataW H × List MemPlace} (ht : P.underlying t = some (.slice e)) (he : P.underlying e = some .string) (hc : P.cellsOf e = 1) (h : DataW.trod enc P W b0 sp held fuel t [v] = some x) :
 ∃ (A : Option Addr) (l : List ByteArray) (c : Nat), v = .slice A l.length c ∧ l.length ≤ c ∧ c ≤ maxLen ∧ Row W W.heap.size A (l.map .string) ∧ ∀ s ∈ l, s.size ≤ maxLen := by
 rcases open_strings ht he hc h with ⟨hcs, _⟩ | ⟨a, len, cap, zs, hcs, _, hl, hm, hz, _, hcell, hwz⟩
 ·injection hcs with hcs _
  exact ⟨none, [], 0, hcs, Nat.le_refl _, Nat.zero_le _, .inl rfl, by simp⟩
 ·injection hcs with hcs _
  have hzl : len ≤ zs.length := by rw [hz]; split <;> omega
  have hlen : (zs.take len).length = len := by rw [List.length_take]; omega
  refine ⟨some a, zs.take len, cap, by rw [hlen]; exact hcs, by rw [hlen]; exact hl, hm, row_of_cells fun i u hu => ?_, fun s hs => hwz s (List.mem_of_mem_take hs)⟩
  rw [List.getElem?_map, List.getElem?_take] at hu
  split at hu
  ·rename_i hi
   have hi' : i < zs.length := by omega
   rw [List.getElem?_eq_getElem hi'] at hu
   simp at hu
   rw [← hu, hcell i hi']
   simp [hi']
  ·cases hu
theorem open_ints_row {t e : TypeId} {v : Value} {fuel : Nat} {x : DataW H × List MemPlace} (ht : P.underlying t = some (.slice e)) (he : P.underlying e = some (.int .i64)) (hc : P.cellsOf e = 1) (h : DataW.trod enc P W b0 sp held fuel t [v] = some x) :
 ∃ (A : Option Addr) (l : List Int) (c : Nat), v = .slice A l.length c ∧ l.length ≤ c ∧ c ≤ maxLen ∧ Row W W.heap.size A (l.map (.int .i64)) := by
 rcases open_ints ht he hc h with ⟨hcs, _⟩ | ⟨a, len, cap, zs, hcs, _, hl, hm, hz, _, hcell, hwz⟩
 ·injection hcs with hcs _
  exact ⟨none, [], 0, hcs, Nat.le_refl _, Nat.zero_le _, .inl rfl⟩
 ·injection hcs with hcs _
  have hzl : len ≤ zs.length := by rw [hz]; split <;> omega
  have hlen : (zs.take len).length = len := by rw [List.length_take]; omega
  refine ⟨some a, zs.take len, cap, by rw [hlen]; exact hcs, by rw [hlen]; exact hl, hm, row_of_cells fun i u hu => ?_⟩
  rw [List.getElem?_map, List.getElem?_take] at hu
  split at hu
  ·rename_i hi
   have hi' : i < zs.length := by omega
   rw [List.getElem?_eq_getElem hi'] at hu
   simp at hu
   rw [← hu, hcell i hi']
   simp [hi']
  ·cases hu
end
end Go.Proofs.YthmbgbmcdbdecaaGreat.Base
namespace Go.Proofs.YthmbgbmcdbdecaaGreat.Tc
open Go.ChangeShapes Go.WideShapes Go.ChangeAt Go.RowKit Go.Joins Go.Deep Base
set_option linter.unusedVariables false
section
variable {α : Type} {f : α → List Value} {k : Nat} (hf : ∀ x, (f x).length = k)
include hf
theorem flat_len (l : List α) : (l.flatMap f).length = l.length * k := by
 induction l with
 | nil => simp
 | cons a l ih => rw [List.flatMap_cons, List.length_append, ih, hf, List.length_cons, Nat.add_mul, Nat.one_mul, Nat.add_comm]
theorem flat_at (l : List α) (i : Nat) (h : i < l.length) (j : Nat) (hj : j < k) : (l.flatMap f)[i * k + j]? = (f l[i])[j]? := by
 induction l generalizing i with
 | nil => simp at h
 | cons a l ih =>
  rw [List.flatMap_cons]
  cases i with
  | zero => rw [Nat.zero_mul, Nat.zero_add, List.getElem?_append_left (by rw [hf]; exact hj)]; rfl
  | succ i =>
   have h' : i < l.length := by simpa using h
   have e : (i + 1) * k + j = k + (i * k + j) := by rw [Nat.add_mul, Nat.one_mul]; omega
   rw [List.getElem?_append_right (by rw [hf, e]; omega), hf, e, Nat.add_sub_cancel_left, ih i h']
   rfl
theorem flat_get (hk : 0 < k) {l : List α} {i : Nat} {v : Value} (h : (l.flatMap f)[i]? = some v) : ∃ hi : i / k < l.length, (f l[i / k])[i % k]? = some v := by
 have hlt : i < (l.flatMap f).length := (List.getElem?_eq_some_iff.1 h).1
 rw [flat_len hf] at hlt
 have hi : i / k < l.length := (Nat.div_lt_iff_lt_mul hk).2 hlt
 refine ⟨hi, ?_⟩
 have e := flat_at hf l (i / k) hi (i % k) (Nat.mod_lt _ hk)
 rw [Nat.mul_comm, Nat.div_add_mod, h] at e
 exact e.symm
theorem Row.rec {w : World} {B : Nat} {A : Option Addr} {l : List α} (h : Row w B A (l.flatMap f)) (hk : 0 < k) (i : Nat) (hi : i < l.length) :
 ∃ b off, A = some ⟨b, off, none⟩ ∧ b < B ∧ ∀ j v, (f l[i])[j]? = some v → w.cell? ⟨b, off + i * k + j, none⟩ = some v := by
 have hl := flat_len hf l
 rcases h with h | ⟨b, off, e, hb, hc⟩
 ·rw [h] at hl
  have h0 : l.length * k = 0 := by simpa using hl.symm
  rcases Nat.mul_eq_zero.1 h0 with h0 | h0 <;> omega
 ·refine ⟨b, off, e, hb, fun j v hv => ?_⟩
  have hj : j < k := by
   have := (List.getElem?_eq_some_iff.1 hv).1
   rw [hf] at this
   exact this
  rw [Nat.add_assoc]
  exact hc _ _ ((flat_at hf l i hi j hj).trans hv)
theorem open_recs {H : Type} {enc : TypeId × Value → H} {P : Program} {W : World} {b0 : Nat} {sp : Nat → Bool} {held : Bool} {t e : TypeId} {fs : Array Field} {v : Value} {fuel : Nat} {x : DataW H × List MemPlace} (Q : α → Prop) (hk : 0 < k)
 (ht : P.underlying t = some (.slice e)) (he : P.underlying e = some (.struct fs)) (hone : oneCellFields P fs = true) (hC : P.cellsOf e = fs.size) (hs : fs.size = k)
 (hrec : ∀ g : Nat → Option Value, (∀ (j : Nat) (fd : Field), fs[j]? = some fd → ∃ u n y, g j = some u ∧ DataW.trod enc P W b0 sp held n fd.type [u] = some y) → ∃ y : α, (∀ j u, (f y)[j]? = some u → g j = some u) ∧ Q y)
 (h : DataW.trod enc P W b0 sp held fuel t [v] = some x) : ∃ (A : Option Addr) (l : List α) (c : Nat), v = .slice A l.length c ∧ l.length ≤ c ∧ c ≤ maxLen ∧ Row W W.heap.size A (l.flatMap f) ∧ ∀ y ∈ l, Q y := by
 rcases open_struct_row ht he hone hC h with hcs | ⟨a, len, cap, hcs, hl, hm, hc⟩
 ·injection hcs with hcs _
  exact ⟨none, [], 0, hcs, Nat.zero_le _, Nat.zero_le _, .inl rfl, by simp⟩
 ·injection hcs with hcs _
  obtain ⟨l, hpl, hq⟩ := list_of (fun i (p : α) => (∀ j u, (f p)[j]? = some u → W.cell? (a.add (i * k + j)) = some u) ∧ Q p) len (fun i hi => hrec (fun j => W.cell? (a.add (i * k + j))) (fun j fd hj => by
   have := hc i hi j fd hj
   rw [hs] at this
   exact this))
  refine ⟨some a, l, cap, by rw [hpl]; exact hcs, by rw [hpl]; exact hl, hm, row_of_cells fun i u hu => ?_, fun p hp => ?_⟩
  ·obtain ⟨hi, hg⟩ := flat_get hf hk hu
   have := (hq (i / k) hi).1 (i % k) u hg
   rw [Nat.mul_comm, Nat.div_add_mod] at this
   exact this
  ·obtain ⟨i, hi, rfl⟩ := List.getElem_of_mem hp
   exact (hq i hi).2
end
structure Tier where
 name : ByteArray
 At : Option Addr
 terms : List ByteArray
 ct : Nat
 Au : Option Addr
 up : List Int
 cu : Nat
def tierV (t : Tier) : List Value := [.string t.name, .slice t.At t.terms.length t.ct, .slice t.Au t.up.length t.cu]
theorem tierV_len (t : Tier) : (tierV t).length = 3 := rfl
structure TierAt (w : World) (B : Nat) (t : Tier) : Prop where
 name : t.name.size ≤ maxLen
 terms : Row w B t.At (t.terms.map .string)
 up : Row w B t.Au (t.up.map (.int .i64))
 nt : t.terms.length ≤ maxLen
 nu : t.up.length ≤ maxLen
 sz : ∀ s ∈ t.terms, s.size ≤ maxLen
structure Dim where
 name : ByteArray
 A : Option Addr
 tiers : List Tier
 c : Nat
def dimV (d : Dim) : List Value := [.string d.name, .slice d.A d.tiers.length d.c]
theorem dimV_len (d : Dim) : (dimV d).length = 2 := rfl
structure DimAt (w : World) (B : Nat) (d : Dim) : Prop where
 name : d.name.size ≤ maxLen
 n : d.tiers.length ≤ maxLen
 row : Row w B d.A (d.tiers.flatMap tierV)
 tiers : ∀ t ∈ d.tiers, TierAt w B t
structure Sch where
 A : Option Addr
 dims : List Dim
 c : Nat
 Am : Option Addr
 meas : List ByteArray
 cm : Nat
def schV (s : Sch) : Value := .agg #[.slice s.A s.dims.length s.c, .slice s.Am s.meas.length s.cm]
structure SchAt (w : World) (B : Nat) (s : Sch) : Prop where
 n : s.dims.length ≤ maxLen
 row : Row w B s.A (s.dims.flatMap dimV)
 dims : ∀ d ∈ s.dims, DimAt w B d
 nm : s.meas.length ≤ maxLen
 meas : Row w B s.Am (s.meas.map .string)
 sz : ∀ x ∈ s.meas, x.size ≤ maxLen
section
variable {w w' : World} {B : Nat}
theorem TierAt.below {t : Tier} (h : TierAt w B t) (hb : Below B w w') : TierAt w' B t := ⟨h.name, h.terms.below hb, h.up.below hb, h.nt, h.nu, h.sz⟩
theorem TierAt.more {t : Tier} {B' : Nat} (h : TierAt w B t) (hB : B ≤ B') : TierAt w B' t := ⟨h.name, h.terms.more hB, h.up.more hB, h.nt, h.nu, h.sz⟩
theorem DimAt.below {d : Dim} (h : DimAt w B d) (hb : Below B w w') : DimAt w' B d := ⟨h.name, h.n, h.row.below hb, fun t ht => (h.tiers t ht).below hb⟩
theorem DimAt.more {d : Dim} {B' : Nat} (h : DimAt w B d) (hB : B ≤ B') : DimAt w B' d := ⟨h.name, h.n, h.row.more hB, fun t ht => (h.tiers t ht).more hB⟩
theorem SchAt.below {s : Sch} (h : SchAt w B s) (hb : Below B w w') : SchAt w' B s := ⟨h.n, h.row.below hb, fun d hd => (h.dims d hd).below hb, h.nm, h.meas.below hb, h.sz⟩
theorem SchAt.more {s : Sch} {B' : Nat} (h : SchAt w B s) (hB : B ≤ B') : SchAt w B' s := ⟨h.n, h.row.more hB, fun d hd => (h.dims d hd).more hB, h.nm, h.meas.more hB, h.sz⟩
end
theorem DimAt.tier {w : World} {B : Nat} {d : Dim} (h : DimAt w B d) (k : Nat) (hk : k < d.tiers.length) :
 ∃ b off, d.A = some ⟨b, off, none⟩ ∧ b < B ∧ w.cell? ⟨b, off + k * 3, none⟩ = some (.string d.tiers[k].name) ∧ w.cell? ⟨b, off + k * 3 + 1, none⟩ = some (.slice d.tiers[k].At d.tiers[k].terms.length d.tiers[k].ct) ∧ w.cell? ⟨b, off + k * 3 + 2, none⟩ = some (.slice d.tiers[k].Au d.tiers[k].up.length d.tiers[k].cu) := by
 obtain ⟨b, off, e, hb, hc⟩ := Row.rec tierV_len h.row (by omega) k hk
 exact ⟨b, off, e, hb, hc 0 _ rfl, hc 1 _ rfl, hc 2 _ rfl⟩
theorem SchAt.dim {w : World} {B : Nat} {s : Sch} (h : SchAt w B s) (k : Nat) (hk : k < s.dims.length) :
 ∃ b off, s.A = some ⟨b, off, none⟩ ∧ b < B ∧ w.cell? ⟨b, off + k * 2, none⟩ = some (.string s.dims[k].name) ∧ w.cell? ⟨b, off + k * 2 + 1, none⟩ = some (.slice s.dims[k].A s.dims[k].tiers.length s.dims[k].c) := by
 obtain ⟨b, off, e, hb, hc⟩ := Row.rec dimV_len h.row (by omega) k hk
 exact ⟨b, off, e, hb, hc 0 _ rfl, hc 1 _ rfl⟩
structure Rw where
 A : Option Addr
 terms : List ByteArray
 c : Nat
 Av : Option Addr
 vals : List Int
 cv : Nat
def rwV (r : Rw) : List Value := [.slice r.A r.terms.length r.c, .slice r.Av r.vals.length r.cv]
theorem rwV_len (r : Rw) : (rwV r).length = 2 := rfl
structure RwAt (w : World) (B : Nat) (r : Rw) : Prop where
 n : r.terms.length ≤ maxLen
 terms : Row w B r.A (r.terms.map .string)
 sz : ∀ s ∈ r.terms, s.size ≤ maxLen
 nv : r.vals.length ≤ maxLen
 vals : Row w B r.Av (r.vals.map (.int .i64))
 wf : ∀ n ∈ r.vals, (Lit.int .i64 n).wf = true
theorem RwAt.below {w w' : World} {B : Nat} {r : Rw} (h : RwAt w B r) (hb : Below B w w') : RwAt w' B r := ⟨h.n, h.terms.below hb, h.sz, h.nv, h.vals.below hb, h.wf⟩
theorem RwAt.more {w : World} {B B' : Nat} {r : Rw} (h : RwAt w B r) (hB : B ≤ B') : RwAt w B' r := ⟨h.n, h.terms.more hB, h.sz, h.nv, h.vals.more hB, h.wf⟩
structure Pos where
 tier : Int
 key : Int
def posV (p : Pos) : List Value := [.int .i64 p.tier, .int .i64 p.key]
theorem posV_len (p : Pos) : (posV p).length = 2 := rfl
section
variable {H : Type} {enc : TypeId × Value → H} {W : World} {b0 : Nat} {sp : Nat → Bool} {held : Bool} {fuel : Nat} {x : DataW H × List MemPlace} {v : Value}
theorem open_tiers (h : DataW.trod enc Tryz.prog W b0 sp held fuel 59 [v] = some x) :
 ∃ (A : Option Addr) (l : List Tier) (c : Nat), v = .slice A l.length c ∧ l.length ≤ c ∧ c ≤ maxLen ∧ Row W W.heap.size A (l.flatMap tierV) ∧ ∀ t ∈ l, TierAt W W.heap.size t := by
 refine open_recs tierV_len (TierAt W W.heap.size) (by omega) Tryz.underlying59 Tryz.underlying63 (by kernel_rfl) (by kernel_rfl) rfl (fun g hg => ?_) h
 obtain ⟨u0, n0, y0, c0, t0⟩ := hg 0 _ rfl
 obtain ⟨z0, e0, _, hs0⟩ := DataW.trod_string Tryz.underlying9 t0
 obtain ⟨u1, n1, y1, c1, t1⟩ := hg 1 _ rfl
 obtain ⟨A1, l1, k1, rfl, hl1, hm1, hr1, hs1⟩ := open_strings_at Tryz.underlying23 Tryz.underlying9 (by kernel_rfl) t1
 obtain ⟨u2, n2, y2, c2, t2⟩ := hg 2 _ rfl
 obtain ⟨A2, l2, k2, rfl, hl2, hm2, hr2⟩ := open_ints_row Tryz.underlying41 Tryz.underlying3 (by kernel_rfl) t2
 injection e0 with e0 _
 subst e0
 refine ⟨⟨z0, A1, l1, k1, A2, l2, k2⟩, fun j u hj => ?_, hs0, hr1, hr2, Nat.le_trans hl1 hm1, Nat.le_trans hl2 hm2, hs1⟩
 match j, hj with
 | 0, hj => injection hj with hj; subst hj; exact c0
 | 1, hj => injection hj with hj; subst hj; exact c1
 | 2, hj => injection hj with hj; subst hj; exact c2
 | j + 3, hj => simp [tierV] at hj
theorem open_dims (h : DataW.trod enc Tryz.prog W b0 sp held fuel 22 [v] = some x) :
 ∃ (A : Option Addr) (l : List Dim) (c : Nat), v = .slice A l.length c ∧ l.length ≤ c ∧ c ≤ maxLen ∧ Row W W.heap.size A (l.flatMap dimV) ∧ ∀ t ∈ l, DimAt W W.heap.size t := by
 refine open_recs dimV_len (DimAt W W.heap.size) (by omega) Tryz.underlying22 Tryz.underlying61 (by kernel_rfl) (by kernel_rfl) rfl (fun g hg => ?_) h
 obtain ⟨u0, n0, y0, c0, t0⟩ := hg 0 _ rfl
 obtain ⟨z0, e0, _, hs0⟩ := DataW.trod_string Tryz.underlying9 t0
 obtain ⟨u1, n1, y1, c1, t1⟩ := hg 1 _ rfl
 obtain ⟨A1, l1, k1, rfl, hl1, hm1, hr1, hs1⟩ := open_tiers t1
 injection e0 with e0 _
 subst e0
 refine ⟨⟨z0, A1, l1, k1⟩, fun j u hj => ?_, hs0, Nat.le_trans hl1 hm1, hr1, hs1⟩
 match j, hj with
 | 0, hj => injection hj with hj; subst hj; exact c0
 | 1, hj => injection hj with hj; subst hj; exact c1
 | j + 2, hj => simp [dimV] at hj
theorem open_wf_ints {t e : TypeId} (ht : Tryz.prog.underlying t = some (.slice e)) (he : Tryz.prog.underlying e = some (.int .i64)) (hc : Tryz.prog.cellsOf e = 1) (h : DataW.trod enc Tryz.prog W b0 sp held fuel t [v] = some x) :
 ∃ (A : Option Addr) (l : List Int) (c : Nat), v = .slice A l.length c ∧ l.length ≤ c ∧ c ≤ maxLen ∧ Row W W.heap.size A (l.map (.int .i64)) ∧ ∀ n ∈ l, (Lit.int .i64 n).wf = true := by
 rcases open_ints ht he hc h with ⟨hcs, _⟩ | ⟨a, len, cap, zs, hcs, _, hl, hm, hz, _, hcell, hwz⟩
 ·injection hcs with hcs _
  exact ⟨none, [], 0, hcs, Nat.le_refl _, Nat.zero_le _, .inl rfl, by simp⟩
 ·injection hcs with hcs _
  have hzl : len ≤ zs.length := by rw [hz]; split <;> omega
  have hlen : (zs.take len).length = len := by rw [List.length_take]; omega
  refine ⟨some a, zs.take len, cap, by rw [hlen]; exact hcs, by rw [hlen]; exact hl, hm, row_of_cells fun i u hu => ?_, fun n hn => hwz n (List.mem_of_mem_take hn)⟩
  rw [List.getElem?_map, List.getElem?_take] at hu
  split at hu
  ·rename_i hi
   have hi' : i < zs.length := by omega
   rw [List.getElem?_eq_getElem hi'] at hu
   simp at hu
   rw [← hu, hcell i hi']
   simp [hi']
  ·cases hu
theorem open_rws (h : DataW.trod enc Tryz.prog W b0 sp held fuel 26 [v] = some x) :
 ∃ (A : Option Addr) (l : List Rw) (c : Nat), v = .slice A l.length c ∧ l.length ≤ c ∧ c ≤ maxLen ∧ Row W W.heap.size A (l.flatMap rwV) ∧ ∀ t ∈ l, RwAt W W.heap.size t := by
 refine open_recs rwV_len (RwAt W W.heap.size) (by omega) Tryz.underlying26 Tryz.underlying73 (by kernel_rfl) (by kernel_rfl) rfl (fun g hg => ?_) h
 obtain ⟨u0, n0, y0, c0, t0⟩ := hg 0 _ rfl
 obtain ⟨A0, l0, k0, rfl, hl0, hm0, hr0, hs0⟩ := open_strings_at Tryz.underlying23 Tryz.underlying9 (by kernel_rfl) t0
 obtain ⟨u1, n1, y1, c1, t1⟩ := hg 1 _ rfl
 obtain ⟨A1, l1, k1, rfl, hl1, hm1, hr1, hs1⟩ := open_wf_ints Tryz.underlying71 Tryz.underlying2 (by kernel_rfl) t1
 refine ⟨⟨A0, l0, k0, A1, l1, k1⟩, fun j u hj => ?_, Nat.le_trans hl0 hm0, hr0, hs0, Nat.le_trans hl1 hm1, hr1, hs1⟩
 match j, hj with
 | 0, hj => injection hj with hj; subst hj; exact c0
 | 1, hj => injection hj with hj; subst hj; exact c1
 | j + 2, hj => simp [rwV] at hj
theorem open_poss (h : DataW.trod enc Tryz.prog W b0 sp held fuel 27 [v] = some x) :
 ∃ (A : Option Addr) (l : List Pos) (c : Nat), v = .slice A l.length c ∧ l.length ≤ c ∧ c ≤ maxLen ∧ Row W W.heap.size A (l.flatMap posV) ∧ ∀ t ∈ l, True := by
 refine open_recs posV_len (fun _ => True) (by omega) Tryz.underlying27 Tryz.underlying58 (by kernel_rfl) (by kernel_rfl) rfl (fun g hg => ?_) h
 obtain ⟨u0, n0, y0, c0, t0⟩ := hg 0 _ rfl
 obtain ⟨z0, e0, _, _⟩ := DataW.trod_int Tryz.underlying3 t0
 obtain ⟨u1, n1, y1, c1, t1⟩ := hg 1 _ rfl
 obtain ⟨z1, e1, _, _⟩ := DataW.trod_int Tryz.underlying3 t1
 injection e0 with e0 _
 injection e1 with e1 _
 subst e0 e1
 refine ⟨⟨z0, z1⟩, fun j u hj => ?_, trivial⟩
 match j, hj with
 | 0, hj => injection hj with hj; subst hj; exact c0
 | 1, hj => injection hj with hj; subst hj; exact c1
 | j + 2, hj => simp [posV] at hj
set_option maxRecDepth 100000 in
theorem open_sch {base : Nat} {d : DataW H} {p : List MemPlace} (hv : Value.okWide Tryz.prog W .any base 25 v) (h : DataW.Trod enc Tryz.prog W 0 (fun _ => true) true 25 v d p) : ∃ s, v = schV s ∧ SchAt W W.heap.size s := by
 obtain ⟨cs, rfl, hsz⟩ := okWide_struct Tryz.underlying25 hv
 have hz : cs.size = 2 := hsz.trans (by kernel_rfl)
 obtain ⟨l⟩ := cs
 match l, hz with
 | [v0, v1], _ =>
  obtain ⟨fuel, hf⟩ := h
  obtain ⟨u, n, y, hu, hy⟩ := field_cell Tryz.underlying25 (by kernel_rfl) (by kernel_rfl) hf 0 _ rfl
  obtain ⟨u', n', y', hu', hy'⟩ := field_cell Tryz.underlying25 (by kernel_rfl) (by kernel_rfl) hf 1 _ rfl
  simp [Value.cells] at hu hu'
  subst hu hu'
  obtain ⟨A, l, c, rfl, hl, hm, hr, hs⟩ := open_dims hy
  obtain ⟨A', l', c', rfl, hl', hm', hr', hs'⟩ := open_strings_at Tryz.underlying23 Tryz.underlying9 (by kernel_rfl) hy'
  exact ⟨⟨A, l, c, A', l', c'⟩, rfl, Nat.le_trans hl hm, hr, hs, Nat.le_trans hl' hm', hr', hs'⟩
end
end Go.Proofs.YthmbgbmcdbdecaaGreat.Tc
