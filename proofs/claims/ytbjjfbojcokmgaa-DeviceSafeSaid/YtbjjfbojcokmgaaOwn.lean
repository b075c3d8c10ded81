/- append(s, x) of one element onto a row of the call's own, in one law; and appends of a whole slice. -/
import Derived.Test.YtbjjfbojcokmgaaBase
namespace Go.Proofs.Ytbjjfbojcokmgaa.Base
open Go.RowKit

/-- what an append onto v (now v') leaves: only v's row, and what is new, has turned; where v' lies -/
structure App (wr w' : World) (v v' : Value) : Prop where
  grown : wr.grownBy w' v.ownBlock
  lies : v'.ownBlock = v.ownBlock ∨ ∃ k, v'.ownBlock = some k ∧ wr.heap.size ≤ k

section
variable {P : Program}
theorem wpList_append1 {ops : Array Oper} {rest : List Oper} {o : Oper} {a : Act} {Q : Exit → Act → World → Prop} (hgd : o.guard = none) (s x : Operand) (t : TypeId)
    (ho : o.op = .call { callee := .builtin .append, args := #[s, x], argTypes := #[t, t] })
    (base : Nat) (e : TypeId) (i : TypeInfo) (z : Value) (bytes : Nat) (ht : P.underlying t = some (.slice e)) (hi : P.info? e = some i) (hz : i.zero = some z)
    (hsize : i.size = 1) (hby : i.bytes = bytes) (hzs : z.cells.size = 1)
    (wr : World) (u : Value) (hu : u.oneCell' = true) (v : Value) (n : Nat) (xs : List Value) (hs : a.eval s = v) (hown : wr.ownsRow base e 1 v n xs)
    (hx : a.eval x = .slice (some ⟨wr.heap.size, 0, none⟩) 1 1)
    (hn : n < 1048576 * 64) (hb : bytes ≤ 256) (hbase : base ≤ wr.heap.size)
    (h : ∀ v' w', w'.ownsRow base e 1 v' (n + 1) (xs ++ [u]) → App wr w' v v' → wpList P ops Q rest (a.put o.dst v') w') :
    wpList P ops Q (o :: rest) a (wr.alloc (.cells #[u] e)) := by
  refine wpList_append_own_at _ hgd s x t ho base e i z 1 bytes ht hi hz hsize hby hzs (by decide) v n xs hs (hown.alloc _) ⟨wr.heap.size, 0, none⟩ 1 1 [u] hx rfl (cell_one_new _ _ _) ?_ ?_ ?_ ?_ ?_
  · intro y hy
    simp at hy
    subst hy
    exact hu
  · unfold maxLen; omega
  · have : (n + 1) * bytes ≤ (1048576 * 64) * 256 := Nat.mul_le_mul (by omega) hb
    omega
  · simp; omega
  · intro v' w' h1 h2 _ h4
    refine h v' w' h1 ⟨⟨h2.os, h2.tape, h2.output, Nat.le_trans (by simp) h2.size, fun k hk hne => (h2.block k (by simp; omega) hne).trans (Below.heap_alloc _ _ _ hk)⟩, ?_⟩
    rcases h4 with h4 | h4
    · exact .inl h4
    · exact .inr ⟨_, h4, by simp⟩
theorem wp_append1 {o : Oper} {a : Act} {K : Act → World → Prop} {Q : Exit → Act → World → Prop} (s x : Operand) (t : TypeId)
    (ho : o.op = .call { callee := .builtin .append, args := #[s, x], argTypes := #[t, t] })
    (base : Nat) (e : TypeId) (i : TypeInfo) (z : Value) (bytes : Nat) (ht : P.underlying t = some (.slice e)) (hi : P.info? e = some i) (hz : i.zero = some z)
    (hsize : i.size = 1) (hby : i.bytes = bytes) (hzs : z.cells.size = 1)
    (wr : World) (u : Value) (hu : u.oneCell' = true) (v : Value) (n : Nat) (xs : List Value) (hs : a.eval s = v) (hown : wr.ownsRow base e 1 v n xs)
    (hx : a.eval x = .slice (some ⟨wr.heap.size, 0, none⟩) 1 1)
    (hn : n < 1048576 * 64) (hb : bytes ≤ 256) (hbase : base ≤ wr.heap.size)
    (h : ∀ v' w', w'.ownsRow base e 1 v' (n + 1) (xs ++ [u]) → App wr w' v v' → K (a.put o.dst v') w') :
    o.wp P a (wr.alloc (.cells #[u] e)) K Q := by
  obtain ⟨v', w', hr, h2, h3, _, h5⟩ := run_append_own_at (P := P) (wr.alloc (.cells #[u] e)) base t o.type e i z 1 bytes ht hi hz hsize hby hzs (by decide) v n xs (hown.alloc _) ⟨wr.heap.size, 0, none⟩ 1 1 [u] rfl (cell_one_new _ _ _)
    (by intro y hy; simp at hy; subst hy; exact hu) (by unfold maxLen; omega) (by have : (n + 1) * bytes ≤ (1048576 * 64) * 256 := Nat.mul_le_mul (by omega) hb; omega) (by simp; omega)
  unfold Oper.wp execOp
  simp only [ho, resolve, invoke, builtin, Sem.run_bind, Sem.run_pure, Result.andThen_ok, List.map_toArray, List.map_cons, List.map_nil, hs, hx, hr]
  refine h v' w' h2 ⟨⟨h3.os, h3.tape, h3.output, Nat.le_trans (by simp) h3.size, fun k hk hne => (h3.block k (by simp; omega) hne).trans (Below.heap_alloc _ _ _ hk)⟩, ?_⟩
  rcases h5 with h5 | h5
  · exact .inl h5
  · exact .inr ⟨_, h5, by simp⟩
theorem step_append1 {ops : Array Oper} {o : Oper} {a : Act} {K : Act → World → Prop} {Q : Exit → Act → World → Prop} {E : Prop} (hgd : o.guard = none) (s x : Operand) (t : TypeId)
    (ho : o.op = .call { callee := .builtin .append, args := #[s, x], argTypes := #[t, t] })
    (base : Nat) (e : TypeId) (i : TypeInfo) (z : Value) (bytes : Nat) (ht : P.underlying t = some (.slice e)) (hi : P.info? e = some i) (hz : i.zero = some z)
    (hsize : i.size = 1) (hby : i.bytes = bytes) (hzs : z.cells.size = 1)
    (wr : World) (u : Value) (hu : u.oneCell' = true) (v : Value) (n : Nat) (xs : List Value) (hs : a.eval s = v) (hown : wr.ownsRow base e 1 v n xs)
    (hx : a.eval x = .slice (some ⟨wr.heap.size, 0, none⟩) 1 1)
    (hn : n < 1048576 * 64) (hb : bytes ≤ 256) (hbase : base ≤ wr.heap.size)
    (h : ∀ v' w', w'.ownsRow base e 1 v' (n + 1) (xs ++ [u]) → App wr w' v v' → K (a.put o.dst v') w') :
    if Region.wanted o (yielded ops a.tmps) = true then o.wp P a (wr.alloc (.cells #[u] e)) K Q else E := by
  have hw : Region.wanted o (yielded ops a.tmps) = true := by simp [Region.wanted, hgd]
  rw [if_pos hw]
  exact wp_append1 s x t ho base e i z bytes ht hi hz hsize hby hzs wr u hu v n xs hs hown hx hn hb hbase h
end

section
variable {wr w' : World} {v v' : Value}
theorem App.below {B : Nat} {a : World} {base : Nat} {e : TypeId} {n : Nat} {xs : List Value} (h : App wr w' v v') (hb : Below B a wr) (hown : wr.ownsRow base e 1 v n xs) (hB : B ≤ base) (hs : B ≤ wr.heap.size) : Below B a w' := below_own hb hown hB hs h.grown
theorem App.box {g : Nat} {t : TypeId} {cs : Array Value} {base : Nat} {e : TypeId} {n : Nat} {xs : List Value} (h : App wr w' v v') (hb : Box wr g t cs) (hown : wr.ownsRow base e 1 v n xs) (hg : g < base) : Box w' g t cs := by
  refine hb.grown h.grown fun hh => ?_
  have := (own_lt hown hh.symm).1
  omega
theorem App.other {u : Value} {base : Nat} {e : TypeId} {m : Nat} {ys : List Value} (h : App wr w' v v') (hu : wr.ownsRow base e 1 u m ys) (hap : Apart u v) : w'.ownsRow base e 1 u m ys := hu.kept h.grown hap
theorem App.apart {u : Value} {base : Nat} {e : TypeId} {m : Nat} {ys : List Value} (h : App wr w' v v') (hu : wr.ownsRow base e 1 u m ys) (hap : Apart u v) : Apart u v' := by
  rcases h.lies with hat | ⟨k, hat, hk⟩
  · unfold Apart; rw [hat]; exact hap
  · rcases hb : u.ownBlock with _ | j
    · exact .inl hb
    · refine .inr ?_
      rw [hb, hat]
      have := (own_lt hu hb).2
      intro hh
      injection hh with hh
      omega
theorem App.row {B : Nat} {A : Option Addr} {vs : List Value} {base : Nat} {e : TypeId} {n : Nat} {xs : List Value} (h : App wr w' v v') (hr : Row wr B A vs) (hown : wr.ownsRow base e 1 v n xs) (hB : B ≤ base) (hs : B ≤ wr.heap.size) : Row w' B A vs :=
  hr.below (App.below h (Below.refl _ _) hown hB hs)
end
end Go.Proofs.Ytbjjfbojcokmgaa.Base
