/- Parts of a proof: append of a whole slice of elements of so many cells each. append(s, x) of one element of so many cells onto a row of the call's own. Layers 19 and 20: facts, as they lie in memory; the document's facts of a batch. -/
import Derived.Test.YthmbgbmcdbdecaaGreatG01
import Derived.Test.YthmbgbmcdbdecaaGreatG06
namespace Go.Proofs.YthmbgbmcdbdecaaGreat.Base
open Go.RowKit
set_option linter.unusedVariables false
section
variable {P : Program}
theorem run_append_void (w : World) (base : Nat) (t ty e : TypeId) (i : TypeInfo) (size c : Nat) (ht : P.underlying t = some (.slice e)) (hi : P.info? e = some i)
 (v : Value) (n : Nat) (xs : List Value) (hown : w.ownsRow base e size v n xs) :
 (Builtin.append_ #[t, t] ty #[v, .slice none 0 c]).run P w = .ok v w := by
 rcases hown.2 with ⟨rfl, rfl⟩ | ⟨g, cap, cur, rfl, _, _, hnc, _⟩
 ·simp [Builtin.append_, run_underlying ht, sizeOf, typeInfo, hi, Builtin.lenOf, Builtin.firstCells]
 ·simp [Builtin.append_, run_underlying ht, sizeOf, typeInfo, hi, Builtin.lenOf, Builtin.firstCells, hnc, storeCells]
theorem run_append_rows (w : World) (base : Nat) (t ty e : TypeId) (i : TypeInfo) (z : Value) (size bytes : Nat) (ht : P.underlying t = some (.slice e)) (hi : P.info? e = some i) (hz : i.zero = some z)
 (hsize : i.size = size) (hby : i.bytes = bytes) (hzs : z.cells.size = size) (hsz : 0 < size)
 (v : Value) (n : Nat) (xs : List Value) (hown : w.ownsRow base e size v n xs) (A : Option Addr) (m c B : Nat) (news : List Value) (hl : news.length = m * size) (hr : Row w B A news) (h1 : ∀ u ∈ news, u.oneCell' = true)
 (hn : n + m < 1048576 * 64) (hb : bytes ≤ 256) (hbase : base ≤ w.heap.size) :
 ∃ v' w', (Builtin.append_ #[t, t] ty #[v, .slice A m c]).run P w = .ok v' w' ∧ w'.ownsRow base e size v' (n + m) (xs ++ news) ∧ App w w' v v' := by
 rcases A with _ | ⟨b, off, p⟩
 ·have hnil : news = [] := by
   rcases hr with hr | ⟨b, off, hh, _⟩
   ·exact hr
   ·cases hh
  subst hnil
  obtain rfl : m = 0 := by
   have h0 : m * size = 0 := by simpa using hl.symm
   rcases Nat.mul_eq_zero.1 h0 with h | h
   ·exact h
   ·omega
  refine ⟨v, w, run_append_void w base t ty e i size c ht hi v n xs hown, by simpa using hown, ⟨World.grownBy.refl w _, .inl rfl⟩⟩
 ·have hcell : ∀ j u, news[j]? = some u → w.cell? ((⟨b, off, p⟩ : Addr).add j) = some u := by
   intro j u hj
   rcases hr with rfl | ⟨b', off', hh, _, hc⟩
   ·simp at hj
   ·simp only [Option.some.injEq, Addr.mk.injEq] at hh
    obtain ⟨rfl, rfl, rfl⟩ := hh
    rw [add_at]
    exact hc j u hj
  obtain ⟨v', w', hr, h2, h3, _, h5⟩ := run_append_own_at (P := P) w base t ty e i z size bytes ht hi hz hsize hby hzs hsz v n xs hown ⟨b, off, p⟩ m c news hl hcell h1 (by unfold maxLen; omega)
   (by have : (n + m) * bytes ≤ (1048576 * 64) * 256 := Nat.mul_le_mul (by omega) hb; omega) hbase
  refine ⟨v', w', hr, h2, h3, ?_⟩
  rcases h5 with h5 | h5
  ·exact .inl h5
  ·exact .inr ⟨_, h5, Nat.le_refl _⟩
theorem wp_append_rows {o : Oper} {a : Act} {K : Act → World → Prop} {Q : Exit → Act → World → Prop} (s x : Operand) (t : TypeId)
 (ho : o.op = .call { callee := .builtin .append, args := #[s, x], argTypes := #[t, t] })
 (base : Nat) (e : TypeId) (i : TypeInfo) (z : Value) (size bytes : Nat) (ht : P.underlying t = some (.slice e)) (hi : P.info? e = some i) (hz : i.zero = some z)
 (hsize : i.size = size) (hby : i.bytes = bytes) (hzs : z.cells.size = size) (hsz : 0 < size)
 (w : World) (v : Value) (n : Nat) (xs : List Value) (hs : a.eval s = v) (hown : w.ownsRow base e size v n xs)
 (A : Option Addr) (m c B : Nat) (news : List Value) (hx : a.eval x = .slice A m c) (hl : news.length = m * size) (hr : Row w B A news) (h1 : ∀ u ∈ news, u.oneCell' = true)
 (hn : n + m < 1048576 * 64) (hb : bytes ≤ 256) (hbase : base ≤ w.heap.size)
 (h : ∀ v' w', w'.ownsRow base e size v' (n + m) (xs ++ news) → App w w' v v' → K (a.put o.dst v') w') :
 o.wp P a w K Q := by
 obtain ⟨v', w', hrun, h2, h3⟩ := run_append_rows (P := P) w base t o.type e i z size bytes ht hi hz hsize hby hzs hsz v n xs hown A m c B news hl hr h1 hn hb hbase
 unfold Oper.wp execOp
 simp only [ho, resolve, invoke, builtin, Sem.run_bind, Sem.run_pure, Result.andThen_ok, List.map_toArray, List.map_cons, List.map_nil, hs, hx, hrun]
 exact h v' w' h2 h3
theorem wpList_append_rows {ops : Array Oper} {rest : List Oper} {o : Oper} {a : Act} {Q : Exit → Act → World → Prop} (hgd : o.guard = none) (s x : Operand) (t : TypeId)
 (ho : o.op = .call { callee := .builtin .append, args := #[s, x], argTypes := #[t, t] })
 (base : Nat) (e : TypeId) (i : TypeInfo) (z : Value) (size bytes : Nat) (ht : P.underlying t = some (.slice e)) (hi : P.info? e = some i) (hz : i.zero = some z)
 (hsize : i.size = size) (hby : i.bytes = bytes) (hzs : z.cells.size = size) (hsz : 0 < size)
 (w : World) (v : Value) (n : Nat) (xs : List Value) (hs : a.eval s = v) (hown : w.ownsRow base e size v n xs)
 (A : Option Addr) (m c B : Nat) (news : List Value) (hx : a.eval x = .slice A m c) (hl : news.length = m * size) (hr : Row w B A news) (h1 : ∀ u ∈ news, u.oneCell' = true)
 (hn : n + m < 1048576 * 64) (hb : bytes ≤ 256) (hbase : base ≤ w.heap.size)
 (h : ∀ v' w', w'.ownsRow base e size v' (n + m) (xs ++ news) → App w w' v v' → wpList P ops Q rest (a.put o.dst v') w') :
 wpList P ops Q (o :: rest) a w := by
 refine wpList_plain hgd fun K hK => ?_
 exact wp_append_rows s x t ho base e i z size bytes ht hi hz hsize hby hzs hsz w v n xs hs hown A m c B news hx hl hr h1 hn hb hbase fun v' w' h2 h3 => hK _ _ (h v' w' h2 h3)
end
section
variable {P : Program}
theorem app_alloc {wr w' : World} {o : Obj} {v v' : Value} (h : App (wr.alloc o) w' v v') : App wr w' v v' := by
 have h2 := h.grown
 refine ⟨⟨h2.os, h2.tape, h2.output, Nat.le_trans (by simp) h2.size, fun k hk hne => (h2.block k (by simp; omega) hne).trans (Below.heap_alloc _ _ _ hk)⟩, ?_⟩
 rcases h.lies with h4 | ⟨k, h4, h5⟩
 ·exact .inl h4
 ·exact .inr ⟨k, h4, Nat.le_trans (by simp) h5⟩
theorem row_new (wr : World) (cs : Array Value) (e : TypeId) : Row (wr.alloc (.cells cs e)) (wr.alloc (.cells cs e)).heap.size (some ⟨wr.heap.size, 0, none⟩) cs.toList := by
 refine .inr ⟨_, 0, rfl, by simp, fun i v hv => ?_⟩
 rw [(Box.new wr e cs).cell (0 + i), Nat.zero_add]
 simpa using hv
theorem wp_appK {o : Oper} {a : Act} {K : Act → World → Prop} {Q : Exit → Act → World → Prop} (s x : Operand) (t : TypeId)
 (ho : o.op = .call { callee := .builtin .append, args := #[s, x], argTypes := #[t, t] })
 (base : Nat) (e : TypeId) (i : TypeInfo) (z : Value) (size bytes : Nat) (ht : P.underlying t = some (.slice e)) (hi : P.info? e = some i) (hz : i.zero = some z)
 (hsize : i.size = size) (hby : i.bytes = bytes) (hzs : z.cells.size = size) (hsz : 0 < size)
 (wr : World) (cs : Array Value) (hcs : cs.size = size) (hc1 : ∀ u ∈ cs.toList, u.oneCell' = true) (v : Value) (n : Nat) (xs : List Value) (hs : a.eval s = v) (hown : wr.ownsRow base e size v n xs)
 (hx : a.eval x = .slice (some ⟨wr.heap.size, 0, none⟩) 1 1)
 (hn : n + 1 < 1048576 * 64) (hb : bytes ≤ 256) (hbase : base ≤ wr.heap.size)
 (h : ∀ v' w', w'.ownsRow base e size v' (n + 1) (xs ++ cs.toList) → App wr w' v v' → K (a.put o.dst v') w') :
 o.wp P a (wr.alloc (.cells cs e)) K Q :=
 wp_append_rows s x t ho base e i z size bytes ht hi hz hsize hby hzs hsz _ v n xs hs (hown.alloc _) _ 1 1 _ cs.toList hx (by simp [hcs]) (row_new wr cs e) hc1 hn hb (by simp; omega) fun v' w' h2 h3 => h v' w' h2 (app_alloc h3)
theorem wpList_appK {ops : Array Oper} {rest : List Oper} {o : Oper} {a : Act} {Q : Exit → Act → World → Prop} (hgd : o.guard = none) (s x : Operand) (t : TypeId)
 (ho : o.op = .call { callee := .builtin .append, args := #[s, x], argTypes := #[t, t] })
 (base : Nat) (e : TypeId) (i : TypeInfo) (z : Value) (size bytes : Nat) (ht : P.underlying t = some (.slice e)) (hi : P.info? e = some i) (hz : i.zero = some z)
 (hsize : i.size = size) (hby : i.bytes = bytes) (hzs : z.cells.size = size) (hsz : 0 < size)
 (wr : World) (cs : Array Value) (hcs : cs.size = size) (hc1 : ∀ u ∈ cs.toList, u.oneCell' = true) (v : Value) (n : Nat) (xs : List Value) (hs : a.eval s = v) (hown : wr.ownsRow base e size v n xs)
 (hx : a.eval x = .slice (some ⟨wr.heap.size, 0, none⟩) 1 1)
 (hn : n + 1 < 1048576 * 64) (hb : bytes ≤ 256) (hbase : base ≤ wr.heap.size)
 (h : ∀ v' w', w'.ownsRow base e size v' (n + 1) (xs ++ cs.toList) → App wr w' v v' → wpList P ops Q rest (a.put o.dst v') w') :
 wpList P ops Q (o :: rest) a (wr.alloc (.cells cs e)) := by
 refine wpList_plain hgd fun K hK => ?_
 exact wp_appK s x t ho base e i z size bytes ht hi hz hsize hby hzs hsz wr cs hcs hc1 v n xs hs hown hx hn hb hbase fun v' w' h2 h3 => hK _ _ (h v' w' h2 h3)
theorem step_appK {ops : Array Oper} {o : Oper} {a : Act} {K : Act → World → Prop} {Q : Exit → Act → World → Prop} {E : Prop} (hgd : o.guard = none) (s x : Operand) (t : TypeId)
 (ho : o.op = .call { callee := .builtin .append, args := #[s, x], argTypes := #[t, t] })
 (base : Nat) (e : TypeId) (i : TypeInfo) (z : Value) (size bytes : Nat) (ht : P.underlying t = some (.slice e)) (hi : P.info? e = some i) (hz : i.zero = some z)
 (hsize : i.size = size) (hby : i.bytes = bytes) (hzs : z.cells.size = size) (hsz : 0 < size)
 (wr : World) (cs : Array Value) (hcs : cs.size = size) (hc1 : ∀ u ∈ cs.toList, u.oneCell' = true) (v : Value) (n : Nat) (xs : List Value) (hs : a.eval s = v) (hown : wr.ownsRow base e size v n xs)
 (hx : a.eval x = .slice (some ⟨wr.heap.size, 0, none⟩) 1 1)
 (hn : n + 1 < 1048576 * 64) (hb : bytes ≤ 256) (hbase : base ≤ wr.heap.size)
 (h : ∀ v' w', w'.ownsRow base e size v' (n + 1) (xs ++ cs.toList) → App wr w' v v' → K (a.put o.dst v') w') :
 if Region.wanted o (yielded ops a.tmps) = true then o.wp P a (wr.alloc (.cells cs e)) K Q else E := by
 have hw : Region.wanted o (yielded ops a.tmps) = true := by simp [Region.wanted, hgd]
 rw [if_pos hw]
 exact wp_appK s x t ho base e i z size bytes ht hi hz hsize hby hzs hsz wr cs hcs hc1 v n xs hs hown hx hn hb hbase h
end
section
variable {wr w' : World} {v v' : Value} {base : Nat} {e : TypeId} {size n : Nat} {xs : List Value}
theorem App.belowK {B : Nat} {a : World} (h : App wr w' v v') (hb : Below B a wr) (hown : wr.ownsRow base e size v n xs) (hB : B ≤ base) (hs : B ≤ wr.heap.size) : Below B a w' :=
 hb.grown h.grown hs (fun k hk => Nat.le_trans hB (hown.lt k hk).1)
theorem App.boxK {g : Nat} {t : TypeId} {cs : Array Value} (h : App wr w' v v') (hb : Box wr g t cs) (hown : wr.ownsRow base e size v n xs) (hg : g < base) : Box w' g t cs := by
 refine hb.grown h.grown fun hh => ?_
 have := (hown.lt g hh.symm).1
 omega
theorem App.farK {k : Nat} (h : App wr w' v v') (hk : k < wr.heap.size) (hne : v.ownBlock ≠ some k) : w'.heap[k]? = wr.heap[k]? := h.grown.block k hk (fun e => hne e.symm)
theorem own_formK (h : wr.ownsRow base e size v n xs) : ∃ A c, v = .slice A n c := by
 rcases h.2 with ⟨rfl, rfl⟩ | ⟨g, cap, cur, rfl, _⟩
 ·exact ⟨none, 0, rfl⟩
 ·exact ⟨_, _, rfl⟩
theorem row_ownK {A : Option Addr} {c : Nat} (h : wr.ownsRow base e size (.slice A n c) n xs) : Row wr wr.heap.size A xs := by
 rcases h.2 with ⟨h1, h0⟩ | ⟨g, cap, cur, hv, _, hh, _⟩
 ·left
  have := h.1
  rw [h0] at this
  simpa using this
 ·injection hv with hA _ _
  subst hA
  have hl := (h.lt g rfl).2
  refine .inr ⟨g, 0, rfl, hl, fun i v hv => ?_⟩
  have := h.cells (g := g) rfl i v hv
  rw [add_at] at this
  exact this
theorem Row.app {B : Nat} {A : Option Addr} {vs : List Value} (hr : Row wr B A vs) (h : App wr w' v v') (hB : B ≤ wr.heap.size) (hne : ∀ b off, A = some ⟨b, off, none⟩ → vs ≠ [] → v.ownBlock ≠ some b) : Row w' B A vs := by
 rcases hr with hr | ⟨b, off, e, hb, hc⟩
 ·exact .inl hr
 ·by_cases h0 : vs = []
  ·exact .inl h0
  ·refine .inr ⟨b, off, e, hb, fun i u hu => ?_⟩
   have := hc i u hu
   have hbl := h.farK (by omega : b < wr.heap.size) (hne b off e h0)
   unfold World.cell? at this ⊢
   rw [hbl]
   exact this
end
end Go.Proofs.YthmbgbmcdbdecaaGreat.Base
namespace Go.Proofs.YthmbgbmcdbdecaaGreat.Tc
open Go.RowKit Base
set_option linter.unusedVariables false
set_option linter.unusedSimpArgs false
structure Fa where
 A : Option Addr
 keys : List Nat
 c : Nat
 ag : Ag
abbrev factV (f : Fa) : List Value := [.slice f.A f.keys.length f.c, .int .i64 f.ag.c, .int .i64 f.ag.s0, .int .i64 f.ag.n0, .int .i64 f.ag.x0, .int .i64 f.ag.s1, .int .i64 f.ag.n1, .int .i64 f.ag.x1, .int .i64 f.ag.s2, .int .i64 f.ag.n2, .int .i64 f.ag.x2]
abbrev factC (f : Fa) : Array Value := #[.slice f.A f.keys.length f.c, .int .i64 f.ag.c, .int .i64 f.ag.s0, .int .i64 f.ag.n0, .int .i64 f.ag.x0, .int .i64 f.ag.s1, .int .i64 f.ag.n1, .int .i64 f.ag.x1, .int .i64 f.ag.s2, .int .i64 f.ag.n2, .int .i64 f.ag.x2]
theorem factV_len (f : Fa) : (factV f).length = 11 := rfl
theorem fact_one (f : Fa) : ∀ u ∈ (factC f).toList, u.oneCell' = true := by
 intro u hu
 simp only [factC, List.mem_cons, List.not_mem_nil, or_false] at hu
 rcases hu with rfl | rfl | rfl | rfl | rfl | rfl | rfl | rfl | rfl | rfl | rfl <;> rfl
theorem info_fact : (Tryz.prog.info? 78).map (fun i => (i.zero, i.size, i.bytes)) = some (some (.agg #[.slice none 0 0, .int .i64 0, .int .i64 0, .int .i64 0, .int .i64 0, .int .i64 0, .int .i64 0, .int .i64 0, .int .i64 0, .int .i64 0, .int .i64 0]), 11, 104) := by kernel_rfl
structure FasAt (w : World) (B : Nat) (A : Option Addr) (l : List Fa) : Prop where
 row : Row w B A (l.flatMap factV)
 keys : ∀ f ∈ l, Row w B f.A (natV f.keys)
theorem FasAt.below {w w' : World} {B : Nat} {A : Option Addr} {l : List Fa} (h : FasAt w B A l) (hb : Below B w w') : FasAt w' B A l := ⟨h.row.below hb, fun f hf => (h.keys f hf).below hb⟩
theorem FasAt.more {w : World} {B B' : Nat} {A : Option Addr} {l : List Fa} (h : FasAt w B A l) (hB : B ≤ B') : FasAt w B' A l := ⟨h.row.more hB, fun f hf => (h.keys f hf).more hB⟩
def FaAp (w : World) (v : Value) (f : Fa) : Prop := Row w w.heap.size f.A (natV f.keys) ∧ ∀ b off, f.A = some ⟨b, off, none⟩ → natV f.keys ≠ [] → v.ownBlock ≠ some b
theorem FaAp.app {wr w' : World} {v v' : Value} {f : Fa} (h : FaAp wr v f) (ha : App wr w' v v') : FaAp w' v' f := by
 refine ⟨(Row.app h.1 ha (Nat.le_refl _) h.2).more ha.grown.size, fun b off e hne => ?_⟩
 rcases ha.lies with hl | ⟨k, hl, hk⟩
 ·rw [hl]; exact h.2 b off e hne
 ·rw [hl]
  intro hh
  injection hh with hh
  rcases h.1 with h0 | ⟨b', off', e', hb', _⟩
  ·exact hne h0
  ·rw [e] at e'
   injection e' with e'
   injection e' with e1 _ _
   omega
theorem FaAp.below {w w' : World} {v : Value} {f : Fa} (h : FaAp w v f) (hb : Below w.heap.size w w') : FaAp w' v f := ⟨(h.1.below hb).more hb.size, h.2⟩
theorem FaAp.new {w : World} {v : Value} {f : Fa} {B : Nat} (hown : w.ownsRow B 3 1 (.slice f.A f.keys.length f.c) f.keys.length (natV f.keys)) (hv : ∀ k, v.ownBlock = some k → k < B) : FaAp w v f := by
 refine ⟨row_ownK hown, fun b off e hne hh => ?_⟩
 have h1 := hv b hh
 rw [e] at hown
 have h2 := (hown.lt b rfl).1
 omega
def FactsTo (s : Sch) (rows : List Rw) (k : Nat) (l : List Fa) : Prop := l.length = k ∧ ∀ (i : Nat) (r : Rw) (f : Fa), rows[i]? = some r → l[i]? = some f → RowKeys s r f.keys ∧ f.ag = agOf r.vals
theorem FactsTo.next {s : Sch} {rows : List Rw} {k : Nat} {l : List Fa} (h : FactsTo s rows k l) {r : Rw} (hr : rows[k]? = some r) {f : Fa} (hk : RowKeys s r f.keys) (ha : f.ag = agOf r.vals) : FactsTo s rows (k + 1) (l ++ [f]) := by
 refine ⟨by rw [List.length_append, h.1]; rfl, fun i r' f' hr' hf' => ?_⟩
 by_cases hi : i < l.length
 ·rw [List.getElem?_append_left hi] at hf'
  exact h.2 i r' f' hr' hf'
 ·rw [List.getElem?_append_right (by omega)] at hf'
  have hik : i = k := by
   rcases Nat.lt_or_ge (i - l.length) 1 with h1 | h1
   ·have := h.1; omega
   ·rw [List.getElem?_eq_none (by simpa using h1)] at hf'; cases hf'
  subst hik
  rw [hr] at hr'
  injection hr' with hr'
  subst hr'
  rw [h.1, Nat.sub_self] at hf'
  injection hf' with hf'
  subst hf'
  exact ⟨hk, ha⟩
def FactsRet (s : Sch) (rows : List Rw) (w : World) (e : Ending) (w' : World) : Prop := ∃ (A : Option Addr) (c : Nat) (l : List Fa), e = .returned (.slice A l.length c) ∧ FasAt w' w'.heap.size A l ∧ FactsTo s rows rows.length l ∧ Below w.heap.size w w'
set_option maxRecDepth 100000 in
set_option maxHeartbeats 2000000 in
theorem r20facts_any (s : Sch) (A : Option Addr) (rows : List Rw) (c : Nat) (w : World) (h : SchAt w w.heap.size s) (hr : RwsAt w w.heap.size A rows) (ho : BatchOk s rows) : Calls Tryz.prog 8 #[.agg (schC s), .slice A rows.length c] w (FactsRet s rows w) := by
 have HYes := kp (show ∀ A' c' l w', FasAt w' w'.heap.size A' l → FactsTo s rows rows.length l → Below w.heap.size w w' → FactsRet s rows w (.returned (.slice A' l.length c')) w' from fun A' c' l w' h1 h2 hb => ⟨A', c', l, rfl, h1, h2, hb⟩)
 have hb0 := (Below.refl w.heap.size w).alloc (Nat.le_refl _) (.cells (schC s) 25)
 have Hb0 := kp hb0
 have HB := kp (Box.new w 25 (schC s))
 have H0 := kp ((h.below hb0).more hb0.size)
 have HR0 := kp ((hr.below hb0).more hb0.size)
 have hn := ho.n
 have Ho := kp ho
 have HRow := kp r17row_any
 have HOf := kp r06of_any
 obtain ⟨i0, ti0, tz0, tz1, tz2⟩ := info_parts info_fact
 clear h hr ho hb0
 generalize hQ : FactsRet s rows w = Q at *
 clear hQ
 unfold schC at HB Hb0 H0 HR0 ⊢
 go_enter Tryz.func8, Tryz.ntmps8
 go_wp2_with fail
 generalize w.alloc (.cells #[.slice s.A s.dims.length s.c, .slice s.Am s.meas.length s.cm] 25) = W0 at *
 go_loopw [5, 12] (fun v5 v12 wr => ∃ (k : Nat) (l : List Fa) (A' : Option Addr) (c' : Nat), k ≤ rows.length ∧ v12 = .int .i64 k ∧ v5 = .slice A' k c' ∧ FactsTo s rows k l ∧ wr.ownsRow W0.heap.size 78 11 (.slice A' k c') k (l.flatMap factV) ∧ (∀ f ∈ l, FaAp wr (.slice A' k c') f) ∧ Below W0.heap.size W0 wr) (fun _ v12 _ => rows.length - (intOf v12).toNat)
 case atStart => exact ⟨0, [], none, 0, Nat.zero_le _, rfl, rfl, ⟨rfl, fun i _ _ _ h => by simp at h⟩, own_nil _ _ _ _, (fun f hf => by cases hf), Below.refl _ _⟩
 case round =>
  obtain ⟨k, l, A', c', hk, rfl, rfl, hto, hown, hap, hbe⟩ := hrel
  have Hto := kp hto
  have Hown := kp hown
  have Hap := kp hap
  have Hbe := kp hbe
  clear hto hown hap hbe
  by_cases hlt : k < rows.length
  ·have hrs := (HR0.out.below Hbe.out).more Hbe.out.size
   have hss := (H0.out.below Hbe.out).more Hbe.out.size
   obtain ⟨b, off, rfl, hb, c0, c1⟩ := hrs.rw_ k hlt
   have hrw := hrs.each _ (List.getElem_mem hlt)
   have hbA := (Below.refl wr.heap.size wr).alloc (Nat.le_refl _) (.cells (rwC (rows[k]'hlt)) 73)
   have HRk := kp (HRow.out s (rows[k]'hlt) _ ((hss.below hbA).more hbA.size) ((hrw.below hbA).more hbA.size) Ho.out.sch)
   have Hrw := kp ((hrw.below hbA).more hbA.size)
   have HbA := kp hbA
   have HBx := kp ((HB.out.under Hbe.out).under hbA)
   have HBr := kp (Box.new wr 73 (rwC (rows[k]'hlt)))
   have Hex := kp (Ho.out.rows _ (List.getElem_mem hlt))
   have Hat := kp (List.getElem?_eq_getElem hlt)
   unfold rwC at HRk HbA HBx HBr Hrw
   unfold schC at HRk
   have hi0 : (0 : Int) ≤ (k : Int) := by omega
   have hi1 : (k : Int) < (rows.length : Int) := by omega
   clear hrs hss hrw hbA
   generalize (rows[k]'hlt) = r at *
   go_upto_region 5 with fail
   clear c0 c1
   generalize wr.alloc (.cells #[.slice r.A r.terms.length r.c, .slice r.Av r.vals.length r.cv] 73) = W2 at *
   obtain ⟨b0, b1, _, _⟩ := HBx.out.two
   obtain ⟨q0, q1, _, _⟩ := HBr.out.two
   go_wp2_with fail
   refine HRk.out.mono ?_
   rintro e w2 ⟨v, n, rfl, hn2, hn3, hb2⟩
   obtain ⟨keys, hkeys, hownk⟩ := hn2 (hn3 Hex.out)
   obtain ⟨Ak, ck, rfl⟩ := own_formK hownk
   have Hkeys := kp hkeys
   have Hownk := kp hownk
   have Hb2 := kp hb2
   have HBr2 := kp (HBr.out.under hb2)
   have hvn : r.vals.length ≤ 3 := by rw [hkeys.nv]; exact Ho.out.sch.m2
   have HOfk := kp (HOf.out r.Av r.vals r.cv w2 hvn ((Hrw.out.vals.below hb2).more hb2.size))
   clear hn2 hn3 hb2 b0 b1 q0 q1 HRk hkeys hownk hvn
   obtain ⟨q0, q1, _, _⟩ := HBr2.out.two
   go_wp2_with fail
   refine HOfk.out.mono ?_
   rintro e w3 ⟨rfl, hb3⟩
   have Hb3 := kp (HbA.out.trans ((Hb2.out.trans (hb3.mono Hb2.out.size)).mono HbA.out.size))
   have Hownk3 := kp (own_below Hownk.out hb3)
   clear hb3 q0 q1 HOfk
   have Hown3 := kp (own_below Hown.out Hb3.out)
   have Hap3 := kp (fun f hf => (Hap.out f hf).below Hb3.out)
   have Hbe3 := kp (Hbe.out.trans (Hb3.out.mono Hbe.out.size))
   have HapN := kp (show FaAp w3 (.slice A' k c') ⟨Ak, keys, ck, agOf r.vals⟩ from FaAp.new (B := W2.heap.size) Hownk3.out (fun j hj => Nat.lt_of_lt_of_le (Hown.out.lt j hj).2 HbA.out.size))
   have Hnx := kp (Hto.out.next (f := ⟨Ak, keys, ck, agOf r.vals⟩) Hat.out Hkeys.out rfl)
   have hk1 : k + 1 < 1048576 * 64 := by omega
   have Hs3 := kp Hbe3.out.size
   generalize agOf r.vals = ag at *
   go_wp2_with (at_builtin; refine wpList_appK rfl (.tmp 22) (.tmp 28) 32 rfl W0.heap.size 78 i0 _ 11 104 Tryz.underlying32 ti0 tz0 tz1 tz2 rfl (by decide) w3 (factC ⟨Ak, keys, ck, ag⟩) rfl (fact_one _) (.slice A' k c') k (l.flatMap factV) rfl Hown3.out rfl hk1 (by decide) Hs3.out ?_; intro v5 w5 hown5 happ5; obtain ⟨A5, c5, h5⟩ := own_formK hown5; subst h5; have Hown5 := kp hown5; have Hb5 := kp (happ5.belowK Hbe3.out Hown3.out (Nat.le_refl _) Hs3.out); have Hap5 := kp (show ∀ f ∈ l ++ [⟨Ak, keys, ck, ag⟩], FaAp w5 (.slice A5 (k + 1) c5) f from fun f hf => by (rcases List.mem_append.1 hf with hf | hf; exact (Hap3.out f hf).app happ5; rw [List.mem_singleton.1 hf]; exact HapN.out.app happ5)); clear hown5 happ5)
   refine ⟨⟨k + 1, l ++ [⟨Ak, keys, ck, ag⟩], A5, c5, by omega, by go_num, rfl, Hnx.out, ?_, Hap5.out, Hb5.out⟩, by simp [intOf]; omega⟩
   rw [List.flatMap_append]
   exact Hown5.out
  ·obtain rfl : k = rows.length := by omega
   have Hll := kp Hto.out.1
   have Hfin := kp (show FasAt wr wr.heap.size A' l from ⟨row_ownK Hown.out, fun f hf => (Hap.out f hf).1⟩)
   go_wp2_with fail
   have := HYes.out A' c' l _ Hfin.out Hto.out (Hb0.out.trans (Hbe.out.mono Hb0.out.size))
   rw [Hll.out] at this
   exact this
end Go.Proofs.YthmbgbmcdbdecaaGreat.Tc
