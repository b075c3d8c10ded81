/- Layer 12, eighth part: following a list, in plain Lean; appends of a whole slice; what stays above a line. -/
import Derived.Test.YtlmgmojicpdbeaaCh7
import Derived.Test.YtlmgmojicpdbeaaOwn
namespace Go.Proofs.Ytlmgmojicpdbeaa.Ch
open Go.RowKit Base Crc Go.Maps
set_option linter.unusedVariables false

/-- where one stands: the pieces' places, the pages, the next place -/
abbrev St := List Int × List Int × Int
def good (pages : Int) (i : Nat) (S : St) (next : Int) (l : List Int) : Prop :=
  ((S.1 ++ [S.2.2]) ++ (S.2.1 ++ l)).Nodup ∧ (l.length : Int) = min (pages - S.2.1.length) 122 ∧ (decide ((i : Int) + 1 = count pages) = decide (next < 0))
instance (pages : Int) (i : Nat) (S : St) (next : Int) (l : List Int) : Decidable (good pages i S next l) := by unfold good; infer_instance
def step (rd : Int → Nat → Option ByteArray) (pages : Int) (i : Nat) (S : St) : Except Int St :=
  match rd S.2.2 i with
  | none => .error 9
  | some s => match take? s.data.toList with
    | none => .error 15
    | some (next, l) => if good pages i S next l then .ok (S.1 ++ [S.2.2], S.2.1 ++ l, next) else .error 15
def st (rd : Int → Nat → Option ByteArray) (pages first : Int) : Nat → Except Int St
  | 0 => .ok ([], [], first)
  | i + 1 => match st rd pages first i with
    | .error e => .error e
    | .ok S => step rd pages i S
/-- what is handed back -/
def outOf : Except Int St → List Int × List Int × Int
  | .error e => ([], [], e)
  | .ok S => (S.1, S.2.1, 0)

theorem st_error {rd : Int → Nat → Option ByteArray} {pages first : Int} {i : Nat} {e : Int} (h : st rd pages first i = .error e) : ∀ j, st rd pages first (i + j) = .error e
  | 0 => h
  | j + 1 => by
    show st rd pages first (i + j + 1) = _
    rw [st, st_error h j]
theorem st_stop {rd : Int → Nat → Option ByteArray} {pages first : Int} {i n : Nat} {e : Int} {S : St} (hi : i < n) (h : st rd pages first i = .ok S) (hs : step rd pages i S = .error e) : outOf (st rd pages first n) = ([], [], e) := by
  have h1 : st rd pages first (i + 1) = .error e := by rw [st, h]; exact hs
  have := st_error h1 (n - (i + 1))
  rw [show i + 1 + (n - (i + 1)) = n by omega] at this
  rw [this]
  rfl
theorem st_next {rd : Int → Nat → Option ByteArray} {pages first : Int} {i : Nat} {S : St} (h : st rd pages first i = .ok S) {s : ByteArray} {next : Int} {l : List Int} (hr : rd S.2.2 i = some s) (ht : take? s.data.toList = some (next, l)) (hg : good pages i S next l) :
    st rd pages first (i + 1) = .ok (S.1 ++ [S.2.2], S.2.1 ++ l, next) := by
  rw [st, h]
  show step rd pages i S = _
  unfold step
  rw [hr]
  simp only [ht]
  rw [if_pos hg]

theorem pagesTo_fit {l : List UInt8} {k : Nat} : ∀ x ∈ pagesTo l k, fitI x := by
  intro x hx
  unfold pagesTo at hx
  simp only [List.mem_map] at hx
  obtain ⟨i, _, rfl⟩ := hx
  have := numAt_lo l (i + 1)
  unfold fitI
  omega
theorem take_facts {b : List UInt8} {next : Int} {l : List Int} (h : take? b = some (next, l)) : l.length ≤ 122 ∧ (∀ x ∈ l, fitI x) ∧ -1 ≤ next ∧ next ≤ 2046 := by
  unfold take? at h
  split at h
  · rename_i hc
    simp only [Option.some.injEq, Prod.mk.injEq] at h
    obtain ⟨rfl, rfl⟩ := h
    simp only [Bool.and_eq_true, formOk, okTo, decide_eq_true_eq] at hc
    obtain ⟨⟨⟨h1, h2⟩, h3⟩, h4, h5⟩ := hc
    have := numAt_lo b 0
    refine ⟨by rw [pagesTo_len]; omega, pagesTo_fit, by omega, ?_⟩
    simp only [Bool.or_eq_true, beq_iff_eq, decide_eq_true_eq] at h4
    omega
  · cases h

structure Facts (k : Nat) (S : St) : Prop where
  len : S.1.length = k
  few : S.2.1.length ≤ 122 * k
  own : ∀ x ∈ S.1, fitI x
  list : ∀ x ∈ S.2.1, fitI x
  now : fitI S.2.2
  nodup : (S.1 ++ S.2.1).Nodup
theorem step_ok {rd : Int → Nat → Option ByteArray} {pages : Int} {i : Nat} {S T : St} (h : step rd pages i S = .ok T) :
    ∃ s next l, rd S.2.2 i = some s ∧ take? s.data.toList = some (next, l) ∧ good pages i S next l ∧ T = (S.1 ++ [S.2.2], S.2.1 ++ l, next) := by
  unfold step at h
  split at h
  · cases h
  · rename_i s hs
    split at h
    · cases h
    · rename_i next l ht
      split at h
      · rename_i hg
        injection h with h
        exact ⟨s, next, l, hs, ht, hg, h.symm⟩
      · cases h
theorem st_facts {rd : Int → Nat → Option ByteArray} {pages first : Int} (hf : fitI first) : ∀ (i : Nat) (S : St), st rd pages first i = .ok S → Facts i S
  | 0, S, h => by
    simp only [st, Except.ok.injEq] at h
    subst h
    exact ⟨rfl, by simp, by simp, by simp, hf, by simp⟩
  | i + 1, S, h => by
    rw [st] at h
    split at h
    · cases h
    · rename_i S0 h0
      have F := st_facts hf i S0 h0
      obtain ⟨s, next, l, hr, ht, hg, rfl⟩ := step_ok h
      obtain ⟨t1, t2, t3, t4⟩ := take_facts ht
      refine ⟨by simp [F.len], by simp only [List.length_append]; have := F.few; omega, ?_, ?_, ?_, hg.1⟩
      · intro x hx
        rcases List.mem_append.1 hx with hx | hx
        · exact F.own x hx
        · simp at hx; subst hx; exact F.now
      · intro x hx
        rcases List.mem_append.1 hx with hx | hx
        · exact F.list x hx
        · exact t2 x hx
      · unfold fitI; simp only; omega

/-- what stands at and above B is left as it was -/
structure Over (B : Nat) (w w' : World) : Prop where
  size : w.heap.size ≤ w'.heap.size
  block : ∀ k, B ≤ k → k < w.heap.size → w'.heap[k]? = w.heap[k]?
theorem Over.box {B g : Nat} {w w' : World} {t : TypeId} {cs : Array Value} (h : Over B w w') (hb : Box w g t cs) (hg : B ≤ g) : Box w' g t cs := (h.block g hg hb.lt).trans hb
theorem Over.met {B g : Nat} {w w' : World} {L : List Int} (h : Over B w w') (hm : Met w g L) (hg : B ≤ g) : Met w' g L := by
  have hlt := hm.lt
  obtain ⟨D, ⟨es, clock, hb, F, hs, hD⟩, h2, h3⟩ := hm
  exact ⟨D, ⟨es, clock, (h.block g hg hlt).trans hb, F, hs, hD⟩, h2, h3⟩
theorem Over.own {B base : Nat} {w w' : World} {e : TypeId} {v : Value} {n : Nat} {xs : List Value} (h : Over B w w') (ho : w.ownsRow base e 1 v n xs) (hB : B ≤ base) : w'.ownsRow base e 1 v n xs := by
  obtain ⟨h1, h2⟩ := ho
  refine ⟨h1, ?_⟩
  rcases h2 with h2 | ⟨g, cap, cur, r1, r2, r3, r4⟩
  · exact .inl h2
  · have hlt : g < w.heap.size := by
      rcases Nat.lt_or_ge g w.heap.size with hh | hh
      · exact hh
      · rw [Array.getElem?_eq_none hh] at r3; cases r3
    exact .inr ⟨g, cap, cur, r1, r2, (h.block g (by omega) hlt).trans r3, r4⟩

section
variable {P : Program}
theorem run_append_void (w : World) (base : Nat) (t ty e : TypeId) (i : TypeInfo) (size c : Nat) (ht : P.underlying t = some (.slice e)) (hi : P.info? e = some i)
    (v : Value) (n : Nat) (xs : List Value) (hown : w.ownsRow base e size v n xs) :
    (Builtin.append_ #[t, t] ty #[v, .slice none 0 c]).run P w = .ok v w := by
  rcases hown.2 with ⟨rfl, rfl⟩ | ⟨g, cap, cur, rfl, _, _, hnc, _⟩
  · simp [Builtin.append_, run_underlying ht, sizeOf, typeInfo, hi, Builtin.lenOf, Builtin.firstCells]
  · simp [Builtin.append_, run_underlying ht, sizeOf, typeInfo, hi, Builtin.lenOf, Builtin.firstCells, hnc, storeCells]
/-- append(s, l...): l a row of one-cell values, nil or not -/
theorem run_append_row (w : World) (base : Nat) (t ty e : TypeId) (i : TypeInfo) (z : Value) (bytes : Nat) (ht : P.underlying t = some (.slice e)) (hi : P.info? e = some i) (hz : i.zero = some z)
    (hsize : i.size = 1) (hby : i.bytes = bytes) (hzs : z.cells.size = 1)
    (v : Value) (n : Nat) (xs : List Value) (hown : w.ownsRow base e 1 v n xs) (A : Option Addr) (m c B : Nat) (news : List Value) (hl : news.length = m) (hr : Row w B A news) (h1 : ∀ u ∈ news, u.oneCell' = true)
    (hn : n + m < 1048576 * 64) (hb : bytes ≤ 256) (hbase : base ≤ w.heap.size) :
    ∃ v' w', (Builtin.append_ #[t, t] ty #[v, .slice A m c]).run P w = .ok v' w' ∧ w'.ownsRow base e 1 v' (n + m) (xs ++ news) ∧ App w w' v v' := by
  rcases A with _ | ⟨b, off, p⟩
  · have hnil : news = [] := by
      rcases hr with hr | ⟨b, off, hh, _⟩
      · exact hr
      · cases hh
    subst hnil
    subst hl
    refine ⟨v, w, run_append_void w base t ty e i 1 c ht hi v n xs hown, by simpa using hown, ⟨World.grownBy.refl w _, .inl rfl⟩⟩
  · have hcell : ∀ j u, news[j]? = some u → w.cell? ((⟨b, off, p⟩ : Addr).add j) = some u := by
      intro j u hj
      rcases hr with rfl | ⟨b', off', hh, _, hc⟩
      · simp at hj
      · simp only [Option.some.injEq, Addr.mk.injEq] at hh
        obtain ⟨rfl, rfl, rfl⟩ := hh
        rw [add_at]
        exact hc j u hj
    obtain ⟨v', w', hr, h2, h3, _, h5⟩ := run_append_own_at (P := P) w base t ty e i z 1 bytes ht hi hz hsize hby hzs (by decide) v n xs hown ⟨b, off, p⟩ m c news (by simpa using hl) hcell h1 (by unfold maxLen; omega)
      (by have : (n + m) * bytes ≤ (1048576 * 64) * 256 := Nat.mul_le_mul (by omega) hb; omega) hbase
    refine ⟨v', w', hr, h2, h3, ?_⟩
    rcases h5 with h5 | h5
    · exact .inl h5
    · exact .inr ⟨_, h5, Nat.le_refl _⟩
theorem wp_append_row {o : Oper} {a : Act} {K : Act → World → Prop} {Q : Exit → Act → World → Prop} (s x : Operand) (t : TypeId)
    (ho : o.op = .call { callee := .builtin .append, args := #[s, x], argTypes := #[t, t] })
    (base : Nat) (e : TypeId) (i : TypeInfo) (z : Value) (bytes : Nat) (ht : P.underlying t = some (.slice e)) (hi : P.info? e = some i) (hz : i.zero = some z)
    (hsize : i.size = 1) (hby : i.bytes = bytes) (hzs : z.cells.size = 1)
    (w : World) (v : Value) (n : Nat) (xs : List Value) (hs : a.eval s = v) (hown : w.ownsRow base e 1 v n xs)
    (A : Option Addr) (m c B : Nat) (news : List Value) (hx : a.eval x = .slice A m c) (hl : news.length = m) (hr : Row w B A news) (h1 : ∀ u ∈ news, u.oneCell' = true)
    (hn : n + m < 1048576 * 64) (hb : bytes ≤ 256) (hbase : base ≤ w.heap.size)
    (h : ∀ v' w', w'.ownsRow base e 1 v' (n + m) (xs ++ news) → App w w' v v' → K (a.put o.dst v') w') :
    o.wp P a w K Q := by
  obtain ⟨v', w', hrun, h2, h3⟩ := run_append_row (P := P) w base t o.type e i z bytes ht hi hz hsize hby hzs v n xs hown A m c B news hl hr h1 hn hb hbase
  unfold Oper.wp execOp
  simp only [ho, resolve, invoke, builtin, Sem.run_bind, Sem.run_pure, Result.andThen_ok, List.map_toArray, List.map_cons, List.map_nil, hs, hx, hrun]
  exact h v' w' h2 h3
theorem wpList_append_row {ops : Array Oper} {rest : List Oper} {o : Oper} {a : Act} {Q : Exit → Act → World → Prop} (hgd : o.guard = none) (s x : Operand) (t : TypeId)
    (ho : o.op = .call { callee := .builtin .append, args := #[s, x], argTypes := #[t, t] })
    (base : Nat) (e : TypeId) (i : TypeInfo) (z : Value) (bytes : Nat) (ht : P.underlying t = some (.slice e)) (hi : P.info? e = some i) (hz : i.zero = some z)
    (hsize : i.size = 1) (hby : i.bytes = bytes) (hzs : z.cells.size = 1)
    (w : World) (v : Value) (n : Nat) (xs : List Value) (hs : a.eval s = v) (hown : w.ownsRow base e 1 v n xs)
    (A : Option Addr) (m c B : Nat) (news : List Value) (hx : a.eval x = .slice A m c) (hl : news.length = m) (hr : Row w B A news) (h1 : ∀ u ∈ news, u.oneCell' = true)
    (hn : n + m < 1048576 * 64) (hb : bytes ≤ 256) (hbase : base ≤ w.heap.size)
    (h : ∀ v' w', w'.ownsRow base e 1 v' (n + m) (xs ++ news) → App w w' v v' → wpList P ops Q rest (a.put o.dst v') w') :
    wpList P ops Q (o :: rest) a w := by
  refine wpList_plain hgd fun K hK => ?_
  exact wp_append_row s x t ho base e i z bytes ht hi hz hsize hby hzs w v n xs hs hown A m c B news hx hl hr h1 hn hb hbase fun v' w' h2 h3 => hK _ _ (h v' w' h2 h3)
end

end Go.Proofs.Ytlmgmojicpdbeaa.Ch
