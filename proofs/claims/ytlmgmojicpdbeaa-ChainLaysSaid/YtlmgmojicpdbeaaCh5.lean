/- Layer 12, fifth part: Take in one contract; a piece leads back; the example. -/
import Derived.Test.YtlmgmojicpdbeaaCh4
namespace Go.Proofs.Ytlmgmojicpdbeaa.Ch
open Go.RowKit Base Crc
set_option linter.unusedVariables false

/-- what a Take of a piece leaves: its third result, the row of pages in new memory -/
def Took (next : Int) (l : List Int) (third : Value) (w : World) (e : Ending) (w' : World) : Prop :=
  ∃ (A : Option Addr) (c : Nat), e = .returned (.tuple #[.int .i64 next, .slice A l.length c, third]) ∧ Row w' w'.heap.size A (nums l) ∧ Below w.heap.size w w'

theorem form_half {s : ByteArray} (h : formOk s.data.toList = true) : ∃ n, s.size = 2 * n ∧ 1 ≤ n ∧ n ≤ 123 ∧ s.data.toList.length / 2 = n := by
  simp [formOk] at h
  exact ⟨s.size / 2, by omega, by omega, by omega, by simp⟩

theorem take_yes (s : ByteArray) (next : Int) (l : List Int) (w : World) (h : take? s.data.toList = some (next, l)) :
    Calls Try.prog 39 #[.string s] w (Took next l (.int .i64 0) w) := by
  unfold take? at h
  split at h
  · rename_i hc
    rw [Bool.and_eq_true] at hc
    obtain ⟨n, h1, h2, h3, h4⟩ := form_half hc.1
    injection h with h
    injection h with e1 e2
    subst e1 e2
    rw [h4] at hc ⊢
    refine take_loop s w n h1 h2 h3 _ (fun _ v w' hown hbe => ?_) (fun hno => ?_)
    · obtain ⟨A, c, rfl⟩ := own_form hown
      exact ⟨A, c, rfl, own_row hown, hbe⟩
    · rw [hc.2] at hno; cases hno
  · cases h
theorem take_no (s : ByteArray) (w : World) (hs : s.size ≤ maxLen) (h : take? s.data.toList = none) :
    Calls Try.prog 39 #[.string s] w fun e w' => e = .returned (.tuple #[.int .i64 0, .slice none 0 0, .int .i64 15]) ∧ Below w.heap.size w w' := by
  unfold take? at h
  rcases hf : formOk s.data.toList with _ | _
  · exact take_form s w hs hf
  · obtain ⟨n, h1, h2, h3, h4⟩ := form_half hf
    rw [hf, h4, Bool.true_and] at h
    split at h
    · cases h
    · rename_i hc
      refine take_loop s w n h1 h2 h3 _ (fun hyes => absurd hyes hc) (fun _ w' hbe => ⟨rfl, hbe⟩)
theorem rtake_yes (s : ByteArray) (next : Int) (l : List Int) (w : World) (h : take? s.data.toList = some (next, l)) :
    Calls Try.prog 42 #[.string s] w (Took next l (.bool true) w) := by
  unfold take? at h
  split at h
  · rename_i hc
    rw [Bool.and_eq_true] at hc
    obtain ⟨n, h1, h2, h3, h4⟩ := form_half hc.1
    injection h with h
    injection h with e1 e2
    subst e1 e2
    rw [h4] at hc ⊢
    refine rtake_loop s w n h1 h2 h3 _ (fun _ v w' hown hbe => ?_) (fun hno => ?_)
    · obtain ⟨A, c, rfl⟩ := own_form hown
      exact ⟨A, c, rfl, own_row hown, hbe⟩
    · rw [hc.2] at hno; cases hno
  · cases h
theorem rtake_no (s : ByteArray) (w : World) (hs : s.size ≤ maxLen) (h : take? s.data.toList = none) :
    Calls Try.prog 42 #[.string s] w fun e w' => e = .returned (.tuple #[.int .i64 0, .slice none 0 0, .bool false]) ∧ Below w.heap.size w w' := by
  unfold take? at h
  rcases hf : formOk s.data.toList with _ | _
  · exact rtake_form s w hs hf
  · obtain ⟨n, h1, h2, h3, h4⟩ := form_half hf
    rw [hf, h4, Bool.true_and] at h
    split at h
    · cases h
    · rename_i hc
      refine rtake_loop s w n h1 h2 h3 _ (fun hyes => absurd hyes hc) (fun _ w' hbe => ⟨rfl, hbe⟩)

/-! ### a piece leads back -/
theorem byt_small (x : Int) (h0 : 0 ≤ x) (h1 : x < 256) : ((byt x.toNat).toNat : Int) = x := byt_nat h0 h1
theorem num_two (x : Int) (r : List UInt8) (h0 : 0 ≤ x) (h1 : x < 65536) : numAt (two x ++ r) 0 = x := by
  unfold numAt two
  simp only [Nat.mul_zero, List.cons_append, List.nil_append, List.getElem?_cons_zero, Option.getD_some, List.getElem?_cons_succ, Nat.zero_add]
  rw [byt_small (x / 256) (by omega) (by omega), byt_small (x % 256) (by omega) (by omega)]
  omega
theorem num_next (x : Int) (r : List UInt8) (i : Nat) : numAt (two x ++ r) (i + 1) = numAt r i := by
  unfold numAt two
  rw [show 2 * (i + 1) = 2 * i + 1 + 1 by omega]
  simp
theorem num_body (l : List Int) (i : Nat) (hi : i < l.length) (h : l.all okPage = true) : numAt (body l) i = l[i] := by
  induction l generalizing i with
  | nil => simp at hi
  | cons n l ih =>
    simp only [List.all_cons, Bool.and_eq_true] at h
    have hn : 0 ≤ n ∧ n < 2047 := by simpa [okPage] using h.1
    show numAt (two n ++ body l) i = _
    cases i with
    | zero => rw [num_two n _ hn.1 (by omega)]; rfl
    | succ i => rw [num_next, ih i (by simpa using hi) h.2]; rfl
theorem pages_body (x : Int) (l : List Int) (h : l.all okPage = true) : pagesTo (two x ++ body l) (l.length + 1) = l := by
  unfold pagesTo
  rw [Nat.add_sub_cancel]
  apply List.ext_getElem
  · simp
  · intro i h1 h2
    simp only [List.getElem_map, List.getElem_range]
    rw [num_next, num_body l i h2 h]
theorem piece_len (next : Int) (l : List Int) : (piece next l).length = 2 * (l.length + 1) := by
  unfold piece
  rw [List.length_append, body_len]
  simp [two]
  omega
theorem take_piece (next : Int) (l : List Int) (h : wrong next l = 0) : take? (piece next l) = some (max next (-1), l) := by
  obtain ⟨h1, h2, h3⟩ := wrong_zero h
  have hl := piece_len next l
  have hX : 0 ≤ max next (-1) + 1 ∧ max next (-1) + 1 ≤ 2047 := by omega
  have hn0 : numAt (piece next l) 0 = max next (-1) + 1 := num_two _ _ hX.1 (by omega)
  have hp : pagesTo (piece next l) (l.length + 1) = l := pages_body _ l h3
  have hlen : (piece next l).length / 2 = l.length + 1 := by rw [hl]; omega
  have hok : okTo (piece next l) (l.length + 1) = true := by
    unfold okTo
    rw [hp, h3, hn0]
    simp
    omega
  have hf : formOk (piece next l) = true := by
    unfold formOk
    rw [hl]
    simp
    omega
  unfold take?
  rw [hlen, hok, hf, hp, hn0]
  simp

end Go.Proofs.Ytlmgmojicpdbeaa.Ch
