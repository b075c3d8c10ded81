/- Layer 12, thirteenth part: laying a list, in plain Lean; it leads back. -/
import Derived.Test.YtlmgmojicpdbeaaCh12
namespace Go.Proofs.Ytlmgmojicpdbeaa.Ch
open Go.RowKit Base Crc Go.Maps
set_option linter.unusedVariables false

def nextOf (own : List Int) (i : Nat) : Int := own[i + 1]?.getD (-1)
def chunk (pages : List Int) (i : Nat) : List Int := (pages.drop (122 * i)).take 122
def pieceOf (own pages : List Int) (i : Nat) : ByteArray := str (piece (nextOf own i) (chunk pages i))
/-- the pieces up to the k-th -/
def layTo (own pages : List Int) (k : Nat) : List ByteArray := (List.range k).map (pieceOf own pages)
theorem layTo_succ (own pages : List Int) (k : Nat) : layTo own pages (k + 1) = layTo own pages k ++ [pieceOf own pages k] := by
  unfold layTo
  rw [List.range_succ, List.map_append]
  rfl
theorem layTo_len (own pages : List Int) (k : Nat) : (layTo own pages k).length = k := by simp [layTo]
theorem chunk_len (pages : List Int) (i : Nat) : (chunk pages i).length = min (pages.length - 122 * i) 122 := by
  unfold chunk
  rw [List.length_take, List.length_drop]
  omega
/-- no number that may not be -/
def Fine (own pages : List Int) : Prop := (∀ i, 0 < i → ∀ x, own[i]? = some x → x ≤ 2046) ∧ pages.all okPage = true
theorem wrong_chunk {own pages : List Int} (h : Fine own pages) (i : Nat) : wrong (nextOf own i) (chunk pages i) = 0 := by
  unfold wrong
  rw [if_neg (by rw [chunk_len]; omega)]
  have h1 : nextOf own i ≤ 2046 := by
    unfold nextOf
    rcases hx : own[i + 1]? with _ | x
    · simp
    · simpa using h.1 (i + 1) (by omega) x hx
  rw [if_neg (by omega), if_pos]
  rw [List.all_eq_true]
  intro x hx
  have := List.mem_of_mem_drop (List.mem_of_mem_take hx)
  exact List.all_eq_true.1 h.2 x this
theorem fine_of {own pages : List Int} (hc : (own.length : Int) = count pages.length) (h : ∀ i, i < own.length → wrong (nextOf own i) (chunk pages i) = 0) : Fine own pages := by
  refine ⟨?_, ?_⟩
  · intro i hi x hx
    have hlt : i < own.length := by
      rcases Nat.lt_or_ge i own.length with hh | hh
      · exact hh
      · rw [List.getElem?_eq_none hh] at hx; cases hx
    have h1 := (wrong_zero (h (i - 1) (by omega))).2.1
    unfold nextOf at h1
    rw [show i - 1 + 1 = i by omega, hx] at h1
    simp at h1
    omega
  · rw [List.all_eq_true]
    intro x hx
    obtain ⟨j, hj, rfl⟩ := List.getElem_of_mem hx
    have hc' : j / 122 < own.length := by
      unfold count at hc
      split at hc <;> omega
    have h1 := (wrong_zero (h (j / 122) hc')).2.2
    rw [List.all_eq_true] at h1
    refine h1 _ ?_
    unfold chunk
    have hjl : j % 122 < ((pages.drop (122 * (j / 122))).take 122).length := by
      rw [List.length_take, List.length_drop]
      omega
    have he : ((pages.drop (122 * (j / 122))).take 122)[j % 122] = pages[j] := by
      rw [List.getElem_take, List.getElem_drop]
      congr 1
      omega
    rw [← he]
    exact List.getElem_mem hjl

/-- what ChainLays' function reads -/
def rdOwn (own : List Int) (texts : List ByteArray) (y : Int) (i : Nat) : Option ByteArray := if own[i]? = some y then texts[i]? else none

theorem rdOwn_in {own : List Int} {texts : List ByteArray} {y : Int} {i : Nat} {s : ByteArray} (h : rdOwn own texts y i = some s) : i < own.length ∧ own[i]? = some y ∧ texts[i]? = some s := by
  unfold rdOwn at h
  split at h
  · rename_i hh
    refine ⟨?_, hh, h⟩
    rcases Nat.lt_or_ge i own.length with hl | hl
    · exact hl
    · rw [List.getElem?_eq_none hl] at hh; cases hh
  · cases h
theorem stOwn_few {own : List Int} {texts : List ByteArray} {pages first : Int} : ∀ (i : Nat) (S : St), st (rdOwn own texts) pages first i = .ok S → i ≤ own.length
  | 0, _, _ => Nat.zero_le _
  | i + 1, S, h => by
    rw [st] at h
    split at h
    · cases h
    · obtain ⟨s, next, l, hr, _⟩ := step_ok h
      exact (rdOwn_in hr).1

theorem take_chunk (pages : List Int) (i : Nat) : pages.take (122 * (i + 1)) = pages.take (122 * i) ++ chunk pages i := by
  unfold chunk
  rw [show 122 * (i + 1) = 122 * i + 122 by omega, List.take_add]

theorem leads_back {own pages : List Int} (hc : (own.length : Int) = count pages.length) (hfine : Fine own pages) (hnd : (own ++ pages).Nodup) (hneg : ∀ i, 0 < i → ∀ x, own[i]? = some x → 0 ≤ x) (h0 : own ≠ []) :
    ∀ i, i ≤ own.length → st (rdOwn own (layTo own pages own.length)) pages.length (own.head h0) i = .ok (own.take i, pages.take (122 * i), own[i]?.getD (-1))
  | 0, _ => by
    obtain ⟨x, r, rfl⟩ := List.exists_cons_of_ne_nil h0
    simp [st]
  | i + 1, hi => by
    have ih := leads_back hc hfine hnd hneg h0 i (by omega)
    have hil : i < own.length := by omega
    have hat : own[i]?.getD (-1) = own[i] := by rw [List.getElem?_eq_getElem hil]; rfl
    have hrd : rdOwn own (layTo own pages own.length) (own[i]?.getD (-1)) i = some (pieceOf own pages i) := by
      unfold rdOwn
      rw [hat, if_pos (List.getElem?_eq_getElem hil)]
      unfold layTo
      rw [List.getElem?_map, List.getElem?_range hil]
      rfl
    have hnx : -1 ≤ nextOf own i := by
      unfold nextOf
      rcases hx : own[i + 1]? with _ | x
      · simp
      · have := hneg (i + 1) (by omega) x hx
        simp
        omega
    have htk : take? (pieceOf own pages i).data.toList = some (nextOf own i, chunk pages i) := by
      have h := take_piece (nextOf own i) (chunk pages i) (wrong_chunk hfine i)
      rw [show max (nextOf own i) (-1) = nextOf own i by omega] at h
      exact h
    have hpos : 0 < pages.length := by
      unfold count at hc
      split at hc <;> omega
    have hcount : ((i : Int) + 1 = count pages.length) ↔ i + 1 = own.length := by rw [← hc]; omega
    have hgood : good pages.length i (own.take i, pages.take (122 * i), own[i]?.getD (-1)) (nextOf own i) (chunk pages i) := by
      refine ⟨?_, ?_, ?_⟩
      · rw [hat]
        show ((own.take i ++ [own[i]]) ++ (pages.take (122 * i) ++ chunk pages i)).Nodup
        rw [← take_chunk, ← List.take_succ_eq_append_getElem hil]
        exact List.Nodup.sublist ((List.take_sublist _ _).append (List.take_sublist _ _)) hnd
      · show ((chunk pages i).length : Int) = min ((pages.length : Int) - ((pages.take (122 * i)).length : Int)) 122
        have hlt : 122 * i < pages.length := by
          unfold count at hc
          split at hc <;> omega
        rw [chunk_len, List.length_take]
        omega
      · by_cases hlast : i + 1 = own.length
        · have h1 : nextOf own i = -1 := by
            unfold nextOf
            rw [List.getElem?_eq_none (by omega)]
            rfl
          rw [h1]
          simp only [decide_eq_decide]
          exact ⟨fun _ => by omega, fun _ => hcount.2 hlast⟩
        · have h1 : 0 ≤ nextOf own i := by
            unfold nextOf
            rw [List.getElem?_eq_getElem (by omega)]
            exact hneg (i + 1) (by omega) _ (List.getElem?_eq_getElem (by omega))
          simp only [decide_eq_decide]
          exact ⟨fun h => absurd (hcount.1 h) hlast, fun h => by omega⟩
    rw [st_next ih hrd htk hgood, hat]
    show Except.ok (own.take i ++ [own[i]], pages.take (122 * i) ++ chunk pages i, nextOf own i) = _
    rw [← take_chunk, ← List.take_succ_eq_append_getElem hil]
    rfl
theorem back_out {own pages : List Int} (hc : (own.length : Int) = count pages.length) (hfine : Fine own pages) (hnd : (own ++ pages).Nodup) (hneg : ∀ i, 0 < i → ∀ x, own[i]? = some x → 0 ≤ x) (h0 : own ≠ []) :
    outOf (st (rdOwn own (layTo own pages own.length)) pages.length (own.head h0) (count pages.length).toNat) = (own, pages, 0) := by
  rw [← hc, Int.toNat_natCast, leads_back hc hfine hnd hneg h0 own.length (Nat.le_refl _)]
  have : pages.length ≤ 122 * own.length := by
    unfold count at hc
    split at hc <;> omega
  simp only [outOf, List.take_length]
  rw [List.take_of_length_le this]

end Go.Proofs.Ytlmgmojicpdbeaa.Ch
