/- Layer 7 in plain Lean: what stands in a sector behind a cut. -/
import Derived.Test.YtbjjfbojcokmgaaDv7
namespace Go.Proofs.Ytbjjfbojcokmgaa.Dv
set_option linter.unusedVariables false

/-- what the writes have for a sector, in their order -/
def atP (puts : List (Nat × ByteArray)) (i : Nat) : List ByteArray := (puts.filter fun p => p.1 == i).map (·.2)
theorem atP_nil (i : Nat) : atP [] i = [] := rfl
theorem atP_snoc (puts : List (Nat × ByteArray)) (k : Nat) (x : ByteArray) (i : Nat) : atP (puts ++ [(k, x)]) i = if k = i then atP puts i ++ [x] else atP puts i := by
  unfold atP
  rw [List.filter_append, List.map_append]
  by_cases h : k = i
  · rw [if_pos h]; simp [h]
  · rw [if_neg h]; simp [h]
theorem atP_mem {puts : List (Nat × ByteArray)} {p : Nat × ByteArray} (h : p ∈ puts) : p.2 ∈ atP puts p.1 := by
  unfold atP
  exact List.mem_map.2 ⟨p, List.mem_filter.2 ⟨h, by simp⟩, rfl⟩
theorem atP_len (puts : List (Nat × ByteArray)) (i : Nat) : (atP puts i).length ≤ puts.length := by
  unfold atP
  rw [List.length_map]
  exact List.length_filter_le _ _
/-- the sector that a torn write is at -/
def tornAt (puts : List (Nat × ByteArray)) (torn : Int) : Option Nat := if 0 ≤ torn then (puts[torn.toNat]?).map (·.1) else none
theorem tornAt_mem {puts : List (Nat × ByteArray)} {torn : Int} {i : Nat} (h : tornAt puts torn = some i) : atP puts i ≠ [] := by
  unfold tornAt at h
  split at h
  · obtain ⟨p, hp, rfl⟩ := Option.map_eq_some_iff.1 h
    have := atP_mem (List.mem_of_getElem? hp)
    intro e
    rw [e] at this
    cases this
  · cases h
theorem cutTo_known (keep : List Int) (torn : Int) (b : Nat) (sec : List ByteArray) (puts : List (Nat × ByteArray)) (k i : Nat) (hk : k ≤ puts.length) :
    (cutTo keep torn b sec puts k)[i]? = sec[i]? ∨ (∃ x ∈ atP puts i, (cutTo keep torn b sec puts k)[i]? = some x) ∨ tornAt puts torn = some i := by
  induction k with
  | zero => exact .inl rfl
  | succ k ih =>
    have hlt : k < puts.length := hk
    rw [cutTo_succ keep torn b sec puts k hlt]
    have ih := ih (Nat.le_of_lt hlt)
    unfold cut1
    by_cases hi : puts[k].1 = i
    · split
      · rw [List.getElem?_set, if_pos hi]
        split
        · exact .inr (.inl ⟨_, hi ▸ atP_mem (List.getElem_mem hlt), rfl⟩)
        · next hge =>
          refine .inl ?_
          rcases ih with ih | ⟨x, hx, ih⟩ | ih
          all_goals
            have hn : ¬ i < sec.length := by
              intro hh
              have hl : ∀ m, (cutTo keep torn b sec puts m).length = sec.length := by
                intro m
                induction m with
                | zero => rfl
                | succ m im =>
                  show (match puts[m]? with | some p => _ | none => _ : List ByteArray).length = _
                  split
                  · rw [cut1_len, im]
                  · exact im
              rw [hl, hi] at hge
              exact hge hh
            rw [List.getElem?_eq_none (by omega)]
      · split
        · next ht =>
          refine .inr (.inr ?_)
          unfold tornAt
          rw [if_pos (by omega), ← ht]
          simp [hlt, hi]
        · exact ih
    · split
      · rw [List.getElem?_set_ne hi]; exact ih
      · split
        · rw [List.getElem?_set_ne hi]; exact ih
        · exact ih
theorem cutTo_len (keep : List Int) (torn : Int) (b : Nat) (sec : List ByteArray) (puts : List (Nat × ByteArray)) (m : Nat) : (cutTo keep torn b sec puts m).length = sec.length := by
  induction m with
  | zero => rfl
  | succ m im =>
    show (match puts[m]? with | some p => _ | none => _ : List ByteArray).length = _
    split
    · rw [cut1_len, im]
    · exact im
/-- is what stands in a sector known? -/
def knownTo (x y : ByteArray) (l : List ByteArray) (k : Nat) : Bool := x.toList == y.toList || (l.take k).any fun t => x.toList == t.toList
theorem knownTo_zero (x y : ByteArray) (l : List ByteArray) : knownTo x y l 0 = (x.toList == y.toList) := by simp [knownTo]
theorem knownTo_succ (x y : ByteArray) (l : List ByteArray) (k : Nat) (hk : k < l.length) : knownTo x y l (k + 1) = (knownTo x y l k || x.toList == l[k].toList) := by
  unfold knownTo
  rw [List.take_succ_eq_append_getElem hk, List.any_append]
  simp [Bool.or_assoc]
/-- behind a cut: a sector that is not known is the torn write's -/
theorem cut_known (keep : List Int) (torn : Int) (b : Nat) (sec : List ByteArray) (puts : List (Nat × ByteArray)) (i : Nat) (hi : i < sec.length) (hi' : i < (cutTo keep torn b sec puts puts.length).length)
    (h : knownTo (cutTo keep torn b sec puts puts.length)[i] sec[i] (atP puts i) (atP puts i).length = false) : tornAt puts torn = some i := by
  unfold knownTo at h
  rw [List.take_length] at h
  simp only [Bool.or_eq_false_iff] at h
  rcases cutTo_known keep torn b sec puts puts.length i (Nat.le_refl _) with hh | ⟨x, hx, hh⟩ | hh
  · rw [List.getElem?_eq_getElem hi, List.getElem?_eq_getElem hi'] at hh
    injection hh with hh
    rw [hh] at h
    simp at h
  · rw [List.getElem?_eq_getElem hi'] at hh
    injection hh with hh
    have h2 := h.2
    rw [List.any_eq_false] at h2
    have := h2 x hx
    rw [hh] at this
    simp at this
  · exact hh
end Go.Proofs.Ytbjjfbojcokmgaa.Dv
