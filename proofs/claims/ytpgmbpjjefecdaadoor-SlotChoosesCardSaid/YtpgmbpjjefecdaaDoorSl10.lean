/- Layer 9, tenth part, in plain Lean: torn records. -/
import Derived.Test.YtpgmbpjjefecdaaDoorSl9
namespace Go.Proofs.YtpgmbpjjefecdaaDoor.Sl
open Go.RowKit Base Crc Txt Plain Pg
set_option linter.unusedVariables false

/-- of what may be a record: how long, its mark, its number at both ends -/
structure Rim (l : List UInt8) : Prop where
  len : l.length = 128
  mark : l[0]? = some 86
  both : ∀ j, j < 6 → l[1 + j]? = l[122 + j]?
theorem front_at (l : List UInt8) (hl : l.length = 128) (i : Nat) (hi : i < 118) : (front (l.take 122))[i]? = l[i]? := by
  unfold front
  rw [List.getElem?_take, List.length_take, hl, if_pos (by omega), List.getElem?_take, if_pos (by omega)]
theorem form_rim {l : List UInt8} (h : formR l) : Rim l := by
  obtain ⟨h1, _, h3, h4⟩ := h
  refine ⟨h1, ?_, ?_⟩
  · rw [List.getD_eq_getElem?_getD, front_at l h1 0 (by omega)] at h3
    rcases hx : l[0]? with _ | x
    · rw [List.getElem?_eq_none_iff] at hx
      omega
    · rw [hx] at h3
      simp at h3
      rw [h3]
  · intro j hj
    have := congrArg (fun k => k[j]?) h4
    simp only [List.getElem?_drop, List.getElem?_take] at this
    rw [if_pos hj, front_at l h1 (1 + j) (by omega)] at this
    exact this
theorem rec_form (r : Rt) (h : Ok r) : formR (rec9 r) := by
  by_cases hf : formR (rec9 r)
  · exact hf
  · have := stake_rec r h
    rw [stake_form hf] at this
    cases this
theorem rec_six (r : Rt) (h : Ok r) (j : Nat) : (rec9 r)[122 + j]? = (six r.g.toNat)[j]? := by
  rw [← (rec_take r h).2, List.getElem?_drop]
/-- a torn text: the beginning of one, the rest of the other -/
def torn (a b : List UInt8) (k : Nat) : List UInt8 := b.take k ++ a.drop k
theorem torn_at (a b : List UInt8) (k : Nat) (ha : a.length = 128) (hb : b.length = 128) (hk : k ≤ 128) (i : Nat) : (torn a b k)[i]? = if i < k then b[i]? else a[i]? := by
  unfold torn
  by_cases h : i < k
  · rw [if_pos h, List.getElem?_append_left (by rw [List.length_take]; omega), List.getElem?_take, if_pos h]
  · rw [if_neg h, List.getElem?_append_right (by rw [List.length_take]; omega), List.length_take, List.getElem?_drop]
    congr 1
    omega
theorem torn_len (a b : List UInt8) (k : Nat) (ha : a.length = 128) (hb : b.length = 128) (hk : k ≤ 128) : (torn a b k).length = 128 := by
  unfold torn
  rw [List.length_append, List.length_take, List.length_drop]
  omega
theorem torn_rim {a b : List UInt8} {k : Nat} (ha : Rim a) (hb : Rim b) (hk : k ≤ 128) (hne : ∃ j, j < 6 ∧ a[122 + j]? ≠ b[122 + j]?) (h : Rim (torn a b k)) : torn a b k = a ∨ torn a b k = b := by
  have at_ := torn_at a b k ha.len hb.len hk
  have both := h.both
  by_cases h1 : k ≤ 7
  · left
    refine List.ext_getElem? fun i => ?_
    rw [at_ i]
    by_cases hi : i < k
    · rw [if_pos hi]
      rcases Nat.eq_zero_or_pos i with rfl | hp
      · rw [ha.mark, hb.mark]
      · obtain ⟨j, rfl⟩ : ∃ j, i = 1 + j := ⟨i - 1, by omega⟩
        have := both j (by omega)
        rw [at_, at_, if_pos hi, if_neg (by omega)] at this
        rw [this, ha.both j (by omega)]
    · rw [if_neg hi]
  · by_cases h2 : k ≤ 122
    · exfalso
      obtain ⟨j, hj, hn⟩ := hne
      have := both j hj
      rw [at_, at_, if_pos (by omega), if_neg (by omega), hb.both j hj] at this
      exact hn this.symm
    · right
      refine List.ext_getElem? fun i => ?_
      rw [at_ i]
      by_cases hi : i < k
      · rw [if_pos hi]
      · rw [if_neg hi]
        by_cases h3 : i < 128
        · obtain ⟨j, rfl⟩ : ∃ j, i = 122 + j := ⟨i - 122, by omega⟩
          have := both j (by omega)
          rw [at_, at_, if_pos (by omega), if_neg hi, hb.both j (by omega)] at this
          exact this.symm
        · rw [List.getElem?_eq_none (by have := ha.len; omega), List.getElem?_eq_none (by have := hb.len; omega)]
theorem six_ne (m n : Nat) (hm : m ≤ 1099511627776) (hn : n ≤ 1099511627776) (h : m ≠ n) : ∃ j, j < 6 ∧ (six m)[j]? ≠ (six n)[j]? := by
  by_cases hx : ∃ j, j < 6 ∧ (six m)[j]? ≠ (six n)[j]?
  · exact hx
  · exfalso
    apply h
    rw [← val_six m hm, ← val_six n hn]
    congr 1
    refine List.ext_getElem? fun i => ?_
    by_cases hi : i < 6
    · by_cases he : (six m)[i]? = (six n)[i]?
      · exact he
      · exact absurd ⟨i, hi, he⟩ hx
    · rw [List.getElem?_eq_none (by rw [six_len]; omega), List.getElem?_eq_none (by rw [six_len]; omega)]
theorem rec_ne (a b : Rt) (ha : Ok a) (hb : Ok b) (h : a.g ≠ b.g) : ∃ j, j < 6 ∧ (rec9 a)[122 + j]? ≠ (rec9 b)[122 + j]? := by
  have a1 := ha.g1
  have a2 := ha.g2
  have b1 := hb.g1
  have b2 := hb.g2
  obtain ⟨j, hj, hn⟩ := six_ne a.g.toNat b.g.toNat (by omega) (by omega) (by omega)
  exact ⟨j, hj, by rw [rec_six a ha, rec_six b hb]; exact hn⟩
theorem stake_rim {l : List UInt8} {r : Rt} (h : stake l = some r) : Rim l := by
  by_cases hf : formR l
  · exact form_rim hf
  · rw [stake_form hf] at h; cases h
/-- the one that was, the one that is written, or none -/
theorem tears (a b : Rt) (k : Nat) (ha : Ok a) (hb : Ok b) (hg : a.g ≠ b.g) (hk : k ≤ 128) : stake (torn (rec9 a) (rec9 b) k) = none ∨ stake (torn (rec9 a) (rec9 b) k) = some a ∨ stake (torn (rec9 a) (rec9 b) k) = some b := by
  rcases h : stake (torn (rec9 a) (rec9 b) k) with _ | x
  · exact .inl rfl
  · right
    rw [← h]
    rcases torn_rim (form_rim (rec_form a ha)) (form_rim (rec_form b hb)) hk (rec_ne a b ha hb hg) (stake_rim h) with e | e
    · rw [e]; exact .inl (stake_rec a ha)
    · rw [e]; exact .inr (stake_rec b hb)
/-- .. and where a torn write of the same number was -/
theorem again_rim {a b c : List UInt8} {k m : Nat} (ha : Rim a) (hb : Rim b) (hc : Rim c) (hk : k ≤ 128) (hm : m ≤ 128) (hne : ∃ j, j < 6 ∧ a[122 + j]? ≠ b[122 + j]?) (hbc : ∀ j, j < 6 → b[122 + j]? = c[122 + j]?)
    (hl : torn a b k ≠ b) (h : Rim (torn (torn a b k) c m)) : torn (torn a b k) c m = a ∨ torn (torn a b k) c m = c := by
  have at1 := torn_at a b k ha.len hb.len hk
  have at2 := torn_at (torn a b k) c m (torn_len a b k ha.len hb.len hk) hc.len hm
  have both := h.both
  have hleft : (∀ j, j < 6 → (torn a b k)[122 + j]? = b[122 + j]?) → False := by
    intro hall
    by_cases h2 : k ≤ 122
    · obtain ⟨j, hj, hn⟩ := hne
      have := hall j hj
      rw [at1, if_neg (by omega)] at this
      exact hn this
    · apply hl
      refine List.ext_getElem? fun i => ?_
      by_cases hi : i < k
      · rw [at1, if_pos hi]
      · by_cases h3 : i < 128
        · obtain ⟨j, rfl⟩ : ∃ j, i = 122 + j := ⟨i - 122, by omega⟩
          exact hall j (by omega)
        · rw [at1, if_neg hi, List.getElem?_eq_none (by have := ha.len; omega), List.getElem?_eq_none (by have := hb.len; omega)]
  by_cases h2 : 122 < m
  · right
    refine List.ext_getElem? fun i => ?_
    rw [at2 i]
    by_cases hi : i < m
    · rw [if_pos hi]
    · rw [if_neg hi]
      by_cases h3 : i < 128
      · obtain ⟨j, rfl⟩ : ∃ j, i = 122 + j := ⟨i - 122, by omega⟩
        have := both j (by omega)
        rw [at2, at2, if_pos (by omega), if_neg hi, hc.both j (by omega)] at this
        exact this.symm
      · have e1 : c[i]? = none := List.getElem?_eq_none (by have := hc.len; omega)
        have e2 : b[i]? = none := List.getElem?_eq_none (by have := hb.len; omega)
        have e3 : a[i]? = none := List.getElem?_eq_none (by have := ha.len; omega)
        rw [at1, e1, e2, e3]
        simp
  · by_cases h1 : k < 7 ∧ m < 7
    · left
      have hall : ∀ j, j < 6 → 1 + j < max k m → b[1 + j]? = a[1 + j]? := by
        intro j hj hlt
        have := both j hj
        rw [at2, at2, if_neg (show ¬ 122 + j < m by omega), at1, at1, if_neg (show ¬ 122 + j < k by omega)] at this
        rw [ha.both j hj, ← this]
        by_cases hi : 1 + j < m
        · rw [if_pos hi, hb.both j hj, hbc j hj, ← hc.both j hj]
        · rw [if_neg hi, if_pos (by omega)]
      refine List.ext_getElem? fun i => ?_
      rw [at2 i, at1 i]
      by_cases hi : i < max k m
      · rcases Nat.eq_zero_or_pos i with rfl | hp
        · rw [ha.mark, hb.mark, hc.mark]; simp
        · obtain ⟨j, rfl⟩ : ∃ j, i = 1 + j := ⟨i - 1, by omega⟩
          have e := hall j (by omega) hi
          have e' : c[1 + j]? = a[1 + j]? := by rw [hc.both j (by omega), ← hbc j (by omega), ← hb.both j (by omega), e]
          rw [e, e']; simp
      · rw [if_neg (by omega), if_neg (by omega)]
    · exfalso
      apply hleft
      intro j hj
      have := both j hj
      rw [at2, at2, if_neg (show ¬ 122 + j < m by omega)] at this
      rw [← this]
      by_cases hi : 1 + j < m
      · rw [if_pos hi, hc.both j hj, hbc j hj]
      · rw [if_neg hi, at1, if_pos (by omega), hb.both j hj]
theorem again (a b c : Rt) (k m : Nat) (ha : Ok a) (hb : Ok b) (hc : Ok c) (hg : a.g ≠ c.g) (hgb : b.g = c.g) (hk : k ≤ 128) (hm : m ≤ 128)
    (hl : stake (torn (rec9 a) (rec9 b) k) ≠ some b) :
    stake (torn (torn (rec9 a) (rec9 b) k) (rec9 c) m) = none ∨ stake (torn (torn (rec9 a) (rec9 b) k) (rec9 c) m) = some a ∨ stake (torn (torn (rec9 a) (rec9 b) k) (rec9 c) m) = some c := by
  rcases h : stake (torn (torn (rec9 a) (rec9 b) k) (rec9 c) m) with _ | x
  · exact .inl rfl
  · right
    rw [← h]
    rcases again_rim (form_rim (rec_form a ha)) (form_rim (rec_form b hb)) (form_rim (rec_form c hc)) hk hm (rec_ne a b ha hb (by rw [hgb]; exact hg)) (fun j _ => by rw [rec_six b hb, rec_six c hc, hgb]) (fun e => hl (by rw [e]; exact stake_rec b hb)) (stake_rim h) with e | e
    · rw [e]; exact .inl (stake_rec a ha)
    · rw [e]; exact .inr (stake_rec c hc)

end Go.Proofs.YtpgmbpjjefecdaaDoor.Sl
