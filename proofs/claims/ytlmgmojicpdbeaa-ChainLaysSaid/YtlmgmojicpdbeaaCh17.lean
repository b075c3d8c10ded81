/- Layer 12, seventeenth part: the function that reads of ChainLays; what is bad; chain.Lay's answer. -/
import Derived.Test.YtlmgmojicpdbeaaCh14
import Derived.Test.YtlmgmojicpdbeaaCh16
namespace Go.Proofs.Ytlmgmojicpdbeaa.Ch
open Go.RowKit Base Crc Go.Maps
set_option linter.unusedVariables false

structure ORead (W0 : World) (go gl : Nat) (A : Option Addr) (c : Nat) (own : List Int) (L : Option Addr) (d : Nat) (texts : List ByteArray) : Prop where
  b1 : Box W0 go 50 #[.slice A own.length c]
  b2 : Box W0 gl 40 #[.slice L texts.length d]
  r1 : Row W0 W0.heap.size A (nums own)
  r2 : Row W0 W0.heap.size L (texts.map .string)
  few : own.length ≤ 1000
  len : texts.length = own.length

set_option maxHeartbeats 1000000 in
theorem oread_yes {W0 : World} {go gl : Nat} {A : Option Addr} {c : Nat} {own : List Int} {L : Option Addr} {d : Nat} {texts : List ByteArray} (h : ORead W0 go gl A c own L d texts)
    (i : Nat) (y : Int) (W : World) (s : ByteArray) (hr : rdOwn own texts y i = some s) (hW : Below W0.heap.size W0 W) :
    Calls Try.prog 53 #[.int .i64 y, .int .i64 i, .pointer (some ⟨go, 0, none⟩), .pointer (some ⟨gl, 0, none⟩)] W fun e W' => e = .returned (.tuple #[.string s, .int .i64 0]) ∧ W = W' := by
  obtain ⟨h1, h2, h3⟩ := rdOwn_in hr
  have hti : i < texts.length := by rw [h.len]; exact h1
  obtain ⟨b, off, rfl, hb, hc⟩ := (h.r1.below hW).at_ (k := i) (by simpa using h1)
  obtain ⟨b', off', rfl, hb', hc'⟩ := (h.r2.below hW).at_ (k := i) (by simpa using hti)
  rw [List.getElem_map] at hc hc'
  rw [List.getElem?_eq_getElem h1] at h2
  rw [List.getElem?_eq_getElem hti] at h3
  injection h2 with h2
  injection h3 with h3
  rw [h2] at hc
  rw [h3] at hc'
  obtain ⟨c0, f0⟩ := (h.b1.below hW h.b1.lt).one
  obtain ⟨c1, f1⟩ := (h.b2.below hW h.b2.lt).one
  have hfew := h.few
  have hlen := h.len
  rw [hlen] at c1 hti
  clear h2 h3 hr h hlen
  generalize own.length = n at *
  have hyy : (y != y) = false := by simp
  have hi0 : ¬ (i : Int) < 0 := by omega
  have hi1 : ¬ (n : Int) ≤ i := by omega
  go_enter Try.func53, Try.ntmps53
  go_wp2_with fail
  go_ret2
  exact ⟨rfl, rfl⟩

set_option maxHeartbeats 1000000 in
theorem oread_no {W0 : World} {go gl : Nat} {A : Option Addr} {c : Nat} {own : List Int} {L : Option Addr} {d : Nat} {texts : List ByteArray} (h : ORead W0 go gl A c own L d texts)
    (i : Nat) (y : Int) (W : World) (hr : rdOwn own texts y i = none) (hi : i ≤ 40) (hW : Below W0.heap.size W0 W) :
    Calls Try.prog 53 #[.int .i64 y, .int .i64 i, .pointer (some ⟨go, 0, none⟩), .pointer (some ⟨gl, 0, none⟩)] W fun e W' => e = .returned (.tuple #[.string ⟨#[]⟩, .int .i64 9]) ∧ W = W' := by
  obtain ⟨c0, f0⟩ := (h.b1.below hW h.b1.lt).one
  have hi0 : ¬ (i : Int) < 0 := by omega
  have hfew := h.few
  by_cases h1 : i < own.length
  · obtain ⟨b, off, rfl, hb, hc⟩ := (h.r1.below hW).at_ (k := i) (by simpa using h1)
    rw [List.getElem_map] at hc
    have hne : own[i] ≠ y := by
      intro e
      unfold rdOwn at hr
      rw [if_pos (by rw [List.getElem?_eq_getElem h1, e]), List.getElem?_eq_getElem (by rw [h.len]; exact h1)] at hr
      cases hr
    have hyy : (own[i] != y) = true := by simpa using hne
    clear hr h hne
    generalize own[i] = x at *
    generalize own.length = n at *
    have hi1 : ¬ (n : Int) ≤ i := by omega
    go_enter Try.func53, Try.ntmps53
    go_wp2_with fail
    go_ret2
    exact ⟨rfl, rfl⟩
  · clear hr h
    generalize own.length = n at *
    have hi1 : (n : Int) ≤ i := by omega
    go_enter Try.func53, Try.ntmps53
    go_wp2_with fail
    go_ret2
    exact ⟨rfl, rfl⟩

def badO (own : List Int) : Nat → Bool
  | 0 => false
  | k + 1 => badO own k || (decide (0 < k) && decide (2046 < own.getD k 0))
def badP (b : Bool) (pages : List Int) : Nat → Bool
  | 0 => b
  | k + 1 => badP b pages k || !okPage (pages.getD k 0)
theorem badO_no {own : List Int} (h : ∀ i, 0 < i → ∀ x, own[i]? = some x → x ≤ 2046) : ∀ k, k ≤ own.length → badO own k = false
  | 0, _ => rfl
  | k + 1, hk => by
    rw [badO, badO_no h k (by omega)]
    by_cases h0 : 0 < k
    · have := h k h0 _ (List.getElem?_eq_getElem (by omega))
      have e : own.getD k 0 = own[k] := by rw [List.getD_eq_getElem?_getD, List.getElem?_eq_getElem (by omega)]; rfl
      rw [e]
      simp
      omega
    · simp [h0]
theorem badO_yes {own : List Int} {i : Nat} (h0 : 0 < i) (hi : i < own.length) (hx : 2046 < own[i]) : ∀ k, i < k → badO own k = true
  | 0, hk => by omega
  | k + 1, hk => by
    rw [badO]
    by_cases e : i < k
    · rw [badO_yes h0 hi hx k e]; rfl
    · have : i = k := by omega
      subst this
      have e : own.getD i 0 = own[i] := by rw [List.getD_eq_getElem?_getD, List.getElem?_eq_getElem hi]; rfl
      rw [e]
      simp [h0, hx]
theorem badP_true (pages : List Int) : ∀ k, badP true pages k = true
  | 0 => rfl
  | k + 1 => by rw [badP, badP_true pages k]; rfl
theorem badP_no {pages : List Int} (h : pages.all okPage = true) : ∀ k, k ≤ pages.length → badP false pages k = false
  | 0, _ => rfl
  | k + 1, hk => by
    rw [badP, badP_no h k (by omega)]
    have e : pages.getD k 0 = pages[k] := by rw [List.getD_eq_getElem?_getD, List.getElem?_eq_getElem (by omega)]; rfl
    rw [e, List.all_eq_true.1 h _ (List.getElem_mem (by omega))]
    rfl
theorem badP_yes {pages : List Int} {i : Nat} (b : Bool) (hi : i < pages.length) (hx : okPage pages[i] = false) : ∀ k, i < k → badP b pages k = true
  | 0, hk => by omega
  | k + 1, hk => by
    rw [badP]
    by_cases e : i < k
    · rw [badP_yes b hi hx k e]; rfl
    · have : i = k := by omega
      subst this
      have e : pages.getD i 0 = pages[i] := by rw [List.getD_eq_getElem?_getD, List.getElem?_eq_getElem hi]; rfl
      rw [e, hx]
      simp
theorem bad_fine {own pages : List Int} (h : Fine own pages) : badP (badO own own.length) pages pages.length = false := by
  rw [badO_no h.1 _ (Nat.le_refl _)]
  exact badP_no h.2 _ (Nat.le_refl _)
theorem bad_not {own pages : List Int} (h : ¬ Fine own pages) : badP (badO own own.length) pages pages.length = true := by
  by_cases h1 : ∀ i, 0 < i → ∀ x, own[i]? = some x → x ≤ 2046
  · have h2 : pages.all okPage ≠ true := fun h2 => h ⟨h1, h2⟩
    rw [ne_eq, List.all_eq_true, Classical.not_forall] at h2
    obtain ⟨x, hx⟩ := h2
    rw [Classical.not_imp] at hx
    obtain ⟨i, hi, rfl⟩ := List.getElem_of_mem hx.1
    exact badP_yes _ hi (by simpa using hx.2) _ hi
  · rw [Classical.not_forall] at h1
    obtain ⟨i, h1⟩ := h1
    rw [Classical.not_imp, Classical.not_forall] at h1
    obtain ⟨h0, x, h1⟩ := h1
    rw [Classical.not_imp] at h1
    have hi : i < own.length := by
      rcases Nat.lt_or_ge i own.length with hh | hh
      · exact hh
      · rw [List.getElem?_eq_none hh] at h1; cases h1.1
    have e : own[i] = x := by
      have := h1.1
      rw [List.getElem?_eq_getElem hi] at this
      injection this
    rw [badO_yes h0 hi (by rw [e]; omega) _ hi]
    exact badP_true _ _

/-- chain.Lay's answer -/
def LayOut (own pages : List Int) (w : World) (e : Ending) (w' : World) : Prop :=
  ∃ A n c x, e = .returned (.tuple #[.slice A n c, .int .i64 x]) ∧ Below w.heap.size w w' ∧ n ≤ 50 ∧
    (Fine own pages ∧ x = 0 ∧ n = own.length ∧ Row w' w'.heap.size A ((layTo own pages own.length).map .string) ∨ ¬ Fine own pages ∧ x = 2 ∧ n = 0)
theorem lay_out (A0 A1 : Option Addr) (c0 c1 : Nat) (own pages : List Int) (w : World) (h0 : own.length ≤ 50) (h1 : pages.length ≤ 5000) (hc0 : own.length ≤ c0) (hc1 : pages.length ≤ c1) (hm1 : c1 ≤ maxLen) (hf : ∀ x ∈ own, fitI x) (r0 : Row w w.heap.size A0 (nums own)) (r1 : Row w w.heap.size A1 (nums pages)) (hc : (own.length : Int) = count pages.length) :
    Calls Try.prog 50 #[.slice A0 own.length c0, .slice A1 pages.length c1] w (LayOut own pages w) := by
  refine lay_loop A0 A1 c0 c1 own pages w h0 h1 hc0 hc1 hm1 hf r0 r1 hc _ ?_ ?_
  · intro hall v w' hown hb
    obtain ⟨A, c, rfl⟩ := own_form hown
    exact ⟨A, own.length, c, 0, rfl, hb, h0, .inl ⟨fine_of hc hall, rfl, rfl, own_row hown⟩⟩
  · intro i hi hw w' hb
    exact ⟨none, 0, 0, 2, rfl, hb, by omega, .inr ⟨fun hfine => hw (wrong_chunk hfine i), rfl, rfl⟩⟩

/-- the pieces are short -/
theorem layTo_size {own pages : List Int} (n : Nat) : ∀ s ∈ layTo own pages n, s.size ≤ maxLen := by
  intro s hs
  unfold layTo at hs
  rw [List.mem_map] at hs
  obtain ⟨i, _, rfl⟩ := hs
  unfold pieceOf
  rw [str_size, piece_len, chunk_len]
  unfold maxLen
  omega

end Go.Proofs.Ytlmgmojicpdbeaa.Ch
