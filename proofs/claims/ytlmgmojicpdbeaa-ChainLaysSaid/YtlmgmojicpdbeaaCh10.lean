/- Layer 12, tenth part: the functions that read, of ChainFollows and of ChainLays. -/
import Derived.Test.YtlmgmojicpdbeaaCh9
namespace Go.Proofs.Ytlmgmojicpdbeaa.Ch
open Go.RowKit Base Crc Go.Maps
set_option linter.unusedVariables false

/-- what ChainFollows' function reads -/
def rdTexts (texts : List ByteArray) (y : Int) (_ : Nat) : Option ByteArray := if 0 ≤ y ∧ y < texts.length then texts[y.toNat]? else none

structure Reads (w0 : World) (gr gs gt : Nat) (A : Option Addr) (c : Nat) (texts : List ByteArray) (i : Nat) (W : World) : Prop where
  right : Box W gr 4 #[.bool true]
  seen : Box W gs 3 #[.int .i64 (i : Nat)]
  text : Box W gt 40 #[.slice A texts.length c]
  row : Row W w0.heap.size A (texts.map .string)
  below : Below w0.heap.size w0 W

theorem Reads.keep {w0 : World} {gr gs gt : Nat} {A : Option Addr} {c : Nat} {texts : List ByteArray} {i : Nat} {W W' : World} (h : Reads w0 gr gs gt A c texts i W) {B : Nat} (hb : Below B W W') (h1 : gr < B) (h2 : gs < B) (h3 : gt < B) (h4 : w0.heap.size ≤ B) : Reads w0 gr gs gt A c texts i W' :=
  ⟨h.right.below hb h1, h.seen.below hb h2, h.text.below hb h3, h.row.below (hb.mono h4), h.below.trans (hb.mono h4)⟩

theorem Reads.next {w0 : World} {gr gs gt : Nat} {A : Option Addr} {c : Nat} {texts : List ByteArray} {i : Nat} {W : World} (h : Reads w0 gr gs gt A c texts i W) (h1 : gr ≠ gs) (h2 : gr ≠ gt) (h3 : gs ≠ gt) (g1 : w0.heap.size ≤ gr) (g2 : w0.heap.size ≤ gs) :
    Reads w0 gr gs gt A c texts (i + 1) ((W.setCell ⟨gr, 0, none⟩ (.bool true)).setCell ⟨gs, 0, none⟩ (.int .i64 ((i : Int) + 1))) := by
  have hb : Below w0.heap.size W ((W.setCell ⟨gr, 0, none⟩ (.bool true)).setCell ⟨gs, 0, none⟩ (.int .i64 ((i : Int) + 1))) := ((Below.refl _ _).setCell g1 _).setCell g2 _
  exact ⟨(h.right.set 0 (.bool true)).far h1 _, by have := (h.seen.far (p := ⟨gr, 0, none⟩) (Ne.symm h1) (.bool true)).set 0 (.int .i64 ((i : Int) + 1)); simpa using this, (h.text.far (p := ⟨gr, 0, none⟩) (Ne.symm h2) _).far (Ne.symm h3) _, h.row.below hb, h.below.trans hb⟩
theorem over_set {B : Nat} {W : World} {p : Addr} {v : Value} (h : p.block < B) : Over B W (W.setCell p v) :=
  ⟨by simp, fun k h1 h2 => Below.heap_setCell W p v k (by omega)⟩

theorem read_yes (w0 : World) (gr gs gt : Nat) (A : Option Addr) (c : Nat) (texts : List ByteArray) (B : Nat) (h1 : gr ≠ gs) (h2 : gr ≠ gt) (h3 : gs ≠ gt) (g1 : w0.heap.size ≤ gr) (g2 : w0.heap.size ≤ gs) (b1 : gr < B) (b2 : gs < B) (hl : texts.length ≤ 1000)
    (i : Nat) (y : Int) (W : World) (s : ByteArray) (hr : rdTexts texts y i = some s) (hi : i ≤ 40) (hI : Reads w0 gr gs gt A c texts i W) :
    Calls Try.prog 48 #[.int .i64 y, .int .i64 i, .pointer (some ⟨gr, 0, none⟩), .pointer (some ⟨gs, 0, none⟩), .pointer (some ⟨gt, 0, none⟩)] W fun e W' => e = .returned (.tuple #[.string s, .int .i64 0]) ∧ Reads w0 gr gs gt A c texts (i + 1) W' ∧ Over B W W' := by
  unfold rdTexts at hr
  split at hr
  · rename_i hy
    obtain ⟨n, rfl⟩ : ∃ n : Nat, y = n := ⟨y.toNat, by omega⟩
    have hn : n < texts.length := by omega
    rw [Int.toNat_natCast, List.getElem?_eq_getElem hn] at hr
    injection hr with hr
    obtain ⟨b, off, rfl, hb, hc⟩ := hI.row.at_ (k := n) (by simpa using hn)
    rw [List.getElem_map, hr] at hc
    clear hr
    have HI := Lib.hid hI
    obtain ⟨c0, f0⟩ := hI.right.one
    obtain ⟨c1, f1⟩ := (hI.seen.far (p := ⟨gr, 0, none⟩) (Ne.symm h1) (.bool true)).one
    obtain ⟨c2, f2⟩ := hI.seen.one
    obtain ⟨c3, f3⟩ := ((hI.text.far (p := ⟨gr, 0, none⟩) (Ne.symm h2) (.bool true)).far (p := ⟨gs, 0, none⟩) (Ne.symm h3) (.int .i64 ((i : Int) + 1))).one
    have hbr : b ≠ gr := by omega
    have hbs : b ≠ gs := by omega
    have hc' : ((W.setCell ⟨gr, 0, none⟩ (.bool true)).setCell ⟨gs, 0, none⟩ (.int .i64 ((i : Int) + 1))).cell? ⟨b, off + n, none⟩ = some (.string s) := by
      refine Eq.trans (World.cell?_of_block ?_) hc
      exact (Below.heap_setCell _ _ _ _ hbs).trans (Below.heap_setCell _ _ _ _ hbr)
    clear hI hc
    generalize texts.length = m at *
    go_enter Try.func48, Try.ntmps48
    go_wp2_with fail
    go_ret2
    exact ⟨rfl, HI.out.next h1 h2 h3 g1 g2, (over_set b1).trans (over_set b2)⟩
  · cases hr
theorem read_no (w0 : World) (gr gs gt : Nat) (A : Option Addr) (c : Nat) (texts : List ByteArray) (B : Nat) (h1 : gr ≠ gs) (h2 : gr ≠ gt) (h3 : gs ≠ gt) (g1 : w0.heap.size ≤ gr) (g2 : w0.heap.size ≤ gs) (b1 : gr < B) (b2 : gs < B) (hl : texts.length ≤ 1000)
    (i : Nat) (y : Int) (W : World) (hr : rdTexts texts y i = none) (hi : i ≤ 40) (hI : Reads w0 gr gs gt A c texts i W) :
    Calls Try.prog 48 #[.int .i64 y, .int .i64 i, .pointer (some ⟨gr, 0, none⟩), .pointer (some ⟨gs, 0, none⟩), .pointer (some ⟨gt, 0, none⟩)] W fun e W' => e = .returned (.tuple #[.string ⟨#[]⟩, .int .i64 9]) ∧ Reads w0 gr gs gt A c texts (i + 1) W' ∧ Over B W W' := by
  have hy : y < 0 ∨ ¬ y < 0 ∧ (texts.length : Int) ≤ y := by
    unfold rdTexts at hr
    split at hr
    · rename_i hy
      rw [List.getElem?_eq_getElem (by omega)] at hr
      cases hr
    · omega
  have HI := Lib.hid hI
  obtain ⟨c0, f0⟩ := hI.right.one
  obtain ⟨c1, f1⟩ := (hI.seen.far (p := ⟨gr, 0, none⟩) (Ne.symm h1) (.bool true)).one
  obtain ⟨c2, f2⟩ := hI.seen.one
  obtain ⟨c3, f3⟩ := ((hI.text.far (p := ⟨gr, 0, none⟩) (Ne.symm h2) (.bool true)).far (p := ⟨gs, 0, none⟩) (Ne.symm h3) (.int .i64 ((i : Int) + 1))).one
  clear hI hr
  generalize texts.length = m at *
  rcases hy with hy | ⟨hy, hm⟩
  · go_enter Try.func48, Try.ntmps48
    go_wp2_with fail
    go_ret2
    exact ⟨rfl, HI.out.next h1 h2 h3 g1 g2, (over_set b1).trans (over_set b2)⟩
  · go_enter Try.func48, Try.ntmps48
    go_wp2_with fail
    go_ret2
    exact ⟨rfl, HI.out.next h1 h2 h3 g1 g2, (over_set b1).trans (over_set b2)⟩

theorem rdTexts_in {texts : List ByteArray} {y : Int} {i : Nat} {s : ByteArray} (h : rdTexts texts y i = some s) : 0 ≤ y ∧ y < texts.length ∧ s ∈ texts := by
  unfold rdTexts at h
  split at h
  · rename_i hy
    exact ⟨hy.1, hy.2, List.mem_of_getElem? h⟩
  · cases h
theorem nodup_lt : ∀ (n : Nat) (l : List Nat), l.Nodup → (∀ x ∈ l, x < n) → l.length ≤ n
  | 0, [], _, _ => Nat.le_refl _
  | 0, x :: l, _, h => by have := h x List.mem_cons_self; omega
  | n + 1, l, hn, h => by
    have h1 : (l.erase n).Nodup := hn.erase n
    have h2 := nodup_lt n (l.erase n) h1 (fun x hx => by
      have := (hn.mem_erase_iff).1 hx
      have := h x this.2
      omega)
    have h3 : l.length ≤ (l.erase n).length + 1 := by
      rw [List.length_erase]
      split <;> omega
    omega
/-- the places stand within the texts, each once: there are no more rounds than texts -/
theorem st_in {texts : List ByteArray} {pages first : Int} : ∀ (i : Nat) (S : St), st (rdTexts texts) pages first i = .ok S → ∀ x ∈ S.1, 0 ≤ x ∧ x < texts.length
  | 0, S, h => by
    simp only [st, Except.ok.injEq] at h
    subst h
    simp
  | i + 1, S, h => by
    rw [st] at h
    split at h
    · cases h
    · rename_i S0 h0
      have F := st_in i S0 h0
      obtain ⟨s, next, l, hr, ht, hg, rfl⟩ := step_ok h
      have hh := rdTexts_in hr
      intro x hx
      rcases List.mem_append.1 hx with hx | hx
      · exact F x hx
      · simp at hx; subst hx; exact ⟨hh.1, hh.2.1⟩
theorem st_few {texts : List ByteArray} {pages first : Int} (hf : fitI first) (i : Nat) (S : St) (h : st (rdTexts texts) pages first i = .ok S) : i ≤ texts.length := by
  have F := st_facts hf i S h
  have hin := st_in i S h
  have hn := (List.nodup_append.1 F.nodup).1
  rw [← F.len]
  have hn2 : (S.1.map Int.toNat).Nodup := by
    rw [List.nodup_iff_pairwise_ne, List.pairwise_map]
    refine List.Pairwise.imp_of_mem ?_ hn
    intro a b ha hb hab
    have := hin a ha
    have := hin b hb
    omega
  have := nodup_lt texts.length _ hn2 (by
    intro x hx
    rw [List.mem_map] at hx
    obtain ⟨a, ha, rfl⟩ := hx
    have := hin a ha
    omega)
  simpa using this

end Go.Proofs.Ytlmgmojicpdbeaa.Ch
