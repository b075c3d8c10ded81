/- An image, by value, opened. -/
import Derived.Test.YtbjjfbojcokmgaaOpen2
import Derived.Test.YtbjjfbojcokmgaaDv12
namespace Go.Proofs.Ytbjjfbojcokmgaa.Dv
open Go.ChangeShapes Go.WideShapes Go.ChangeAt Go.RowKit Go.Joins Go.Deep Base
set_option linter.unusedVariables false

theorem putI_get {l : List (Int × ByteArray)} {i : Nat} {v : Value} (h : (putI l)[i]? = some v) : ∃ hk : i / 2 < l.length, (i % 2 = 0 ∧ v = .int .i64 l[i / 2].1) ∨ (i % 2 = 1 ∧ v = .string l[i / 2].2) := by
  have hlt : i < (putI l).length := (List.getElem?_eq_some_iff.1 h).1
  rw [putI_len] at hlt
  have hk : i / 2 < l.length := by omega
  refine ⟨hk, ?_⟩
  obtain ⟨e0, e1⟩ := putI_at l (i / 2) hk
  rcases Nat.mod_two_eq_zero_or_one i with h0 | h0
  · left
    rw [show i / 2 * 2 = i by omega, h] at e0
    exact ⟨h0, Option.some.inj e0⟩
  · right
    rw [show i / 2 * 2 + 1 = i by omega, h] at e1
    exact ⟨h0, Option.some.inj e1⟩
section
variable {H : Type} {enc : TypeId × Value → H} {W : World} {base : Nat}
theorem open_puts {v : Value} {b0 : Nat} {sp : Nat → Bool} {held : Bool} {fuel : Nat} {x : DataW H × List MemPlace} (h : DataW.trod enc Try.prog W b0 sp held fuel 36 [v] = some x) :
    ∃ (A : Option Addr) (ps : List (Int × ByteArray)) (c : Nat), v = .slice A ps.length c ∧ ps.length ≤ maxLen ∧ Row W W.heap.size A (putI ps) ∧ ∀ p ∈ ps, p.2.size ≤ maxLen := by
  rcases open_struct_row Try.underlying36 Try.underlying65 (by kernel_rfl) (by kernel_rfl) h with hcs | ⟨a, len, cap, hcs, hl, hm, hc⟩
  · injection hcs with hcs _
    exact ⟨none, [], 0, hcs, Nat.zero_le _, .inl rfl, by simp⟩
  · injection hcs with hcs _
    obtain ⟨ps, hpl, hq⟩ := list_of (fun i (p : Int × ByteArray) => W.cell? (a.add (i * 2)) = some (.int .i64 p.1) ∧ W.cell? (a.add (i * 2 + 1)) = some (.string p.2) ∧ p.2.size ≤ maxLen) len (fun i hi => by
      obtain ⟨u, n, y, hu, hy⟩ := hc i hi 0 _ rfl
      obtain ⟨z, hz, _, _⟩ := DataW.trod_int Try.underlying3 hy
      obtain ⟨u', n', y', hu', hy'⟩ := hc i hi 1 _ rfl
      obtain ⟨s, hs, _, hsz⟩ := DataW.trod_string Try.underlying9 hy'
      injection hz with hz _
      injection hs with hs _
      subst hz hs
      exact ⟨(z, s), hu, hu', hsz⟩)
    refine ⟨some a, ps, cap, by rw [hpl]; exact hcs, by rw [hpl]; omega, row_of_cells fun i u hu => ?_, fun p hp => ?_⟩
    · obtain ⟨hk, ⟨h0, rfl⟩ | ⟨h0, rfl⟩⟩ := putI_get hu
      · have := (hq (i / 2) hk).1
        rw [show i / 2 * 2 = i by omega] at this
        exact this
      · have := (hq (i / 2) hk).2.1
        rw [show i / 2 * 2 + 1 = i by omega] at this
        exact this
    · obtain ⟨i, hi, rfl⟩ := List.getElem_of_mem hp
      exact (hq i hi).2.2
theorem open_image {v : Value} {d : DataW H} {p : List MemPlace} (hv : Value.okWide Try.prog W .any base 38 v) (h : DataW.Trod enc Try.prog W 0 (fun _ => true) true 38 v d p) :
    ∃ (A : Option Addr) (l : List ByteArray) (c : Nat) (A' : Option Addr) (ps : List (Int × ByteArray)) (c' : Nat), v = .agg #[.slice A l.length c, .slice A' ps.length c'] ∧ l.length ≤ maxLen ∧ ps.length ≤ maxLen ∧ Row W W.heap.size A (l.map .string) ∧ Row W W.heap.size A' (putI ps) ∧ (∀ s ∈ l, s.size ≤ maxLen) ∧ ∀ p ∈ ps, p.2.size ≤ maxLen := by
  obtain ⟨cs, rfl, hsz⟩ := okWide_struct Try.underlying38 hv
  have hz : cs.size = 2 := hsz.trans (by kernel_rfl)
  obtain ⟨l⟩ := cs
  match l, hz with
  | [v0, v1], _ =>
    obtain ⟨fuel, hf⟩ := h
    obtain ⟨u, n, y, hu, hy⟩ := field_cell Try.underlying38 (by kernel_rfl) (by kernel_rfl) hf 0 _ rfl
    obtain ⟨u', n', y', hu', hy'⟩ := field_cell Try.underlying38 (by kernel_rfl) (by kernel_rfl) hf 1 _ rfl
    simp [Value.cells] at hu hu'
    subst hu hu'
    obtain ⟨A, l, c, rfl, hlc, hcm, hr, hs⟩ := open_strings_at Try.underlying35 Try.underlying9 (by kernel_rfl) hy
    obtain ⟨A', ps, c', rfl, hpm, hr', hs'⟩ := open_puts hy'
    exact ⟨A, l, c, A', ps, c', rfl, by omega, hpm, hr, hr', hs, hs'⟩
end

end Go.Proofs.Ytbjjfbojcokmgaa.Dv
