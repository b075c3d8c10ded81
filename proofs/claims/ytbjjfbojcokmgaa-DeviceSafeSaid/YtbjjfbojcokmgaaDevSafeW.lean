/- DeviceSafe, walked: joined. -/
import Derived.Test.YtbjjfbojcokmgaaDevSafeQ
namespace Go.Proofs.Ytbjjfbojcokmgaa.deviceSafe
open Go.ChangeShapes Go.WideShapes Go.ChangeAt Go.RowKit Go.Joins Go.Deep Base Dv
set_option linter.unusedVariables false

theorem walk {H : Type} {enc : TypeId × Value → H} {base : Nat} {d0 d1 : DataW H} {p0 p1 : List MemPlace} (v0 v1 : Value) (A3 : Option Addr) (keep : List Int) (c3 : Nat) (torn bytes : Int) (w : World)
    (hv0 : Value.okWide Try.prog w .any base 22 v0) (ht0 : DataW.Trod enc Try.prog w 0 (fun _ => true) true 22 v0 d0 p0)
    (hv1 : Value.okWide Try.prog w .any base 22 v1) (ht1 : DataW.Trod enc Try.prog w 0 (fun _ => true) true 22 v1 d1 p1)
    (hg : keep.length ≤ c3) (hm : c3 ≤ maxLen) (hr3 : Row w w.heap.size A3 (keep.map (Value.int .i64))) (hw3 : ∀ n ∈ keep, (Lit.int .i64 n).wf = true) (hw4 : (Lit.int .i64 torn).wf = true) (hw5 : (Lit.int .i64 bytes).wf = true) :
    Calls Try.prog 3 #[v0, v1, .slice A3 keep.length c3, .int .i64 torn, .int .i64 bytes] w fun e w' => e = .returned (.bool true) ∧ Below w.heap.size w w' := by
  obtain ⟨o0, len0, cap0, rfl⟩ := okWide_slice Try.underlying22 hv0
  obtain ⟨fuel0, hf0⟩ := ht0
  obtain ⟨A1, l, c1, hvv0, hl0, hr0, ha0⟩ := open_acts (v := .slice o0 len0 cap0) hf0
  rw [hvv0]
  obtain ⟨o1, len1, cap1, rfl⟩ := okWide_slice Try.underlying22 hv1
  obtain ⟨fuel1, hf1⟩ := ht1
  obtain ⟨A2, more, c2, hvv1, hl1, hr1, ha1⟩ := open_acts (v := .slice o1 len1 cap1) hf1
  rw [hvv1]
  have HF := few_any A1 c1 l w hl0 (fun a h => ⟨(ha0 a h).1, (ha0 a h).2.1⟩) hr0
  have HF2 : ∀ W, Below w.heap.size w W → Calls Try.prog 7 #[.slice A2 more.length c2] W fun e w' => e = .returned (.bool (fewA more)) ∧ Below W.heap.size W w' :=
    fun W hW => few_any A2 c2 more W hl1 (fun a h => ⟨(ha1 a h).1, (ha1 a h).2.1⟩) ((hr1.below hW).more hW.size)
  rcases h1 : fewA l with _ | _
  · rw [h1] at HF
    exact safe_many1 A1 A2 A3 _ _ _ c1 c2 c3 torn bytes w HF
  · rw [h1] at HF
    rcases h2 : fewA more with _ | _
    · rw [h2] at HF2
      exact safe_many2 A1 A2 A3 _ _ _ c1 c2 c3 torn bytes w HF HF2
    · rw [h2] at HF2
      by_cases hk : 100 < keep.length
      · exact safe_many3 A1 A2 A3 _ _ _ c1 c2 c3 torn bytes w hk (by unfold maxLen at hm; omega) HF HF2
      · have h40 : ∀ l : List Ac, fewA l = true → l.length ≤ 40 := fun l h => by unfold fewA at h; simp at h; exact h.1
        exact safe_yes A1 A2 A3 c1 c2 c3 l more keep torn bytes w (h40 _ h1) (h40 _ h2) (by omega) hr0 hr1 hr3 (fun a h => (fewA_mem h1 h).1) (fun a h => (fewA_mem h2 h).1) HF HF2

end Go.Proofs.Ytbjjfbojcokmgaa.deviceSafe
