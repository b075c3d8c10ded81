/- A struct of six integers, by value, opened. -/
import Derived.Test.YtpgmbpjjefecdaaDoorOpen
import Derived.Test.YtpgmbpjjefecdaaDoorSl1
namespace Go.Proofs.YtpgmbpjjefecdaaDoor.Base
open Go.ChangeShapes Go.WideShapes Go.ChangeAt Go.RowKit Go.Joins Go.Deep
set_option linter.unusedVariables false

section
variable {H : Type} {enc : TypeId × Value → H} {P : Program} {W : World} {base : Nat}
theorem open_ints_at {t : TypeId} {fs : Array Field} {cs : Array Value} {d : DataW H} {p : List MemPlace} (hs : P.underlying t = some (.struct fs)) (hone : oneCellFields P fs = true)
    (hsz : cs.size = fs.size) (h : DataW.Trod enc P W 0 (fun _ => true) true t (.agg cs) d p) (j : Nat) (f : Field) (hj : fs[j]? = some f) (hi : P.underlying f.type = some (.int .i64)) : ∃ a : Int, cs[j]? = some (.int .i64 a) ∧ (Lit.int .i64 a).wf = true := by
  obtain ⟨fuel, hf⟩ := h
  obtain ⟨xs, n, _, hx, _, hlen, hg⟩ := DataW.trod_struct hs hf
  obtain ⟨ho, hk⟩ := hone_of hone j f hj
  have hjl : j < fs.size := (Array.getElem?_eq_some_iff.1 hj).1
  have h1 := hg j f hj
  rw [ho, hk] at h1
  have e1 : (((Value.agg cs).cells.toList).drop j).take 1 = [cs[j]'(by omega)] := by
    rw [List.drop_eq_getElem_cons (by simp [Value.cells]; omega)]
    simp [Value.cells]
  rw [e1] at h1
  have hys : xs[j]? = some (xs[j]'(by omega)) := List.getElem?_eq_getElem (by omega)
  obtain ⟨a, e2, _, wa⟩ := DataW.trod_int hi (h1.trans hys)
  simp at e2
  exact ⟨a, by rw [Array.getElem?_eq_getElem (by omega), e2], wa⟩
theorem open_root {t : TypeId} {f0 f1 f2 f3 f4 f5 : Field} {v : Value} {d : DataW H} {p : List MemPlace} (hs : P.underlying t = some (.struct #[f0, f1, f2, f3, f4, f5])) (hone : oneCellFields P #[f0, f1, f2, f3, f4, f5] = true) (hC : P.cellsOf t = 6)
    (h0 : P.underlying f0.type = some (.int .i64)) (h1 : P.underlying f1.type = some (.int .i64)) (h2 : P.underlying f2.type = some (.int .i64)) (h3 : P.underlying f3.type = some (.int .i64)) (h4 : P.underlying f4.type = some (.int .i64)) (h5 : P.underlying f5.type = some (.int .i64))
    (hv : Value.okWide P W .any base t v) (h : DataW.Trod enc P W 0 (fun _ => true) true t v d p) :
    ∃ r : Sl.Rt, v = .agg (Sl.rtV r) ∧ (Lit.int .i64 r.g).wf = true ∧ (Lit.int .i64 r.p).wf = true ∧ (Lit.int .i64 r.m).wf = true ∧ (Lit.int .i64 r.c).wf = true ∧ (Lit.int .i64 r.n).wf = true ∧ (Lit.int .i64 r.t).wf = true := by
  obtain ⟨cs, rfl, hsz⟩ := okWide_struct hs hv
  have hz := hsz.trans hC
  obtain ⟨a0, e0, w0⟩ := open_ints_at hs hone hz h 0 f0 rfl h0
  obtain ⟨a1, e1, w1⟩ := open_ints_at hs hone hz h 1 f1 rfl h1
  obtain ⟨a2, e2, w2⟩ := open_ints_at hs hone hz h 2 f2 rfl h2
  obtain ⟨a3, e3, w3⟩ := open_ints_at hs hone hz h 3 f3 rfl h3
  obtain ⟨a4, e4, w4⟩ := open_ints_at hs hone hz h 4 f4 rfl h4
  obtain ⟨a5, e5, w5⟩ := open_ints_at hs hone hz h 5 f5 rfl h5
  refine ⟨⟨a0, a1, a2, a3, a4, a5⟩, ?_, w0, w1, w2, w3, w4, w5⟩
  congr 1
  refine Array.ext_getElem? fun i => ?_
  match i with
  | 0 => exact e0
  | 1 => exact e1
  | 2 => exact e2
  | 3 => exact e3
  | 4 => exact e4
  | 5 => exact e5
  | i + 6 => rw [Array.getElem?_eq_none (by omega), Array.getElem?_eq_none (by simp)]
end

end Go.Proofs.YtpgmbpjjefecdaaDoor.Base
