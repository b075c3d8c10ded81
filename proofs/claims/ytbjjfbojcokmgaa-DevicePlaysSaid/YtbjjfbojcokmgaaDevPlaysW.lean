/- DevicePlays, walked: joined. -/
import Derived.Test.YtbjjfbojcokmgaaDevPlaysP
namespace Go.Proofs.Ytbjjfbojcokmgaa.devicePlays
open Go.ChangeShapes Go.WideShapes Go.ChangeAt Go.RowKit Go.Joins Go.Deep Base Dv
set_option linter.unusedVariables false

theorem walk {H : Type} {enc : TypeId × Value → H} {base : Nat} {d : DataW H} {p : List MemPlace} (n : Int) (v : Value) (w : World) (hn : (Lit.int .i64 n).wf = true) (hv : Value.okWide Try.prog w .any base 22 v) (ht : DataW.Trod enc Try.prog w 0 (fun _ => true) true 22 v d p) :
    Calls Try.prog 4 #[.int .i64 n, v] w fun e w' => e = .returned (.bool true) ∧ Below w.heap.size w w' := by
  obtain ⟨o, len, cap, rfl⟩ := okWide_slice Try.underlying22 hv
  obtain ⟨fuel, hf⟩ := ht
  obtain ⟨A, l, c, hvv, hl, hr, ha⟩ := open_acts (v := .slice o len cap) hf
  rw [hvv]
  have HF := few_any A c l w hl (fun a h => ⟨(ha a h).1, (ha a h).2.1⟩) hr
  by_cases hb : 40 < n
  · exact plays_big A c l w n hb
  · rcases hfew : fewA l with _ | _
    · rw [hfew] at HF
      exact plays_many A c l w n (by omega) HF
    · rw [hfew] at HF
      by_cases hs : n < 16
      · exact plays_small A c l w n hs HF
      · obtain ⟨k, rfl⟩ := Int.eq_ofNat_of_zero_le (show 0 ≤ n by omega)
        have h40 : l.length ≤ 40 := by unfold fewA at hfew; simp at hfew; exact hfew.1
        exact plays_yes A c l w k (by omega) (by omega) h40 hr (fun a h => ⟨ha a h, fewA_mem hfew h⟩) HF

end Go.Proofs.Ytbjjfbojcokmgaa.devicePlays
