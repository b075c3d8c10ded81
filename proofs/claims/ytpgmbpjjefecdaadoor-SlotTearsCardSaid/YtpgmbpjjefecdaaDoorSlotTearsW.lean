/- The walk of SlotTears: it returns true and writes nothing that was there. -/
import Derived.Test.YtpgmbpjjefecdaaDoorSix
import Derived.Test.YtpgmbpjjefecdaaDoorSl12
import Derived.Test.YtpgmbpjjefecdaaDoorSl13
import Derived.Test.YtpgmbpjjefecdaaDoorSl14
namespace Go.Proofs.YtpgmbpjjefecdaaDoor.slotTears
open Go.RowKit Base Crc Plain Txt Pg Sl
set_option linter.unusedVariables false

theorem walk (a b : Rt) (k : Int) (w : World) (wa : (Lit.int .i64 a.g).wf = true ∧ (Lit.int .i64 a.p).wf = true ∧ (Lit.int .i64 a.m).wf = true ∧ (Lit.int .i64 a.c).wf = true ∧ (Lit.int .i64 a.n).wf = true ∧ (Lit.int .i64 a.t).wf = true)
    (wb : (Lit.int .i64 b.g).wf = true ∧ (Lit.int .i64 b.p).wf = true ∧ (Lit.int .i64 b.m).wf = true ∧ (Lit.int .i64 b.c).wf = true ∧ (Lit.int .i64 b.n).wf = true ∧ (Lit.int .i64 b.t).wf = true) (wk : (Lit.int .i64 k).wf = true) :
    Calls Tryd.prog 10 #[.agg (rtV a), .agg (rtV b), .int .i64 k] w fun e w' => e = .returned (.bool true) ∧ Below w.heap.size w w' := by
  by_cases ha : Ok a
  · have HA : PutsTo a (str (rec9 a)) 0 := fun w => put_yes a w ha
    by_cases hb : Ok b
    · have HB : PutsTo b (str (rec9 b)) 0 := fun w => put_yes b w hb
      by_cases hg : a.g = b.g
      · exact tears3 a b k w _ _ 0 HA HB hg
      · by_cases hk : k < 0
        · exact tears4 a b k w _ _ 0 HA HB hg hk
        · by_cases hk2 : 128 < k
          · exact tears5 a b k w _ _ 0 HA HB hg hk2 (rec_len ha) (rec_len hb)
          · obtain ⟨n, rfl⟩ : ∃ n : Nat, k = (n : Int) := ⟨k.toNat, by omega⟩
            have hn : n ≤ 128 := by omega
            rcases tears a b n ha hb hg hn with h | h | h
            · exact tears6 a b n w _ _ HA HB hg hn (rec_len ha) (rec_len hb) (fun w => take_no _ w (by rw [str_size, torn_len _ _ _ (rec_len ha) (rec_len hb) hn]; decide) h)
            · exact tears7 a b n w _ _ HA HB hg hn (rec_len ha) (rec_len hb) (fun w => take_yes _ _ w h)
            · exact tears8 a b n w _ _ HA HB hg hn (rec_len ha) (rec_len hb) (fun w => take_yes _ _ w h)
    · exact tears2 a b k w _ ⟨#[]⟩ 0 HA (fun w => put_no b w hb)
  · by_cases hb : Ok b
    · exact tears1 a b k w ⟨#[]⟩ _ 0 (fun w => put_no a w ha) (fun w => put_yes b w hb)
    · exact tears1 a b k w ⟨#[]⟩ ⟨#[]⟩ 2 (fun w => put_no a w ha) (fun w => put_no b w hb)

end Go.Proofs.YtpgmbpjjefecdaaDoor.slotTears
