/- The walk of SlotAgain: it returns true and writes nothing that was there. -/
import Derived.Test.YtpgmbpjjefecdaaDoorSix
import Derived.Test.YtpgmbpjjefecdaaDoorSl15
import Derived.Test.YtpgmbpjjefecdaaDoorSl16
import Derived.Test.YtpgmbpjjefecdaaDoorSl17
import Derived.Test.YtpgmbpjjefecdaaDoorSl18
import Derived.Test.YtpgmbpjjefecdaaDoorSl19
import Derived.Test.YtpgmbpjjefecdaaDoorSl20
import Derived.Test.YtpgmbpjjefecdaaDoorSl21
import Derived.Test.YtpgmbpjjefecdaaDoorSl22
import Derived.Test.YtpgmbpjjefecdaaDoorSl23
namespace Go.Proofs.YtpgmbpjjefecdaaDoor.slotAgain
open Go.RowKit Base Crc Plain Txt Pg Sl
set_option linter.unusedVariables false

abbrev Wf (a : Rt) : Prop := (Lit.int .i64 a.g).wf = true ∧ (Lit.int .i64 a.p).wf = true ∧ (Lit.int .i64 a.m).wf = true ∧ (Lit.int .i64 a.c).wf = true ∧ (Lit.int .i64 a.n).wf = true ∧ (Lit.int .i64 a.t).wf = true
theorem put_pair (r : Rt) : ∃ (s : ByteArray) (e : Int), PutsTo r s e ∧ (¬ Ok r → e = 2) := by
  by_cases h : Ok r
  · exact ⟨_, 0, fun w => put_yes r w h, fun n => absurd h n⟩
  · exact ⟨_, 2, fun w => put_no r w h, fun _ => rfl⟩
theorem walk (a b c : Rt) (k m : Int) (w : World) (wa : Wf a) (wb : Wf b) (wc : Wf c) (wk : (Lit.int .i64 k).wf = true) (wm : (Lit.int .i64 m).wf = true) :
    Calls Tryd.prog 11 #[.agg (rtV a), .agg (rtV b), .agg (rtV c), .int .i64 k, .int .i64 m] w fun e w' => e = .returned (.bool true) ∧ Below w.heap.size w w' := by
  by_cases ha : Ok a
  · have HA : PutsTo a (str (rec9 a)) 0 := fun w => put_yes a w ha
    have la := rec_len ha
    by_cases hb : Ok b
    · have HB : PutsTo b (str (rec9 b)) 0 := fun w => put_yes b w hb
      have lb := rec_len hb
      by_cases hc : Ok c
      · have HC : PutsTo c (str (rec9 c)) 0 := fun w => put_yes c w hc
        have lc := rec_len hc
        by_cases hg : a.g < c.g
        · by_cases hgb : b.g = c.g
          · by_cases hk : k < 0
            · exact again6 a b c k m w _ _ _ 0 0 HA HB HC hg hgb hk
            · by_cases hk2 : 128 < k
              · exact again7 a b c k m w _ _ _ 0 0 HA HB HC hg hgb (by omega) hk2 la lb
              · by_cases hm : m < 0
                · exact again8 a b c k m w _ _ _ 0 0 HA HB HC hg hgb (by omega) (by omega) hm la lb
                · by_cases hm2 : 128 < m
                  · exact again9 a b c k m w _ _ _ 0 0 HA HB HC hg hgb (by omega) (by omega) (by omega) hm2 la lb lc
                  · obtain ⟨n, rfl⟩ : ∃ n : Nat, k = (n : Int) := ⟨k.toNat, by omega⟩
                    obtain ⟨j, rfl⟩ : ∃ j : Nat, m = (j : Int) := ⟨m.toNat, by omega⟩
                    have hn : n ≤ 128 := by omega
                    have hj : j ≤ 128 := by omega
                    have lt := torn_len _ _ _ la lb hn
                    have hu : (str (torn (torn (rec9 a) (rec9 b) n) (rec9 c) j)).size ≤ maxLen := by rw [str_size, torn_len _ _ _ lt lc hj]; decide
                    have ht : (str (torn (rec9 a) (rec9 b) n)).size ≤ maxLen := by rw [str_size, lt]; decide
                    rcases tears a b n ha hb (by omega) hn with h | h | h
                    · rcases again a b c n j ha hb hc (by omega) hgb hn hj (by rw [h]; exact fun h => by cases h) with h' | h' | h'
                      · exact again11 a b c n j w _ _ _ HA HB HC hg hgb hn hj la lb lc (fun w => take_no _ w ht h) (fun w => take_no _ w hu h')
                      · exact again12 a b c n j w _ _ _ HA HB HC hg hgb hn hj la lb lc (fun w => take_no _ w ht h) (fun w => take_yes _ _ w h')
                      · exact again13 a b c n j w _ _ _ HA HB HC hg hgb hn hj la lb lc (fun w => take_no _ w ht h) (fun w => take_yes _ _ w h')
                    · rcases again a b c n j ha hb hc (by omega) hgb hn hj (by rw [h]; intro h; injection h with h; rw [h] at hg; omega) with h' | h' | h'
                      · exact again14 a b c n j w _ _ _ HA HB HC hg hgb hn hj la lb lc (fun w => take_yes _ _ w h) (fun w => take_no _ w hu h')
                      · exact again15 a b c n j w _ _ _ HA HB HC hg hgb hn hj la lb lc (fun w => take_yes _ _ w h) (fun w => take_yes _ _ w h')
                      · exact again16 a b c n j w _ _ _ HA HB HC hg hgb hn hj la lb lc (fun w => take_yes _ _ w h) (fun w => take_yes _ _ w h')
                    · exact again10 a b c n j w _ _ _ HA HB HC hg hgb hn hj la lb lc (fun w => take_yes _ _ w h)
          · exact again5 a b c k m w _ _ _ 0 0 HA HB HC hg hgb
        · exact again4 a b c k m w _ _ _ 0 0 HA HB HC (by omega)
      · exact again3 a b c k m w _ _ _ 0 2 HA HB (fun w => put_no c w hc)
    · obtain ⟨s3, e3, HC, _⟩ := put_pair c
      exact again2 a b c k m w _ _ s3 2 e3 HA (fun w => put_no b w hb) HC
  · obtain ⟨s2, e2, HB, _⟩ := put_pair b
    obtain ⟨s3, e3, HC, _⟩ := put_pair c
    exact again1 a b c k m w _ s2 s3 e2 e3 (fun w => put_no a w ha) HB HC

end Go.Proofs.YtpgmbpjjefecdaaDoor.slotAgain
