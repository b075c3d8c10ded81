/- Layer 9, seventh part: slot.Place, slot.Stands, slot.Choose; the chapter's example. -/
import Derived.Test.YtpgmbpjjefecdaaDoorSl6
namespace Go.Proofs.YtpgmbpjjefecdaaDoor.Sl
open Go.RowKit Base Crc Txt Plain Pg
set_option linter.unusedVariables false

theorem take_yes (s : ByteArray) (r : Rt) (w : World) (h : stake s.data.toList = some r) :
    Calls Tryd.prog 33 #[.string s] w fun e w' => e = .returned (.tuple #[.agg (rtV r), .int .i64 0]) ∧ Below w.heap.size w w' := by
  have hl : s.data.toList.length = 128 := by
    by_cases hf : formR s.data.toList
    · exact hf.1
    · rw [stake_form hf] at h; cases h
  have := take_sector s.data.toList w hl
  rw [str_of] at this
  refine this.mono ?_
  rintro e w' ⟨hb, ⟨r', h', rfl⟩ | ⟨h', _⟩⟩
  · rw [h] at h'
    injection h' with h'
    subst h'
    exact ⟨rfl, hb⟩
  · rw [h] at h'; cases h'
theorem take_no (s : ByteArray) (w : World) (hm : s.size ≤ maxLen) (h : stake s.data.toList = none) :
    Calls Tryd.prog 33 #[.string s] w fun e w' => e = .returned tnone ∧ Below w.heap.size w w' := by
  by_cases hl : s.size = 128
  · have := take_sector s.data.toList w (by simpa using hl)
    rw [str_of] at this
    refine this.mono ?_
    rintro e w' ⟨hb, ⟨r', h', rfl⟩ | ⟨h', rfl⟩⟩
    · rw [h] at h'; cases h'
    · exact ⟨rfl, hb⟩
  · exact take_size s w hm hl
theorem stake_ok {l : List UInt8} {r : Rt} (h : stake l = some r) : Ok r := by
  by_cases hf : formR l
  · rcases hb : Tk.body? ((front (l.take 122)).drop 7) with _ | x
    · rw [stake_body hf hb] at h; cases h
    · by_cases ho : Ok (mkR (Nm.val (l.drop 122)) x)
      · rw [stake_yes hf hb ho] at h
        injection h with h
        rw [← h]
        exact ho
      · rw [stake_no hf hb ho] at h; cases h
  · rw [stake_form hf] at h; cases h

theorem below_set6 {B g : Nat} {a w : World} {v0 v1 v2 v3 v4 v5 : Value} (h : Below B a w) (hg : B ≤ g) :
    Below B a ((((((w.setCell ⟨g, 0, none⟩ v0).setCell ⟨g, 1, none⟩ v1).setCell ⟨g, 2, none⟩ v2).setCell ⟨g, 3, none⟩ v3).setCell ⟨g, 4, none⟩ v4).setCell ⟨g, 5, none⟩ v5) :=
  (((((h.setCell hg _).setCell hg _).setCell hg _).setCell hg _).setCell hg _).setCell hg _
def placeOf (g : Int) : Int := bits .and .i64 g 1
theorem place_any (g : Int) (w : World) :
    Calls Tryd.prog 40 #[.int .i64 g] w fun e w' => e = .returned (.int .i64 (placeOf g)) ∧ w = w' := by
  unfold placeOf
  go_enter Tryd.func40, Tryd.ntmps40
  go_wp2_with fail
  go_ret
  exact ⟨rfl, rfl⟩
theorem place_mod (g : Int) (hw : (Lit.int .i64 g).wf = true) : placeOf g = g % 2 := by
  have hb := bounds_i64 hw
  unfold placeOf
  show IntKind.i64.wrap ((BitVec.ofInt 64 g &&& BitVec.ofInt 64 1).toNat : Int) = _
  have e1 : (BitVec.ofInt 64 1).toNat = 1 := by decide
  have e2 : (BitVec.ofInt 64 g).toNat = (g % 18446744073709551616).toNat := by rw [BitVec.toNat_ofInt]; rfl
  rw [BitVec.toNat_and, e1, e2, Nat.and_one_is_mod, IntWalk.i64_in _ (by omega)]
  omega

/-- the version that stands in a slot -/
noncomputable def stands (i : Int) (l : List UInt8) : Option Rt := match stake l with
  | some r => if placeOf r.g = i then some r else none
  | none => none
def snone : Value := .tuple #[.agg (rtV zeroR), .bool false]
def StandOut (i : Int) (l : List UInt8) (w : World) (e : Ending) (w' : World) : Prop :=
  Below w.heap.size w w' ∧ ((∃ r, stands i l = some r ∧ e = .returned (.tuple #[.agg (rtV r), .bool true])) ∨ (stands i l = none ∧ e = .returned snone))
set_option maxRecDepth 100000 in
set_option maxHeartbeats 1000000 in
theorem stands_any (i : Int) (s : ByteArray) (w : World) (hm : s.size ≤ maxLen) :
    Calls Tryd.prog 36 #[.int .i64 i, .string s] w (StandOut i s.data.toList w) := by
  have HQ := Lib.hid (show ∀ e w', Below w.heap.size w w' → ((∃ r, stands i s.data.toList = some r ∧ e = .returned (.tuple #[.agg (rtV r), .bool true])) ∨ (stands i s.data.toList = none ∧ e = .returned snone)) → StandOut i s.data.toList w e w' from fun e w' a b => ⟨a, b⟩)
  generalize hQ : StandOut i s.data.toList w = Q at *
  clear hQ
  rcases hst : stake s.data.toList with _ | r
  · have HT := Lib.hid (fun w => take_no s w hm hst)
    have Hn := Lib.hid (show stands i s.data.toList = none by unfold stands; rw [hst])
    unfold tnone zeroR at HT
    simp only [rtV] at HT
    clear hst hm
    go_enter Tryd.func36, Tryd.ntmps36
    go_wp2_with fail
    refine (HT.out _).mono ?_
    rintro e w1 ⟨rfl, hb1⟩
    have hB1 := Lib.hid ((Box.new w 47 #[.int .i64 0, .int .i64 0, .int .i64 0, .int .i64 0, .int .i64 0, .int .i64 0]).under hb1)
    obtain ⟨⟨k0, k1, k2, k3, k4, k5⟩, ⟨e0, e1, e2, e3, e4, e5⟩⟩ := Tk.Box.six hB1.out
    have Hb01 := Lib.hid (show Below w.heap.size w w1 from ((Below.refl _ _).alloc (Nat.le_refl _) _).trans (hb1.mono (by simp)))
    have hlt : w.heap.size < w1.heap.size := hB1.out.lt
    clear hb1
    go_wp2_with fail
    refine bodyPost_ret (v := snone) (by simp [results, Tryd.results36, go_sem, snone, rtV, zeroR, k0, k1, k2, k3, k4, k5, hlt]) rfl (HQ.out _ _ ?_ (.inr ⟨Hn.out, rfl⟩))
    have q := Hb01.out
    exact (below_set6 q (Nat.le_refl _)).alloc (by simp; omega) _
  · have HT := Lib.hid (fun w => take_yes s r w hst)
    have Hy := Lib.hid (show placeOf r.g = i → stands i s.data.toList = some r by intro h; unfold stands; rw [hst]; exact if_pos h)
    have Hn := Lib.hid (show placeOf r.g ≠ i → stands i s.data.toList = none by intro h; unfold stands; rw [hst]; exact if_neg h)
    obtain ⟨g, p, m, c, n, t⟩ := r
    simp only [rtV] at *
    clear hst hm
    by_cases hpl : placeOf g = i
    · have hne : (placeOf g != i) = false := by simpa using hpl
      have Hy' := Lib.hid (Hy.out hpl)
      clear hpl
      go_enter Tryd.func36, Tryd.ntmps36
      go_wp2_with fail
      refine (HT.out _).mono ?_
      rintro e w1 ⟨rfl, hb1⟩
      have hB1 := Lib.hid ((Box.new w 47 #[.int .i64 0, .int .i64 0, .int .i64 0, .int .i64 0, .int .i64 0, .int .i64 0]).under hb1)
      obtain ⟨⟨k0, k1, k2, k3, k4, k5⟩, ⟨e0, e1, e2, e3, e4, e5⟩⟩ := Tk.Box.six hB1.out
      have Hb01 := Lib.hid (show Below w.heap.size w w1 from ((Below.refl _ _).alloc (Nat.le_refl _) _).trans (hb1.mono (by simp)))
      have hlt : w.heap.size < w1.heap.size := hB1.out.lt
      clear hb1
      go_wp2_with fail
      refine (place_any _ _).mono ?_
      rintro e w' ⟨rfl, rfl⟩
      go_wp2_with fail
      refine bodyPost_ret (v := .tuple #[.agg #[.int .i64 g, .int .i64 p, .int .i64 m, .int .i64 c, .int .i64 n, .int .i64 t], .bool true]) (by simp [results, Tryd.results36, go_sem, k0, k1, k2, k3, k4, k5, hlt]) rfl (HQ.out _ _ ?_ (.inl ⟨_, Hy'.out, rfl⟩))
      have q := Hb01.out
      exact (below_set6 q (Nat.le_refl _)).alloc (by simp; omega) _
    · have hne : (placeOf g != i) = true := by simpa using hpl
      have Hn' := Lib.hid (Hn.out hpl)
      clear hpl
      go_enter Tryd.func36, Tryd.ntmps36
      go_wp2_with fail
      refine (HT.out _).mono ?_
      rintro e w1 ⟨rfl, hb1⟩
      have hB1 := Lib.hid ((Box.new w 47 #[.int .i64 0, .int .i64 0, .int .i64 0, .int .i64 0, .int .i64 0, .int .i64 0]).under hb1)
      obtain ⟨⟨k0, k1, k2, k3, k4, k5⟩, ⟨e0, e1, e2, e3, e4, e5⟩⟩ := Tk.Box.six hB1.out
      have Hb01 := Lib.hid (show Below w.heap.size w w1 from ((Below.refl _ _).alloc (Nat.le_refl _) _).trans (hb1.mono (by simp)))
      have hlt : w.heap.size < w1.heap.size := hB1.out.lt
      clear hb1
      go_wp2_with fail
      refine (place_any _ _).mono ?_
      rintro e w' ⟨rfl, rfl⟩
      go_wp2_with fail
      refine bodyPost_ret (v := snone) (by simp [results, Tryd.results36, go_sem, snone, rtV, zeroR, k0, k1, k2, k3, k4, k5, hlt]) rfl (HQ.out _ _ ?_ (.inr ⟨Hn'.out, rfl⟩))
      have q := Hb01.out
      exact (below_set6 q (Nat.le_refl _)).alloc (by simp; omega) _

end Go.Proofs.YtpgmbpjjefecdaaDoor.Sl
