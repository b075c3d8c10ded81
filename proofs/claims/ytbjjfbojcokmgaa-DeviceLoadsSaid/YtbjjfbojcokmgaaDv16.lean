/- Layer 7: a device that has an image: Load. -/
import Derived.Test.YtbjjfbojcokmgaaDv15
namespace Go.Proofs.Ytbjjfbojcokmgaa.Dv
open Go.RowKit Base
set_option linter.unusedVariables false
set_option linter.unusedSimpArgs false

/-- a device that has an image -/
def imgD (l : List ByteArray) (ps : List (Int × ByteArray)) : Dv := { sec := l, puts := ps.map fun p => (p.1.toNat, p.2), fuse := 0, reads := 0, steps := 0, off := false }
theorem wrongPuts_zero {n : Nat} {ps : List (Int × ByteArray)} (h : wrongPuts n ps = 0) : ∀ p ∈ ps, 0 ≤ p.1 ∧ p.1 < n ∧ p.2.size = 128 := by
  induction ps with
  | nil => intro p hp; cases hp
  | cons q ps ih =>
    unfold wrongPuts at h
    split at h
    · cases h
    · rename_i h1
      split at h
      · cases h
      · rename_i h2
        intro p hp
        rcases List.mem_cons.1 hp with rfl | hp
        · exact ⟨by omega, by omega, by simpa using h2⟩
        · exact ih h p hp
theorem wrongD_zero {l : List ByteArray} {ps : List (Int × ByteArray)} (h : wrongD l ps = 0) : (16 ≤ l.length ∧ l.length ≤ 4096) ∧ (∀ x ∈ l, x.size = 128) ∧ ∀ p ∈ ps, 0 ≤ p.1 ∧ p.1 < l.length ∧ p.2.size = 128 := by
  unfold wrongD at h
  split at h
  · cases h
  · rename_i h1
    split at h
    · cases h
    · rename_i h2
      refine ⟨by simpa using h1, fun x hx => ?_, wrongPuts_zero h⟩
      have : l.all (fun x => x.size == 128) = true := by simpa using h2
      simpa using (List.all_eq_true.1 this) x hx
theorem toI_img {ps : List (Int × ByteArray)} (h : ∀ p ∈ ps, 0 ≤ p.1) : toI (ps.map fun p => (p.1.toNat, p.2)) = ps := by
  unfold toI
  rw [List.map_map]
  conv => rhs; rw [← List.map_id ps]
  refine List.map_congr_left fun p hp => ?_
  have := h p hp
  show ((p.1.toNat : Int), p.2) = p
  rw [Int.toNat_of_nonneg this]
theorem good_img {l : List ByteArray} {ps : List (Int × ByteArray)} (h : wrongD l ps = 0) (hp : ps.length ≤ 1000000) : Good (imgD l ps) := by
  obtain ⟨⟨h1, h2⟩, h3, h4⟩ := wrongD_zero h
  refine ⟨h1, h2, h3, fun p hp => ?_, fun p hp => ?_, by simpa [imgD] using hp, Nat.zero_le _, Nat.zero_le _, Nat.zero_le _⟩
  · obtain ⟨q, hq, rfl⟩ := List.mem_map.1 hp
    have := h4 q hq
    show q.1.toNat < l.length
    omega
  · obtain ⟨q, hq, rfl⟩ := List.mem_map.1 hp
    exact (h4 q hq).2.2
def LoadAt (l : List ByteArray) (ps : List (Int × ByteArray)) (w : World) (e : Ending) (w' : World) : Prop := ∃ d gs c pv, e = .returned (.tuple #[.pointer (some ⟨d, 0, none⟩), .int .i64 0]) ∧ DevAt w' w.heap.size (fun k => w.heap.size ≤ k ∧ k < w'.heap.size) d gs c pv (imgD l ps) ∧ Below w.heap.size w w'
theorem load_end {w w0 wx wy : World} {v1 v2 : Value} {l : List ByteArray} {ps : List (Int × ByteArray)} (hw : wrongD l ps = 0) (hp : ps.length ≤ 1000000) (hsz : w.heap.size ≤ w0.heap.size) (hb0 : Below w.heap.size w w0) (h1 : wx.ownsRow w0.heap.size 9 1 v1 l.length (l.map .string)) (h2 : wy.ownsRow wx.heap.size 65 2 v2 ps.length (putI ps)) (hb1 : Below w0.heap.size w0 wx) (hb2 : Below wx.heap.size wx wy) :
    LoadAt l ps w (.returned (.tuple #[.pointer (some ⟨wy.heap.size, 0, none⟩), .int .i64 0])) (wy.alloc (.cells #[v1, v2, .int .i64 0, .int .i64 0, .int .i64 0, .bool false] 56)) := by
  obtain ⟨⟨hn1, hn2⟩, _, h4⟩ := wrongD_zero hw
  have s1 := hb1.size
  have s2 := hb2.size
  have o1 := own_turn (p := fun _ => False) h1 (.below hb2) (fun _ _ h => h)
  have hb : Below w.heap.size w wy := (hb0.trans (hb1.mono hsz)).trans (hb2.mono (by omega))
  obtain ⟨gs, c, rfl⟩ : ∃ gs c, v1 = .slice (some ⟨gs, 0, none⟩) l.length c := by
    rcases h1.2 with ⟨_, h0⟩ | ⟨g, cap, cur, hv, _⟩
    · omega
    · exact ⟨g, cap, hv⟩
  have g1 := o1.lt gs rfl
  have g1x := h1.lt gs rfl
  have hpl : (imgD l ps).puts.length = ps.length := by simp [imgD]
  have hpv : putV (imgD l ps).puts = putI ps := by rw [putV_I]; exact congrArg putI (toI_img (fun p hp => (h4 p hp).1))
  refine ⟨wy.heap.size, gs, c, v2, rfl, ⟨Box.new wy _ _, own_base (o1.alloc _) hsz, ?_, by omega, ?_, ?_, ⟨by omega, by simp⟩, ⟨by omega, by simp; omega⟩, ?_, fun k hk => hk, good_img hw hp⟩, hb.alloc hb.size _⟩
  · rw [hpl, hpv]
    exact own_base (h2.alloc _) (by omega)
  · intro e
    have := (h2.lt _ e).2
    omega
  · intro e
    have := (h2.lt _ e).1
    omega
  · intro k hk
    have := h2.lt _ hk
    exact ⟨by omega, by simp; omega⟩
section
variable (A A' : Option Addr) (c c' : Nat) (l : List ByteArray) (ps : List (Int × ByteArray)) (w : World)
set_option maxRecDepth 100000 in
set_option maxHeartbeats 1000000 in
theorem load_no (hl : l.length ≤ 1000000) (hp : ps.length ≤ 1000000) (hsz : ∀ x ∈ l, x.size ≤ maxLen) (hpz : ∀ p ∈ ps, p.2.size ≤ maxLen) (hr : Row w w.heap.size A (l.map Value.string)) (hr' : Row w w.heap.size A' (putI ps)) (hw : wrongD l ps ≠ 0) :
    Calls Try.prog 23 #[.agg #[.slice A l.length c, .slice A' ps.length c']] w fun e w' => e = .returned (.tuple #[.pointer none, .int .i64 (wrongD l ps)]) ∧ Below w.heap.size w w' := by
  have hb0 : Below w.heap.size w (w.alloc (.cells #[.slice A l.length c, .slice A' ps.length c'] 38)) := (by repeat (first | exact Below.refl _ _ | assumption | refine Below.drew ?_ | (refine Below.alloc ?_ (by simp <;> omega) _) | (refine Below.setCell ?_ (by simp <;> omega) _)))
  have Hb0 := Lib.hid hb0
  have HC := Lib.hid (check_any A A' c c' l ps _ hl hp hsz hpz ((hr.below hb0).more (by simp)) ((hr'.below hb0).more (by simp)))
  generalize wrongD l ps = V at *
  have hv : (V != 0) = true := by rw [bne_iff_ne]; exact hw
  clear hb0 hl hp hsz hpz hr hr' hw
  go_enter Try.func23, Try.ntmps23
  go_wp2_with fail
  refine HC.out.mono ?_
  rintro e w1 ⟨rfl, hb1⟩
  have Hb1 := Lib.hid (Hb0.out.trans (hb1.mono Hb0.out.size))
  clear hb1
  go_wp2_with fail
  go_ret2
  exact ⟨rfl, Hb1.out⟩
set_option maxRecDepth 100000 in
set_option maxHeartbeats 1000000 in
theorem load_yes (hl : l.length ≤ 1000000) (hp : ps.length ≤ 1000000) (hsz : ∀ x ∈ l, x.size ≤ maxLen) (hpz : ∀ p ∈ ps, p.2.size ≤ maxLen) (hr : Row w w.heap.size A (l.map Value.string)) (hr' : Row w w.heap.size A' (putI ps)) (hw : wrongD l ps = 0) :
    Calls Try.prog 23 #[.agg #[.slice A l.length c, .slice A' ps.length c']] w (LoadAt l ps w) := by
  have hb0 : Below w.heap.size w (w.alloc (.cells #[.slice A l.length c, .slice A' ps.length c'] 38)) := (by repeat (first | exact Below.refl _ _ | assumption | refine Below.drew ?_ | (refine Below.alloc ?_ (by simp <;> omega) _) | (refine Below.setCell ?_ (by simp <;> omega) _)))
  have Hb0 := Lib.hid hb0
  have HC := Lib.hid (check_any A A' c c' l ps _ hl hp hsz hpz ((hr.below hb0).more (by simp)) ((hr'.below hb0).more (by simp)))
  rw [hw] at HC
  have HB := Lib.hid (Box.new w 38 #[.slice A l.length c, .slice A' ps.length c'])
  have HE := Lib.hid (fun w0 wx wy v1 v2 => load_end (w := w) (w0 := w0) (wx := wx) (wy := wy) (v1 := v1) (v2 := v2) hw hp)
  have hone : ∀ u ∈ putI ps, u.oneCell' = true := by
    intro u hu
    unfold putI at hu
    obtain ⟨p, _, hp⟩ := List.mem_flatMap.1 hu
    simp at hp
    rcases hp with rfl | rfl <;> rfl
  have HC1 := Lib.hid (show ∀ W, Below w.heap.size w W → Calls Try.prog 36 #[.slice A l.length c] W (Cloned 9 1 l.length (l.map Value.string) W) from fun W hW => clone_str _ _ _ W hl ((hr.below hW).more hW.size))
  have HC2 := Lib.hid (show ∀ W, Below w.heap.size w W → Calls Try.prog 37 #[.slice A' ps.length c'] W (Cloned 65 2 ps.length (putI ps) W) from fun W hW => clone_put _ _ _ _ W hp (putI_len _) ((hr'.below hW).more hW.size) hone)
  generalize hQ : LoadAt l ps w = Q at *
  clear hQ hb0 hl hp hsz hpz hr hr' hw hone
  go_enter Try.func23, Try.ntmps23
  go_wp2_with fail
  refine HC.out.mono ?_
  rintro e w1 ⟨rfl, hb1⟩
  have Hb1 := Lib.hid (Hb0.out.trans (hb1.mono Hb0.out.size))
  have HB1 := Lib.hid (HB.out.under hb1)
  clear hb1 HB
  obtain ⟨q0, q1, _, _⟩ := Box.two HB1.out
  have hbb : Below w.heap.size w w1.drew := Hb1.out.drew
  go_wp2_with fail
  go_region_with (first
      | (go_at_call 36; refine (HC1.out _ hbb).mono ?_; rintro e wx ⟨v1, rfl, hown1, hbx⟩; obtain ⟨A1, c1, hf1⟩ := own_form2 hown1; subst hf1; have Hown1 := Lib.hid hown1; clear hown1; have m0 := cell_keep (W := w1.drew) hbx q0; have m1 := cell_keep (W := w1.drew) hbx q1; have hbb1 : Below w.heap.size w wx := hbb.trans (hbx.mono hbb.size); have Hbx := Lib.hid hbx; clear hbx)
      | (go_at_call 37; refine (HC2.out _ hbb1).mono ?_; rintro e wy ⟨v2, rfl, hown2, hby⟩; obtain ⟨A2, c2, hf2⟩ := own_form2 hown2; subst hf2; have Hown2 := Lib.hid hown2; clear hown2; have Hby := Lib.hid hby; clear hby))
  all_goals
    have KEY := Lib.hid (HE.out w1.drew wx wy _ _ hbb.size hbb Hown1.out Hown2.out Hbx.out Hby.out)
    clear q0 q1 m0 m1 hbb hbb1 HC HC1 HC2 HB1 Hown1 Hown2 Hbx Hby HE
    go_wp2_with fail
    first | (go_ret2; exact KEY.out) | exact bodyPost_ret (v := .tuple #[.pointer (some ⟨wy.heap.size, 0, none⟩), .int .i64 0]) (by simp [results, Try.results23, go_sem, Act.put]) rfl KEY.out
end

end Go.Proofs.Ytbjjfbojcokmgaa.Dv
