/- The walk of DeviceLoads: it returns true and writes nothing that was there. -/
import Derived.Test.YtbjjfbojcokmgaaDv16
import Derived.Test.YtbjjfbojcokmgaaOpenImg
namespace Go.Proofs.Ytbjjfbojcokmgaa.deviceLoads
open Go.RowKit Base Dv
set_option linter.unusedVariables false
set_option linter.unusedSimpArgs false

def SzOut (l : List ByteArray) (ps : List (Int × ByteArray)) (w : World) (e : Ending) (w' : World) : Prop := ∃ A1 c1 A2 c2, e = .returned (.agg #[.slice A1 l.length c1, .slice A2 ps.length c2]) ∧ Row w' w'.heap.size A1 (l.map .string) ∧ Row w' w'.heap.size A2 (putI ps) ∧ Below w.heap.size w w'
theorem seize_img {w : World} {B : Nat} {F : Nat → Prop} {d gs c : Nat} {pv : Value} {l : List ByteArray} {ps : List (Int × ByteArray)} (hw : wrongD l ps = 0) (h : DevAt w B F d gs c pv (imgD l ps)) :
    Calls Try.prog 13 #[.pointer (some ⟨d, 0, none⟩)] w (SzOut l ps w) := by
  refine (seize_yes h).mono ?_
  rintro e w' ⟨v1, v2, rfl, o1, o2, hb⟩
  obtain ⟨A1, c1, rfl⟩ := own_form2 o1
  obtain ⟨A2, c2, rfl⟩ := own_form2 o2
  have hpl : (imgD l ps).puts.length = ps.length := by simp [imgD]
  have hpv : putV (imgD l ps).puts = putI ps := by rw [putV_I]; exact congrArg putI (toI_img (fun p hp => ((wrongD_zero hw).2.2 p hp).1))
  have r2 := row_of_own2 o2
  rw [hpv] at r2
  rw [hpl]
  exact ⟨A1, c1, A2, c2, rfl, row_of_own2 o1, r2, hb⟩
theorem keepL {g d gs c B : Nat} {F : Nat → Prop} {pv x y : Value} {s : Dv} {w v w' : World} (hb : Below v.heap.size v w')
    (h : v.cell? ⟨g, 0, none⟩ = some x ∧ v.cell? ⟨g, 1, none⟩ = some y ∧ DevAt v B F d gs c pv s ∧ Below w.heap.size w v) :
    w'.cell? ⟨g, 0, none⟩ = some x ∧ w'.cell? ⟨g, 1, none⟩ = some y ∧ DevAt w' B F d gs c pv s ∧ Below w.heap.size w w' := by
  obtain ⟨h0, h1, h2, h3⟩ := h
  exact ⟨cell_keep hb h0, cell_keep hb h1, h2.below hb, h3.trans (hb.mono h3.size)⟩

section
variable (A A' : Option Addr) (c c' : Nat) (l : List ByteArray) (ps : List (Int × ByteArray)) (w : World)
set_option maxRecDepth 100000 in
set_option maxHeartbeats 1000000 in
theorem loads_few (H : ∀ W, Below w.heap.size w W → Calls Try.prog 22 #[.agg #[.slice A l.length c, .slice A' ps.length c']] W fun e w' => e = .returned (.bool false) ∧ Below W.heap.size W w') :
    Calls Try.prog 5 #[.agg #[.slice A l.length c, .slice A' ps.length c']] w fun e w' => e = .returned (.bool true) ∧ Below w.heap.size w w' := by
  have HW := Lib.hid Dv.awake_any
  have hb0 : Below w.heap.size w (w.alloc (.cells #[.slice A l.length c, .slice A' ps.length c'] 38)) := (by repeat (first | exact Below.refl _ _ | assumption | refine Below.drew ?_ | (refine Below.alloc ?_ (by simp <;> omega) _) | (refine Below.setCell ?_ (by simp <;> omega) _)))
  have HF := Lib.hid (H _ hb0)
  have Hb0 := Lib.hid hb0
  clear H hb0
  go_enter Try.func5, Try.ntmps5
  go_wp2_with fail
  refine HF.out.mono ?_
  rintro e w1 ⟨rfl, hb1⟩
  have Hb1 := Lib.hid (Hb0.out.trans (hb1.mono Hb0.out.size))
  clear hb1
  go_wp2_with fail
  refine (HW.out _).mono ?_
  rintro e w2 ⟨rfl, hb2⟩
  go_wp2_with fail
  go_ret
  exact ⟨rfl, Hb1.out.trans (hb2.mono Hb1.out.size)⟩
set_option maxRecDepth 100000 in
set_option maxHeartbeats 1000000 in
theorem loads_no (V : Int) (hV : V ≠ 0)
    (HF0 : ∀ W, Below w.heap.size w W → Calls Try.prog 22 #[.agg #[.slice A l.length c, .slice A' ps.length c']] W fun e w' => e = .returned (.bool true) ∧ Below W.heap.size W w')
    (HL0 : ∀ W, Below w.heap.size w W → Calls Try.prog 23 #[.agg #[.slice A l.length c, .slice A' ps.length c']] W fun e w' => e = .returned (.tuple #[.pointer none, .int .i64 V]) ∧ Below W.heap.size W w')
    (HW0 : ∀ W, Below w.heap.size w W → Calls Try.prog 24 #[.agg #[.slice A l.length c, .slice A' ps.length c']] W fun e w' => e = .returned (.int .i64 V) ∧ Below W.heap.size W w')
    (HC0 : ∀ W, Below w.heap.size w W → Calls Try.prog 25 #[.agg #[.slice A l.length c, .slice A' ps.length c']] W fun e w' => e = .returned (.int .i64 V) ∧ Below W.heap.size W w') :
    Calls Try.prog 5 #[.agg #[.slice A l.length c, .slice A' ps.length c']] w fun e w' => e = .returned (.bool true) ∧ Below w.heap.size w w' := by
  have HW := Lib.hid Dv.awake_any
  have hb0 : Below w.heap.size w (w.alloc (.cells #[.slice A l.length c, .slice A' ps.length c'] 38)) := (by repeat (first | exact Below.refl _ _ | assumption | refine Below.drew ?_ | (refine Below.alloc ?_ (by simp <;> omega) _) | (refine Below.setCell ?_ (by simp <;> omega) _)))
  have HF := Lib.hid HF0
  have HL := Lib.hid HL0
  have HWr := Lib.hid HW0
  have HC := Lib.hid HC0
  have Hb0 := Lib.hid hb0
  have HB0 := Lib.hid (Box.new w 38 #[.slice A l.length c, .slice A' ps.length c'])
  have hv1 : (V != 0) = true := by rw [bne_iff_ne]; exact hV
  have hv2 : (V == V) = true := by simp
  clear HF0 HL0 HW0 HC0 hb0 hV
  go_enter Try.func5, Try.ntmps5
  go_wp2_with fail
  refine (HF.out _ Hb0.out).mono ?_
  rintro e w1 ⟨rfl, hb1⟩
  have Hb1 := Lib.hid (Hb0.out.trans (hb1.mono Hb0.out.size))
  have HB1 := Lib.hid (HB0.out.under hb1)
  obtain ⟨k0, k1, _, _⟩ := Box.two HB1.out
  clear hb1
  go_wp2_with fail
  refine (HL.out _ Hb1.out).mono ?_
  rintro e w2 ⟨rfl, hb2⟩
  have Hb2 := Lib.hid (Hb1.out.trans (hb2.mono Hb1.out.size))
  have HB2 := Lib.hid (HB1.out.under hb2)
  clear hb2 k0 k1
  obtain ⟨k0, k1, _, _⟩ := Box.two HB2.out
  go_wp2_with fail
  refine (HWr.out _ Hb2.out).mono ?_
  rintro e w3 ⟨rfl, hb3⟩
  have Hb3 := Lib.hid (Hb2.out.trans (hb3.mono Hb2.out.size))
  have HB3 := Lib.hid (HB2.out.under hb3)
  clear hb3 k0 k1
  obtain ⟨k0, k1, _, _⟩ := Box.two HB3.out
  go_wp2_with fail
  refine (HC.out _ Hb3.out).mono ?_
  rintro e w4 ⟨rfl, hb4⟩
  have Hb4 := Lib.hid (Hb3.out.trans (hb4.mono Hb3.out.size))
  clear hb4 k0 k1
  go_wp2_with fail
  refine (HW.out _).mono ?_
  rintro e w5 ⟨rfl, hb5⟩
  go_wp2_with fail
  go_ret
  exact ⟨rfl, Hb4.out.trans (hb5.mono Hb4.out.size)⟩
set_option maxRecDepth 100000 in
set_option maxHeartbeats 2000000 in
theorem loads_yes (hw : wrongD l ps = 0) (hl : l.length ≤ 60)
    (HF0 : ∀ W, Below w.heap.size w W → Calls Try.prog 22 #[.agg #[.slice A l.length c, .slice A' ps.length c']] W fun e w' => e = .returned (.bool true) ∧ Below W.heap.size W w')
    (HL0 : ∀ W, Below w.heap.size w W → Calls Try.prog 23 #[.agg #[.slice A l.length c, .slice A' ps.length c']] W (LoadAt l ps W))
    (HW0 : ∀ W, Below w.heap.size w W → Calls Try.prog 24 #[.agg #[.slice A l.length c, .slice A' ps.length c']] W fun e w' => e = .returned (.int .i64 0) ∧ Below W.heap.size W w')
    (HC0 : ∀ W, Below w.heap.size w W → Calls Try.prog 25 #[.agg #[.slice A l.length c, .slice A' ps.length c']] W fun e w' => e = .returned (.int .i64 0) ∧ Below W.heap.size W w')
    (HS0 : ∀ W A1 c1 A2 c2, Below w.heap.size w W → Row W W.heap.size A1 (l.map .string) → Row W W.heap.size A2 (putI ps) → Calls Try.prog 17 #[.agg #[.slice A1 l.length c1, .slice A2 ps.length c2], .agg #[.slice A l.length c, .slice A' ps.length c']] W fun e w' => e = .returned (.bool true) ∧ Below W.heap.size W w') :
    Calls Try.prog 5 #[.agg #[.slice A l.length c, .slice A' ps.length c']] w fun e w' => e = .returned (.bool true) ∧ Below w.heap.size w w' := by
  have HW := Lib.hid Dv.awake_any
  have hb0 : Below w.heap.size w (w.alloc (.cells #[.slice A l.length c, .slice A' ps.length c'] 38)) := (by repeat (first | exact Below.refl _ _ | assumption | refine Below.drew ?_ | (refine Below.alloc ?_ (by simp <;> omega) _) | (refine Below.setCell ?_ (by simp <;> omega) _)))
  have HF := Lib.hid HF0
  have HL := Lib.hid HL0
  have HWr := Lib.hid HW0
  have HC := Lib.hid HC0
  have HS := Lib.hid HS0
  have Hb0 := Lib.hid hb0
  have HB0 := Lib.hid (Box.new w 38 #[.slice A l.length c, .slice A' ps.length c'])
  have Hw := Lib.hid hw
  have hnn : ((l.length : Int) == (l.length : Int)) = true := by simp
  clear HF0 HL0 HW0 HC0 HS0 hb0 hw
  go_enter Try.func5, Try.ntmps5
  go_wp2_with fail
  refine (HF.out _ Hb0.out).mono ?_
  rintro e w1 ⟨rfl, hb1⟩
  have Hb1 := Lib.hid (Hb0.out.trans (hb1.mono Hb0.out.size))
  have HB1 := Lib.hid (HB0.out.under hb1)
  obtain ⟨k0, k1, _, _⟩ := Box.two HB1.out
  clear hb1
  go_wp2_with fail
  refine (HL.out _ Hb1.out).mono ?_
  rintro e w2 ⟨d, gs, cs, pv, rfl, hd2, hb2⟩
  have Hb2 := Lib.hid (Hb1.out.trans (hb2.mono Hb1.out.size))
  have HB2 := Lib.hid (HB1.out.under hb2)
  have Hd2 := Lib.hid hd2
  clear hb2 hd2 k0 k1
  obtain ⟨k0, k1, _, _⟩ := Box.two HB2.out
  go_wp2_with fail
  refine (HWr.out _ Hb2.out).mono ?_
  rintro e w3 ⟨rfl, hb3⟩
  have Hb3 := Lib.hid (Hb2.out.trans (hb3.mono Hb2.out.size))
  have HB3 := Lib.hid (HB2.out.under hb3)
  have Hd3 := Lib.hid (Hd2.out.below hb3)
  clear hb3 k0 k1
  obtain ⟨k0, k1, _, _⟩ := Box.two HB3.out
  generalize hF : (fun k => w1.heap.size ≤ k ∧ k < w2.heap.size) = F at *
  clear hF
  have HSz := Lib.hid (fun W (h : DevAt W w1.heap.size F d gs cs pv (imgD l ps)) => seize_img Hw.out h)
  have HOf := Lib.hid (show ∀ W, DevAt W w1.heap.size F d gs cs pv (imgD l ps) → Calls Try.prog 18 #[.pointer (some ⟨d, 0, none⟩)] W fun e w' => e = .returned (.bool false) ∧ W = w' from fun W h => off_yes d _ _ cs pv _ _ _ _ W h.box h.n0 h.n1)
  have HSi := Lib.hid (show ∀ W, DevAt W w1.heap.size F d gs cs pv (imgD l ps) → Calls Try.prog 21 #[.pointer (some ⟨d, 0, none⟩)] W fun e w' => e = .returned (.int .i64 l.length) ∧ W = w' from fun W h => size_yes d _ _ cs pv _ _ _ _ W h.box h.n0 h.n1)
  go_wp2_with fail
  go_region_held3 (fun w' => w'.cell? ⟨w.heap.size, 0, none⟩ = some (.slice A l.length c) ∧ w'.cell? ⟨w.heap.size, 1, none⟩ = some (.slice A' ps.length c') ∧ DevAt w' w1.heap.size F d gs cs pv (imgD l ps) ∧ Below w.heap.size w w')
    (first
      | exact ⟨k0, k1, Hd3.out.below (Below.refl _ _).drew, Hb3.out.drew⟩
      | (go_split_ands; exact keepL hbx ⟨by assumption, by assumption, by assumption, by assumption⟩)
      | (go_split_ands; exact ⟨by assumption, by assumption, by assumption, by assumption⟩))
    (first
      | (go_at_call 13; go_split_ands; refine (HSz.out _ (by assumption)).mono ?_; rintro e wx ⟨A1, c1, A2, c2, rfl, r1, r2, hbx⟩)
      | (go_at_call 17; go_split_ands; refine (HS.out _ _ _ _ _ (by assumption) (by assumption) (by assumption)).mono ?_; rintro e wx ⟨rfl, hbx⟩)
      | (go_at_call 25; go_split_ands; refine (HC.out _ (by assumption)).mono ?_; rintro e wx ⟨rfl, hbx⟩)
      | (go_at_call 18; go_split_ands; refine (HOf.out _ (by assumption)).mono ?_; rintro e wx ⟨rfl, rfl⟩)
      | (go_at_call 21; go_split_ands; refine (HSi.out _ (by assumption)).mono ?_; rintro e wx ⟨rfl, rfl⟩)
      | (go_at_call 8; refine (HW.out _).mono ?_; rintro e wx ⟨rfl, hbx⟩))
  rename_i hHeld
  obtain ⟨_, _, _, hbw⟩ := hHeld
  have Hbw := Lib.hid hbw
  clear hbw
  go_wp2_with fail
  go_ret
  exact ⟨rfl, Hbw.out⟩
end
theorem walk {H : Type} {enc : TypeId × Value → H} {base : Nat} {d : DataW H} {p : List MemPlace} (v : Value) (w : World) (hv : Value.okWide Try.prog w .any base 38 v) (ht : DataW.Trod enc Try.prog w 0 (fun _ => true) true 38 v d p) :
    Calls Try.prog 5 #[v] w fun e w' => e = .returned (.bool true) ∧ Below w.heap.size w w' := by
  obtain ⟨A, l, c, A', ps, c', rfl, hl, hp, hr, hr', hs, hs'⟩ := open_image hv ht
  have row1 : ∀ W, Below w.heap.size w W → Row W W.heap.size A (l.map Value.string) := fun W h => (hr.below h).more h.size
  have row2 : ∀ W, Below w.heap.size w W → Row W W.heap.size A' (putI ps) := fun W h => (hr'.below h).more h.size
  have HF : ∀ W, Below w.heap.size w W → Calls Try.prog 22 #[.agg #[.slice A l.length c, .slice A' ps.length c']] W fun e w' => e = .returned (.bool (few l ps)) ∧ Below W.heap.size W w' := fun W h => rfew_any A A' c c' l ps W hl hp hs hs' (row1 W h) (row2 W h)
  rcases hf : few l ps with _ | _
  · rw [hf] at HF
    exact loads_few A A' c c' l ps w HF
  · rw [hf] at HF
    have hfd : l.length ≤ 60 ∧ ps.length ≤ 60 ∧ sm l + sm (ps.map (·.2)) ≤ 20000 := by unfold few at hf; simpa using hf
    obtain ⟨h1, h2, _⟩ := hfd
    by_cases hw : wrongD l ps = 0
    · refine loads_yes A A' c c' l ps w hw h1 HF (fun W h => load_yes A A' c c' l ps W (by omega) (by omega) hs hs' (row1 W h) (row2 W h) hw) (fun W h => ?_) (fun W h => ?_) (fun W A1 c1 A2 c2 h r1 r2 => same_yes A1 A A2 A' c1 c c2 c' l ps W (by omega) (by omega) r1 (row1 W h) r2 (row2 W h))
      · have := rwrong_any A A' c c' l ps W (by omega) (by omega) hs hs' (row1 W h) (row2 W h)
        rw [hw] at this
        exact this
      · have := check_any A A' c c' l ps W (by omega) (by omega) hs hs' (row1 W h) (row2 W h)
        rw [hw] at this
        exact this
    · exact loads_no A A' c c' l ps w (wrongD l ps) hw HF (fun W h => load_no A A' c c' l ps W (by omega) (by omega) hs hs' (row1 W h) (row2 W h) hw) (fun W h => rwrong_any A A' c c' l ps W (by omega) (by omega) hs hs' (row1 W h) (row2 W h)) (fun W h => check_any A A' c c' l ps W (by omega) (by omega) hs hs' (row1 W h) (row2 W h))

end Go.Proofs.Ytbjjfbojcokmgaa.deviceLoads
