/- The walk of DeviceNobody: it returns true and writes nothing that was there (gendv11.py prints it). -/
import Derived.Test.YtbjjfbojcokmgaaDv10
namespace Go.Proofs.Ytbjjfbojcokmgaa.deviceNobody
open Go.RowKit Base Dv
open Go.ChangeShapes Go.WideShapes Go.ChangeAt Go.Joins Go.Deep
set_option linter.unusedVariables false
set_option linter.unusedSimpArgs false

set_option maxHeartbeats 400000 in
theorem seize_nil (w : World) : Calls Try.prog 13 #[.pointer none] w fun e w' => e = .returned (.agg #[.slice none 0 0, .slice none 0 0]) ∧ Below w.heap.size w w' := by
  have HT := Lib.hid there_nil
  go_enter Try.func13, Try.ntmps13
  go_wp2_with fail
  refine (HT.out _).mono ?_
  rintro e w' ⟨rfl, rfl⟩
  go_wp2_with fail
  refine bodyPost_ret (v := .agg #[.slice none 0 0, .slice none 0 0]) (by simp [results, Try.results13, go_sem]) rfl ⟨rfl, ?_⟩
  exact (by repeat (first | exact Below.refl _ _ | assumption | refine Below.drew ?_ | (refine Below.alloc ?_ (by simp <;> omega) _) | (refine Below.setCell ?_ (by simp <;> omega) _)))
set_option maxHeartbeats 400000 in
theorem seize_zero (d : Nat) (A : Option Addr) (c : Nat) (pv : Value) (f r s : Int) (o : Bool) (w : World) (hB : Box w d 56 #[.slice A (0 : Nat) c, pv, .int .i64 f, .int .i64 r, .int .i64 s, .bool o]) :
    Calls Try.prog 13 #[.pointer (some ⟨d, 0, none⟩)] w fun e w' => e = .returned (.agg #[.slice none 0 0, .slice none 0 0]) ∧ Below w.heap.size w w' := by
  have HT := Lib.hid (there_no d A 0 c pv f r s o _ (hB.alloc (.cells #[.slice none 0 0, .slice none 0 0] 38)) rfl)
  go_enter Try.func13, Try.ntmps13
  go_wp2_with fail
  refine HT.out.mono ?_
  rintro e w' ⟨rfl, rfl⟩
  go_wp2_with fail
  refine bodyPost_ret (v := .agg #[.slice none 0 0, .slice none 0 0]) (by simp [results, Try.results13, go_sem]) rfl ⟨rfl, ?_⟩
  exact (by repeat (first | exact Below.refl _ _ | assumption | refine Below.drew ?_ | (refine Below.alloc ?_ (by simp <;> omega) _) | (refine Below.setCell ?_ (by simp <;> omega) _)))
set_option maxRecDepth 100000 in
set_option maxHeartbeats 1000000 in
theorem nobody_nil (c0 c1 c2 c3 c4 c5 : Value) (w : World) :
    Calls Try.prog 6 #[.agg #[c0, c1, c2, c3, c4, c5], .bool false] w fun e w' => e = .returned (.bool true) ∧ Below w.heap.size w w' := by
  have HW := Lib.hid Dv.awake_any
  have hfld : ∀ W, (Instr.field 38 (.agg #[.slice none 0 0, .slice none 0 0]) 0).run Try.prog W = .ok (.slice none 0 0) W := fun _ => by kernel_rfl
  have HB0 := Lib.hid (Box.new w 31 #[c0, c1, c2, c3, c4, c5])
  have Hb0 := Lib.hid (show Below w.heap.size w (w.alloc (.cells #[c0, c1, c2, c3, c4, c5] 31)) from (by repeat (first | exact Below.refl _ _ | assumption | refine Below.drew ?_ | (refine Below.alloc ?_ (by simp <;> omega) _) | (refine Below.setCell ?_ (by simp <;> omega) _))))
  go_enter Try.func6, Try.ntmps6
  go_upto_region 4 with fail
  generalize w.alloc (.cells #[c0, c1, c2, c3, c4, c5] 31) = v at *
  obtain ⟨⟨k0, k1, k2, k3, k4, k5⟩, _⟩ := Dv.Box.six HB0.out
  go_wp2_with fail
  refine (read_nil _ c1).mono ?_
  rintro e w' ⟨rfl, rfl⟩
  go_wp2_with fail
  refine (write_nil _ c1 c3).mono ?_
  rintro e w' ⟨rfl, rfl⟩
  go_wp2_with fail
  refine (sync_nil _ ).mono ?_
  rintro e w' ⟨rfl, rfl⟩
  go_wp2_with fail
  refine (fuse_nil _ c1).mono ?_
  rintro e w' ⟨rfl, rfl⟩
  go_wp2_with fail
  refine (cut_nil _ c5 c2 c1).mono ?_
  rintro e w' ⟨rfl, rfl⟩
  go_wp2_with fail
  refine (boot_nil _ ).mono ?_
  rintro e w' ⟨rfl, rfl⟩
  go_wp2_with fail
  refine (off_nil _ ).mono ?_
  rintro e w' ⟨rfl, rfl⟩
  go_wp2_with fail
  refine (size_nil _ ).mono ?_
  rintro e w' ⟨rfl, rfl⟩
  go_wp2_with fail
  refine (reads_nil _ ).mono ?_
  rintro e w' ⟨rfl, rfl⟩
  go_wp2_with fail
  refine (steps_nil _ ).mono ?_
  rintro e w' ⟨rfl, rfl⟩
  go_wp2_with fail
  refine (seize_nil _).mono ?_
  rintro e w2 ⟨rfl, hb2⟩
  have Hb2 := Lib.hid (Hb0.out.trans (hb2.mono Hb0.out.size))
  clear hb2
  go_wp2_with fail
  refine (HW.out _).mono ?_
  rintro e w3 ⟨rfl, hb3⟩
  go_wp2_with fail
  go_ret
  exact ⟨rfl, Hb2.out.trans (hb3.mono Hb2.out.size)⟩
set_option maxRecDepth 100000 in
set_option maxHeartbeats 1000000 in
theorem nobody_zero (c0 c1 c2 c3 c4 c5 : Value) (w : World) :
    Calls Try.prog 6 #[.agg #[c0, c1, c2, c3, c4, c5], .bool true] w fun e w' => e = .returned (.bool true) ∧ Below w.heap.size w w' := by
  have HW := Lib.hid Dv.awake_any
  have hfld : ∀ W, (Instr.field 38 (.agg #[.slice none 0 0, .slice none 0 0]) 0).run Try.prog W = .ok (.slice none 0 0) W := fun _ => by kernel_rfl
  have HB0 := Lib.hid ((Box.new w 31 #[c0, c1, c2, c3, c4, c5]).alloc (.cells #[.slice none 0 0, .slice none 0 0, .int .i64 0, .int .i64 0, .int .i64 0, .bool false] 56))
  have HD0 := Lib.hid (Box.lay (w := w.alloc (.cells #[c0, c1, c2, c3, c4, c5] 31)) (t := 56) (cs := #[.slice none 0 0, .slice none 0 0, .int .i64 0, .int .i64 0, .int .i64 0, .bool false]) (g := w.heap.size + 1) (by simp))
  have Hb0 := Lib.hid (show Below w.heap.size w ((w.alloc (.cells #[c0, c1, c2, c3, c4, c5] 31)).alloc (.cells #[.slice none 0 0, .slice none 0 0, .int .i64 0, .int .i64 0, .int .i64 0, .bool false] 56)) from (by repeat (first | exact Below.refl _ _ | assumption | refine Below.drew ?_ | (refine Below.alloc ?_ (by simp <;> omega) _) | (refine Below.setCell ?_ (by simp <;> omega) _))))
  go_enter Try.func6, Try.ntmps6
  go_upto_region 4 with fail
  generalize (w.alloc (.cells #[c0, c1, c2, c3, c4, c5] 31)).alloc (.cells #[.slice none 0 0, .slice none 0 0, .int .i64 0, .int .i64 0, .int .i64 0, .bool false] 56) = v at *
  obtain ⟨⟨k0, k1, k2, k3, k4, k5⟩, _⟩ := Dv.Box.six HB0.out
  go_wp2_with fail
  refine (read_zero _ none 0 0 _ _ _ _ _ _ HD0.out rfl c1).mono ?_
  rintro e w' ⟨rfl, rfl⟩
  go_wp2_with fail
  refine (write_zero _ none 0 0 _ _ _ _ _ _ HD0.out rfl c1 c3).mono ?_
  rintro e w' ⟨rfl, rfl⟩
  go_wp2_with fail
  refine (sync_zero _ none 0 0 _ _ _ _ _ _ HD0.out rfl ).mono ?_
  rintro e w' ⟨rfl, rfl⟩
  go_wp2_with fail
  refine (fuse_zero _ none 0 0 _ _ _ _ _ _ HD0.out rfl c1).mono ?_
  rintro e w' ⟨rfl, rfl⟩
  go_wp2_with fail
  refine (cut_zero _ none 0 0 _ _ _ _ _ _ HD0.out rfl c5 c2 c1).mono ?_
  rintro e w' ⟨rfl, rfl⟩
  go_wp2_with fail
  refine (boot_zero _ none 0 0 _ _ _ _ _ _ HD0.out rfl ).mono ?_
  rintro e w' ⟨rfl, rfl⟩
  go_wp2_with fail
  refine (off_zero _ none 0 0 _ _ _ _ _ _ HD0.out rfl ).mono ?_
  rintro e w' ⟨rfl, rfl⟩
  go_wp2_with fail
  refine (size_zero _ none 0 0 _ _ _ _ _ _ HD0.out rfl ).mono ?_
  rintro e w' ⟨rfl, rfl⟩
  go_wp2_with fail
  refine (reads_zero _ none 0 0 _ _ _ _ _ _ HD0.out rfl ).mono ?_
  rintro e w' ⟨rfl, rfl⟩
  go_wp2_with fail
  refine (steps_zero _ none 0 0 _ _ _ _ _ _ HD0.out rfl ).mono ?_
  rintro e w' ⟨rfl, rfl⟩
  go_wp2_with fail
  refine (seize_zero _ none 0 _ _ _ _ _ _ HD0.out).mono ?_
  rintro e w2 ⟨rfl, hb2⟩
  have Hb2 := Lib.hid (Hb0.out.trans (hb2.mono Hb0.out.size))
  clear hb2
  go_wp2_with fail
  refine (HW.out _).mono ?_
  rintro e w3 ⟨rfl, hb3⟩
  go_wp2_with fail
  go_ret
  exact ⟨rfl, Hb2.out.trans (hb3.mono Hb2.out.size)⟩

theorem walk {H : Type} {enc : TypeId × Value → H} {base : Nat} {d : DataW H} {p : List MemPlace} (v : Value) (b : Bool) (w : World) (hv : Value.okWide Try.prog w .any base 31 v) (ht : DataW.Trod enc Try.prog w 0 (fun _ => true) true 31 v d p) :
    Calls Try.prog 6 #[v, .bool b] w fun e w' => e = .returned (.bool true) ∧ Below w.heap.size w w' := by
  obtain ⟨cs, rfl, hsz⟩ := okWide_struct Try.underlying31 hv
  have hz : cs.size = 6 := hsz.trans (by kernel_rfl)
  obtain ⟨l⟩ := cs
  match l, hz with
  | [c0, c1, c2, c3, c4, c5], _ =>
    cases b
    · exact nobody_nil c0 c1 c2 c3 c4 c5 w
    · exact nobody_zero c0 c1 c2 c3 c4 c5 w

end Go.Proofs.Ytbjjfbojcokmgaa.deviceNobody
