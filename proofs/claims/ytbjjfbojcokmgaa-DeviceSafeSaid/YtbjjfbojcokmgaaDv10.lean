/- Layer 7: the chapter's example; a device that no call made. -/
import Derived.Test.YtbjjfbojcokmgaaDv9
namespace Go.Proofs.Ytbjjfbojcokmgaa.Dv
open Go.RowKit Base
set_option linter.unusedVariables false
set_option linter.unusedSimpArgs false

def exS (fx : ByteArray) : Dv := bootD (cutD (writeD (newD 16) 1 fx) [] (-1) 0)
theorem exS_sec (fx : ByteArray) : (exS fx).sec = List.replicate 16 nought := by
  show cutTo [] (-1) (cutBytes 0) (List.replicate 16 nought) [(1, fx)] 1 = _
  show cut1 [] (-1) (cutBytes 0) (List.replicate 16 nought) 0 (1, fx) = _
  unfold cut1
  rw [if_neg (by simp), if_neg (by omega)]
theorem exS_shown (fx : ByteArray) : shown (exS fx).sec (exS fx).puts 1 = nought := by
  rw [exS_sec]
  rfl
theorem exS_reads (fx : ByteArray) : (exS fx).reads = 0 := rfl
theorem exS_steps (fx : ByteArray) : (exS fx).steps = 1 := rfl
set_option maxHeartbeats 400000 in
theorem awake_any (w : World) :
    Calls Try.prog 8 #[] w fun e w' => e = .returned (.bool true) ∧ Below w.heap.size w w' := by
  have HN := Lib.hid (new_yes 16 w (by omega) (by omega))
  have HF := Lib.hid (fun w => full_any ⟨#[97]⟩ w (by decide))
  have HNo := Lib.hid noughts_any
  go_enter Try.func8, Try.ntmps8
  go_wp2_with fail
  refine HN.out.mono ?_
  rintro e w0 ⟨d, gs, rfl, h0, hb0⟩
  have H0 := Lib.hid h0
  have Hb0 := Lib.hid hb0
  clear h0 hb0 HN
  go_wp2_with fail
  refine (HF.out _).mono ?_
  rintro e w1 ⟨rfl, hb1⟩
  have H1 := Lib.hid (H0.out.below hb1)
  have Hb1 := Lib.hid (Hb0.out.trans (hb1.mono Hb0.out.size))
  have HW := Lib.hid (write_yes H1.out 1 (full ⟨#[97]⟩) rfl (by decide) (full_size _) (by decide) (by decide) (by decide))
  clear hb1 H0 Hb0 HF
  generalize full ⟨#[97]⟩ = fx at *
  go_wp2_with fail
  refine HW.out.mono ?_
  rintro e w2 ⟨rfl, pv, h2, t2⟩
  have Hb2 := Lib.hid (Hb1.out.trans (t2.toBelow (fun k hk => (H1.out.own k hk).1) Hb1.out.size))
  have HC := Lib.hid (cut_yes h2 none [] 0 (-1) 0 (by decide) (.inl rfl))
  clear h2 t2 HW H1 Hb1
  go_wp2_with fail
  refine HC.out.mono ?_
  rintro e w3 ⟨rfl, h3, t3⟩
  have Hb3 := Lib.hid (Hb2.out.trans (t3.toBelow (fun k hk => (h3.own k hk).1) Hb2.out.size))
  have HB := Lib.hid (boot_yes h3)
  have hown3 := Lib.hid h3.own
  clear h3 t3 HC Hb2
  go_wp2_with fail
  refine HB.out.mono ?_
  rintro e w4 ⟨rfl, h4, t4⟩
  have hd4 : w.heap.size ≤ d := (h4.own d h4.fd).1
  have Hb4 := Lib.hid (Hb3.out.trans (t4.toBelow (fun k hk => hk ▸ hd4) Hb3.out.size))
  have h4' : DevAt w4 w.heap.size _ d gs 16 (.slice none 0 0) (exS fx) := h4
  have HRd := Lib.hid (read_yes h4' rfl (by rw [exS_reads]; omega) 1 (by have := h4'.good.lo; omega))
  rw [exS_shown] at HRd
  clear h4 h4' t4 HB Hb3 hown3
  go_wp2_with fail
  refine HRd.out.mono ?_
  rintro e w5 ⟨rfl, h5, t5⟩
  have Hb5 := Lib.hid (Hb4.out.trans (t5.toBelow (fun k hk => hk ▸ hd4) Hb4.out.size))
  have H5 := Lib.hid h5
  clear h5 t5 HRd Hb4
  go_wp2_with fail
  refine (HNo.out _).mono ?_
  rintro e w6 ⟨rfl, hb6⟩
  have H6 := Lib.hid (H5.out.below hb6)
  have Hb6 := Lib.hid (Hb5.out.trans (hb6.mono Hb5.out.size))
  have HSt := Lib.hid (show Calls Try.prog 20 #[.pointer (some ⟨d, 0, none⟩)] w6 fun e w' => e = .returned (.int .i64 1) ∧ w6 = w' from steps_yes d _ _ 16 _ _ _ _ _ w6 H6.out.box H6.out.n0 H6.out.n1)
  have HRe := Lib.hid (show Calls Try.prog 19 #[.pointer (some ⟨d, 0, none⟩)] w6 fun e w' => e = .returned (.int .i64 1) ∧ w6 = w' from reads_yes d _ _ 16 _ _ _ _ _ w6 H6.out.box H6.out.n0 H6.out.n1)
  clear hb6 H5 Hb5 H6
  have hzz : (nought.toList == nought.toList) = true := by simp
  generalize nought = z at *
  go_wp2_with fail
  refine HSt.out.mono ?_
  rintro e w' ⟨rfl, rfl⟩
  go_wp2_with fail
  refine HRe.out.mono ?_
  rintro e w' ⟨rfl, rfl⟩
  go_wp2_with fail
  go_ret
  exact ⟨rfl, Hb6.out⟩

end Go.Proofs.Ytbjjfbojcokmgaa.Dv
