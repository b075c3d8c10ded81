/- Layer 9, ninth part: the chapter's example. -/
import Derived.Test.YtpgmbpjjefecdaaDoorSl8
namespace Go.Proofs.YtpgmbpjjefecdaaDoor.Sl
open Go.RowKit Base Crc Txt Plain Pg
set_option linter.unusedVariables false
set_option linter.unusedSimpArgs false

theorem choose_ex0 : choose (rec9 exR) [] = none := by
  unfold choose stands
  rw [stake_nil, stake_rec exR exOk]
  simp only
  rw [if_neg]
  show ¬ placeOf 3 = 0
  rw [place3]
  decide
theorem choose_ex1 : choose [] (rec9 exR) = some exR := by
  unfold choose stands
  rw [stake_nil, stake_rec exR exOk]
  simp only
  rw [if_pos (show placeOf exR.g = 1 from place3)]
  simp only
  rw [if_pos (by decide)]
set_option maxRecDepth 100000 in
set_option maxHeartbeats 400000 in
theorem awake_any (w : World) :
    Calls Tryd.prog 32 #[] w fun e w' => e = .returned (.bool true) ∧ Below w.heap.size w w' := by
  have hlen := rec_len exOk
  have h0 : (ByteArray.mk #[]).data.toList = [] := rfl
  have HP := Lib.hid (fun w => put_yes exR w exOk)
  have HC0 := Lib.hid (show ∀ w, Calls Tryd.prog 38 #[.string (str (rec9 exR)), .string ⟨#[]⟩] w fun e w' => e = .returned snone ∧ Below w.heap.size w w' from fun w => (choose_any _ _ w (by rw [str_size, hlen]; decide) (by decide)).mono (by
    rintro e w' ⟨hb, ⟨r, h, _⟩ | ⟨_, rfl⟩⟩
    · rw [str_list, h0, choose_ex0] at h; cases h
    · exact ⟨rfl, hb⟩))
  have HC1 := Lib.hid (show ∀ w, Calls Tryd.prog 38 #[.string ⟨#[]⟩, .string (str (rec9 exR))] w fun e w' => e = .returned (.tuple #[.agg (rtV exR), .bool true]) ∧ Below w.heap.size w w' from fun w => (choose_any _ _ w (by decide) (by rw [str_size, hlen]; decide)).mono (by
    rintro e w' ⟨hb, ⟨r, h, rfl⟩ | ⟨h, _⟩⟩
    · rw [str_list, h0, choose_ex1] at h
      injection h with h
      subst h
      exact ⟨rfl, hb⟩
    · rw [str_list, h0, choose_ex1] at h; cases h))
  have HL := Lib.hid (fun w => place_any 3 w)
  rw [place3] at HL
  generalize str (rec9 exR) = S at *
  unfold snone zeroR at HC0
  unfold exR at HP HC1
  simp only [rtV] at *
  clear hlen h0
  go_enter Tryd.func32, Tryd.ntmps32
  go_wp2_with fail
  refine (HP.out _).mono ?_
  rintro e w1 ⟨rfl, hb1⟩
  go_wp2_with fail
  refine (HC0.out _).mono ?_
  rintro e w2 ⟨rfl, hb2⟩
  have Hb02 := Lib.hid (hb1.trans (hb2.mono hb1.size))
  clear hb1 hb2
  go_wp2_with fail
  refine (HC1.out _).mono ?_
  rintro e w3 ⟨rfl, hb3⟩
  have Hb03 := Lib.hid (show Below w.heap.size w w3 from (Hb02.out.alloc Hb02.out.size _).trans (hb3.mono (Nat.le_trans Hb02.out.size (by simp))))
  clear hb3
  go_wp2_with fail
  refine (HL.out _).mono ?_
  rintro e w' ⟨rfl, rfl⟩
  go_wp2_with fail
  go_ret
  exact ⟨rfl, Hb03.out.alloc Hb03.out.size _⟩

end Go.Proofs.YtpgmbpjjefecdaaDoor.Sl
