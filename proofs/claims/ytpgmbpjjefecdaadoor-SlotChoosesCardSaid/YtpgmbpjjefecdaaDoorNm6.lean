/- Layer 1, contracts: the document's Take. -/
import Derived.Test.YtpgmbpjjefecdaaDoorNm5
namespace Go.Proofs.YtpgmbpjjefecdaaDoor.Nm
open Go.RowKit Base Crc Txt Plain
set_option linter.unusedVariables false

def leadI (z : Int) : Int := (lead z.toNat : Nat)
theorem rlead_int (z : Int) (w : World) (h1 : 1 ≤ z) (h9 : z ≤ 9) :
    Calls Tryd.prog 98 #[.int .i64 z] w fun e w' => e = .returned (.int .i64 (leadI z)) ∧ w = w' := by
  obtain ⟨s, rfl⟩ : ∃ s : Nat, z = s := ⟨z.toNat, by omega⟩
  unfold leadI
  rw [Int.toNat_natCast]
  exact rlead_any s w (by omega) (by omega)

theorem lead_mono {a b : Nat} (h : a ≤ b) (hb : b ≤ 9) : lead a ≤ lead b := by
  unfold lead
  have : 2 ^ (9 - b) ≤ 2 ^ (9 - a) := Nat.pow_le_pow_right (by omega) (by omega)
  omega

set_option maxRecDepth 100000 in
set_option maxHeartbeats 2000000 in
theorem rtake_cons (l : List UInt8) (w : World) (h0 : l ≠ []) (hm : l.length ≤ 1000000) (P : Ending → World → Prop)
    (hyes : ∀ n s, ntake l = some (n, s) → ∀ w', Below w.heap.size w w' → P (.returned (.tuple #[.int .u64 (n : Nat), .int .i64 (s : Nat), .bool true])) w')
    (hno : ntake l = none → ∀ w', Below w.heap.size w w' → P (.returned tnone) w') :
    Calls Tryd.prog 99 #[.string (str l)] w P := by
  have hpos : 0 < l.length := List.length_pos_iff.2 h0
  have HI0 : ∀ W, (Instr.index 9 (.string (str l)) (.int .i64 0)).run Tryd.prog W = .ok (.int .u8 ((l.getD 0 0).toNat : Nat)) W := index_nb l 0 hpos
  have HIn := Lib.hid (fun j hj => index_nb l j hj)
  have HCu := Lib.hid (fun b (x : Int) hx hb W => cut_upto l b x hx hb W)
  have hx := (l.getD 0 0).toNat_lt
  have hnt : ntake l = if l.length < ones (l.getD 0 0).toNat + 1 then none else if nsize (nval l (ones (l.getD 0 0).toNat + 1)) = ones (l.getD 0 0).toNat + 1 then some (nval l (ones (l.getD 0 0).toNat + 1), ones (l.getD 0 0).toNat + 1) else none := by
    unfold ntake
    rw [if_neg h0]
  have hob := ones_bd (l.getD 0 0).toNat
  have hlo := lead_ones (l.getD 0 0).toNat hx
  obtain ⟨hd1, hd2⟩ := head_small (l.getD 0 0).toNat hx
  have hnv : nval l (ones (l.getD 0 0).toNat + 1) = nto l ((l.getD 0 0).toNat - lead (ones (l.getD 0 0).toNat + 1)) (ones (l.getD 0 0).toNat) := by
    unfold nval nto
    rw [Nat.add_sub_cancel]
    by_cases h9 : ones (l.getD 0 0).toNat + 1 = 9
    · rw [if_pos h9, hd2 h9]
    · rw [if_neg h9]
  have hnn := nput_nval l (ones (l.getD 0 0).toNat + 1) h0 rfl
  rw [hnv] at hnt hnn
  have HL := Lib.hid (show (str l).size = l.length from rfl)
  have hsz : (str l).size ≤ 1000000 := hm
  have Hd2 := Lib.hid hd2
  have Hnt := Lib.hid hnt
  have Hnn := Lib.hid hnn
  have Hyes := Lib.hid hyes
  have Hno := Lib.hid hno
  have Hlo := Lib.hid hlo
  clear hnt hnv hd2 hyes hno h0 hnn hlo
  generalize (l.getD 0 0).toNat = x at *
  generalize ones x = k at *
  generalize hH : x - lead (k + 1) = H at *
  have HH := Lib.hid hH
  clear hH
  have HSl := Lib.hid (show ∀ b, str (l.take b) = str (l.take b) from fun _ => rfl)
  generalize str l = S at *
  go_enter Tryd.func99, Tryd.ntmps99
  go_wp2_with fail
  go_loopw [5] (fun v5 wr => ∃ s : Nat, 1 ≤ s ∧ s ≤ 10 ∧ v5 = .int .i64 (s : Nat) ∧ (s ≤ k + 1 ∨ ntake l = none) ∧ Below w.heap.size w wr) (fun v5 _ => 10 - (intOf v5).toNat)
  case atStart => exact ⟨1, Nat.le_refl _, by omega, rfl, .inl (by omega), Below.refl _ _⟩
  case round =>
    obtain ⟨s, hs1, hs10, rfl, hcase, hbe⟩ := hrel
    have Hcase := Lib.hid hcase
    clear hcase
    by_cases hs9 : s ≤ 9
    · have vx : IntKind.i64.wrap (x : Int) = x := IntWalk.i64_in _ (by omega)
      have vs : IntKind.i64.wrap ((s : Int) + 1) = (s : Int) + 1 := IntWalk.i64_in _ (by omega)
      by_cases hlen : l.length < s
      · have d1 : decide (S.size < s) = true := by rw [HL.out]; simp; omega
        go_wp2_with fail
        go_quiet ((go_at_call 98; exact quiet_same (rlead_int _ _ (by omega) (by omega))))
        go_wp2_with fail
        have hnext := Hcase.out
        have hnone : ntake l = none ∨ s + 1 ≤ k + 1 := by
          rcases hnext with h | h
          · by_cases hk : s = k + 1
            · left
              rw [Hnt.out, if_pos (by omega)]
            · right
              omega
          · exact .inl h
        refine ⟨⟨s + 1, by omega, by omega, by first | rfl | exact congrArg (Value.int .i64) (by omega), hnone.symm, below_drewN hbe _⟩, ?_⟩
        simp [intOf]
        omega
      · have d1 : decide (S.size < s) = false := by rw [HL.out]; simp; omega
        rcases Nat.lt_trichotomy s (k + 1) with hlt | heq | hgt
        · have e1 : lead s ≤ x := Nat.le_trans (lead_mono (show s ≤ k + 1 by omega) (by omega)) Hlo.out.1
          have e2 : lead (s + 1) ≤ x := Nat.le_trans (lead_mono (show s + 1 ≤ k + 1 by omega) (by omega)) Hlo.out.1
          have d2 : decide ((x : Int) < leadI (s : Int)) = false := by unfold leadI; simp; omega
          have d3 : decide ((s : Int) < 9) = true := by simp; omega
          have d3' : decide (s < 9) = true := by simp; omega
          have d4 : decide (leadI ((s : Int) + 1) ≤ (x : Int)) = true := by unfold leadI; rw [show ((s : Int) + 1).toNat = s + 1 by omega]; simp; omega
          have hs8 : s < 9 := by omega
          clear e1 e2
          go_wp2_with fail
          go_quiet ((go_at_call 98; exact quiet_same (rlead_int _ _ (by omega) (by omega))))
          go_wp2_with fail
          refine ⟨⟨s + 1, by omega, by omega, by first | rfl | exact congrArg (Value.int .i64) (by omega), .inl (by omega), below_drewN hbe _⟩, ?_⟩
          simp [intOf]
          omega
        · have Hs := Lib.hid heq
          have hlk : k + 1 ≤ l.length := by omega
          have hH1 := HH.out
          have d2 : decide ((x : Int) < leadI (s : Int)) = false := by unfold leadI; have := Hlo.out.1; rw [Int.toNat_natCast, heq]; simp; omega
          have hsub : IntKind.i64.wrap ((x : Int) - leadI (s : Int)) = (H : Int) := by
            unfold leadI
            rw [Int.toNat_natCast, heq]
            have := Hlo.out.1
            rw [IntWalk.i64_in _ (by omega)]
            omega
          have huw : IntKind.u64.wrap (H : Int) = H := by rw [IntKind.wrap_u64]; omega
          have d4 : s < 9 → decide (leadI ((s : Int) + 1) ≤ (x : Int)) = false := by
            intro h9
            unfold leadI
            rw [show ((s : Int) + 1).toNat = k + 2 by omega]
            have := Hlo.out.2 (by omega)
            simp
            omega
          clear heq hH1
          by_cases h9 : s < 9
          · have d3 : decide ((s : Int) < 9) = true := by simp; omega
            have d4 := d4 h9
            go_wp2_with fail
            go_quiet ((go_at_call 98; exact quiet_same (rlead_int _ _ (by omega) (by omega))))
            have hbq := below_drewN hbe nq
            clear hbe
            generalize wr.drewN nq = wq at *
            go_wp2_with fail
            go_quiet ((go_at_call 98; exact quiet_same (rlead_int _ _ (by omega) (by omega))))
            clear d3 d4 hsub huw vx vs d1 d2
            have hbe := below_drewN hbq nq
            clear hbq
            generalize wq.drewN nq = wo at *
            go_wp2_with fail
            go_loop [6, 7] (fun v6 v7 => ∃ i : Nat, i ≤ k ∧ v7 = .int .i64 ((i : Int) + 1) ∧ v6 = .int .u64 (nto l H i : Nat)) (fun _ v7 => 10 - (intOf v7).toNat)
            case atStart => exact ⟨0, Nat.zero_le _, rfl, by rw [nto_zero]⟩
            case round =>
              obtain ⟨i, hi, rfl, rfl⟩ := hrel
              have hsk := Hs.out
              by_cases hik : i < k
              · have hj : i + 1 < l.length := by omega
                have HI : ∀ W, (Instr.index 9 (.string S) (.int .i64 ((i : Int) + 1))).run Tryd.prog W = .ok (.int .u8 ((l.getD (i + 1) 0).toNat : Nat)) W := HIn.out (i + 1) hj
                have hsm := nto_small l H i hd1 (fun h7 => Hd2.out (by omega)) (by omega) (by omega)
                have hnx := nto_succ l H i hj
                have hbl := (l.getD (i + 1) 0).toNat_lt
                have hlt := nto_lt l H (i + 1) hd1 (fun h8 => Hd2.out (by omega)) (by omega) (by omega)
                have Hnx := Lib.hid hnx
                have hlt2 : (i : Int) + 1 < (s : Int) := by omega
                clear hnx hsk
                rw [Hnx.out] at hlt
                generalize nto l H i = m at *
                generalize (l.getD (i + 1) 0).toNat = y at *
                go_wp2_with fail
                go_round
                case rel => exact ⟨i + 1, by omega, by first | rfl | exact congrArg (Value.int .i64) (by omega), by rw [Hnx.out]; first | rfl | exact congrArg (Value.int .u64) (by omega)⟩
                case measure => simp [intOf]; omega
              · have hike : i = k := by omega
                subst hike
                have hlt := nto_lt l H i hd1 (fun h8 => Hd2.out (by omega)) (by omega) (by omega)
                have HP := Lib.hid (fun w => rput_any (nto l H i) w hlt)
                have hlt2 : ¬ (i : Int) + 1 < (s : Int) := by omega
                have hcu : ∀ W, (Instr.slice 9 (.string S) none (some (.int .i64 (s : Int))) none).run Tryd.prog W = .ok (.string (str (l.take (i + 1)))) W := HCu.out (i + 1) (s : Int) (by omega) (by omega)
                have hnt := Hnt.out
                rw [if_neg (by omega)] at hnt
                have HNT := Lib.hid hnt
                have hnn := Hnn.out (by omega)
                have hEq := Lib.hid (show nsize (nto l H i) = i + 1 → ((str (nput (nto l H i))).toList == (str (l.take (i + 1))).toList) = true by
                  intro h
                  rw [ByteArray.toList_eq, ByteArray.toList_eq, str_list, str_list, hnn h]
                  simp)
                have hNe := Lib.hid (show nsize (nto l H i) ≠ i + 1 → ((str (nput (nto l H i))).toList == (str (l.take (i + 1))).toList) = false by
                  intro h
                  rw [ByteArray.toList_eq, ByteArray.toList_eq, str_list, str_list, beq_eq_false_iff_ne]
                  intro e
                  have h2 := congrArg List.length e
                  rw [nput_len, List.length_take, Nat.min_eq_left (by omega)] at h2
                  exact h h2)
                clear hnt hnn hsk hlt
                generalize nto l H i = m at *
                generalize str (nput m) = X at *
                generalize str (l.take (i + 1)) = Y at *
                by_cases hsz2 : nsize m = i + 1
                · have hyes := Lib.hid (Hyes.out m s (by rw [HNT.out, if_pos hsz2, Hs.out]))
                  have hcmp := hEq.out hsz2
                  clear hsz2
                  go_wp2_with fail
                  go_region_with ((go_at_call 81; refine (HP.out _).mono ?_; rintro e w2 ⟨rfl, hb2⟩))
                  all_goals
                    go_wp2_with fail
                    go_ret3
                    exact hyes.out _ (hbe.drew.trans (hb2.mono hbe.size))
                · have hno := Lib.hid (show ntake l = none by rw [HNT.out, if_neg hsz2])
                  have hcmp := hNe.out hsz2
                  clear hsz2
                  go_wp2_with fail
                  go_region_with ((go_at_call 81; refine (HP.out _).mono ?_; rintro e w2 ⟨rfl, hb2⟩))
                  all_goals
                    go_wp2_with fail
                    refine ⟨⟨s + 1, by omega, by omega, by first | rfl | exact congrArg (Value.int .i64) (by omega), .inr hno.out, hbe.drew.trans (hb2.mono hbe.size)⟩, ?_⟩
                    simp [intOf]
                    omega
          · have d3 : decide ((s : Int) < 9) = false := by simp; omega
            clear d4
            go_wp2_with fail
            go_quiet ((go_at_call 98; exact quiet_same (rlead_int _ _ (by omega) (by omega))))
            have hbq := below_drewN hbe nq
            clear hbe
            generalize wr.drewN nq = wq at *
            go_wp2_with fail
            go_quiet ((go_at_call 98; exact quiet_same (rlead_int _ _ (by omega) (by omega))))
            clear d3 hsub huw vx vs d1 d2
            have hbe := below_drewN hbq nq
            clear hbq
            generalize wq.drewN nq = wo at *
            go_wp2_with fail
            go_loop [6, 7] (fun v6 v7 => ∃ i : Nat, i ≤ k ∧ v7 = .int .i64 ((i : Int) + 1) ∧ v6 = .int .u64 (nto l H i : Nat)) (fun _ v7 => 10 - (intOf v7).toNat)
            case atStart => exact ⟨0, Nat.zero_le _, rfl, by rw [nto_zero]⟩
            case round =>
              obtain ⟨i, hi, rfl, rfl⟩ := hrel
              have hsk := Hs.out
              by_cases hik : i < k
              · have hj : i + 1 < l.length := by omega
                have HI : ∀ W, (Instr.index 9 (.string S) (.int .i64 ((i : Int) + 1))).run Tryd.prog W = .ok (.int .u8 ((l.getD (i + 1) 0).toNat : Nat)) W := HIn.out (i + 1) hj
                have hsm := nto_small l H i hd1 (fun h7 => Hd2.out (by omega)) (by omega) (by omega)
                have hnx := nto_succ l H i hj
                have hbl := (l.getD (i + 1) 0).toNat_lt
                have hlt := nto_lt l H (i + 1) hd1 (fun h8 => Hd2.out (by omega)) (by omega) (by omega)
                have Hnx := Lib.hid hnx
                have hlt2 : (i : Int) + 1 < (s : Int) := by omega
                clear hnx hsk
                rw [Hnx.out] at hlt
                generalize nto l H i = m at *
                generalize (l.getD (i + 1) 0).toNat = y at *
                go_wp2_with fail
                go_round
                case rel => exact ⟨i + 1, by omega, by first | rfl | exact congrArg (Value.int .i64) (by omega), by rw [Hnx.out]; first | rfl | exact congrArg (Value.int .u64) (by omega)⟩
                case measure => simp [intOf]; omega
              · have hike : i = k := by omega
                subst hike
                have hlt := nto_lt l H i hd1 (fun h8 => Hd2.out (by omega)) (by omega) (by omega)
                have HP := Lib.hid (fun w => rput_any (nto l H i) w hlt)
                have hlt2 : ¬ (i : Int) + 1 < (s : Int) := by omega
                have hcu : ∀ W, (Instr.slice 9 (.string S) none (some (.int .i64 (s : Int))) none).run Tryd.prog W = .ok (.string (str (l.take (i + 1)))) W := HCu.out (i + 1) (s : Int) (by omega) (by omega)
                have hnt := Hnt.out
                rw [if_neg (by omega)] at hnt
                have HNT := Lib.hid hnt
                have hnn := Hnn.out (by omega)
                have hEq := Lib.hid (show nsize (nto l H i) = i + 1 → ((str (nput (nto l H i))).toList == (str (l.take (i + 1))).toList) = true by
                  intro h
                  rw [ByteArray.toList_eq, ByteArray.toList_eq, str_list, str_list, hnn h]
                  simp)
                have hNe := Lib.hid (show nsize (nto l H i) ≠ i + 1 → ((str (nput (nto l H i))).toList == (str (l.take (i + 1))).toList) = false by
                  intro h
                  rw [ByteArray.toList_eq, ByteArray.toList_eq, str_list, str_list, beq_eq_false_iff_ne]
                  intro e
                  have h2 := congrArg List.length e
                  rw [nput_len, List.length_take, Nat.min_eq_left (by omega)] at h2
                  exact h h2)
                clear hnt hnn hsk hlt
                generalize nto l H i = m at *
                generalize str (nput m) = X at *
                generalize str (l.take (i + 1)) = Y at *
                by_cases hsz2 : nsize m = i + 1
                · have hyes := Lib.hid (Hyes.out m s (by rw [HNT.out, if_pos hsz2, Hs.out]))
                  have hcmp := hEq.out hsz2
                  clear hsz2
                  go_wp2_with fail
                  go_region_with ((go_at_call 81; refine (HP.out _).mono ?_; rintro e w2 ⟨rfl, hb2⟩))
                  all_goals
                    go_wp2_with fail
                    go_ret3
                    exact hyes.out _ (hbe.drew.trans (hb2.mono hbe.size))
                · have hno := Lib.hid (show ntake l = none by rw [HNT.out, if_neg hsz2])
                  have hcmp := hNe.out hsz2
                  clear hsz2
                  go_wp2_with fail
                  go_region_with ((go_at_call 81; refine (HP.out _).mono ?_; rintro e w2 ⟨rfl, hb2⟩))
                  all_goals
                    go_wp2_with fail
                    refine ⟨⟨s + 1, by omega, by omega, by first | rfl | exact congrArg (Value.int .i64) (by omega), .inr hno.out, hbe.drew.trans (hb2.mono hbe.size)⟩, ?_⟩
                    simp [intOf]
                    omega
        · have e1 : x < lead s := by
            have h1 := Hlo.out.2 (by omega)
            have h2 := lead_mono (show k + 2 ≤ s by omega) hs9
            omega
          have d2 : decide ((x : Int) < leadI (s : Int)) = true := by unfold leadI; simp; omega
          clear e1
          go_wp2_with fail
          go_quiet ((go_at_call 98; exact quiet_same (rlead_int _ _ (by omega) (by omega))))
          go_wp2_with fail
          refine ⟨⟨s + 1, by omega, by omega, by first | rfl | exact congrArg (Value.int .i64) (by omega), .inr ?_, below_drewN hbe _⟩, ?_⟩
          · rcases Hcase.out with h | h
            · omega
            · exact h
          · simp [intOf]
            omega
    · have hno := Lib.hid (Hno.out (by
        rcases Hcase.out with h | h
        · omega
        · exact h))
      go_wp2_with fail
      go_ret3
      exact hno.out _ hbe

theorem rtake_nil (w : World) :
    Calls Tryd.prog 99 #[.string ⟨#[]⟩] w fun e w' => e = .returned tnone ∧ Below w.heap.size w w' := by
  go_enter Tryd.func99, Tryd.ntmps99
  go_wp2_with fail
  go_loopw [5] (fun v5 wr => ∃ s : Nat, 1 ≤ s ∧ s ≤ 10 ∧ v5 = .int .i64 (s : Nat) ∧ Below w.heap.size w wr) (fun v5 _ => 10 - (intOf v5).toNat)
  case atStart => exact ⟨1, Nat.le_refl _, by omega, rfl, Below.refl _ _⟩
  case round =>
    obtain ⟨s, hs1, hs10, rfl, hbe⟩ := hrel
    by_cases hs9 : s ≤ 9
    · have d1 : decide (0 < s) = true := by simp; omega
      have d2 : decide ((0 : Int) < (s : Int)) = true := by simp; omega
      have vs : IntKind.i64.wrap ((s : Int) + 1) = (s : Int) + 1 := IntWalk.i64_in _ (by omega)
      go_wp2_with fail
      go_quiet ((go_at_call 98; exact quiet_same (rlead_int _ _ (by omega) (by omega))))
      go_wp2_with fail
      refine ⟨⟨s + 1, by omega, by omega, by first | rfl | exact congrArg (Value.int .i64) (by omega), below_drewN hbe _⟩, ?_⟩
      simp [intOf]
      omega
    · go_wp2_with fail
      go_ret3
      exact ⟨rfl, hbe⟩
theorem rtake_yes (s : ByteArray) (n z : Nat) (w : World) (hm : s.size ≤ 1000000) (h : ntake s.data.toList = some (n, z)) :
    Calls Tryd.prog 99 #[.string s] w fun e w' => e = .returned (.tuple #[.int .u64 (n : Nat), .int .i64 (z : Nat), .bool true]) ∧ Below w.heap.size w w' := by
  have h0 : s.data.toList ≠ [] := by
    intro e
    rw [e] at h
    simp [ntake] at h
  have := rtake_cons s.data.toList w h0 (by simpa using hm) (fun e w' => e = .returned (.tuple #[.int .u64 (n : Nat), .int .i64 (z : Nat), .bool true]) ∧ Below w.heap.size w w')
    (fun n' z' h' w' hb => by rw [h] at h'; injection h' with h'; injection h' with e1 e2; subst e1 e2; exact ⟨rfl, hb⟩) (fun h' => by rw [h] at h'; cases h')
  rw [str_of] at this
  exact this
theorem rtake_no (s : ByteArray) (w : World) (hm : s.size ≤ 1000000) (h : ntake s.data.toList = none) :
    Calls Tryd.prog 99 #[.string s] w fun e w' => e = .returned tnone ∧ Below w.heap.size w w' := by
  by_cases h0 : s.data.toList = []
  · have e : s = ⟨#[]⟩ := by rw [← str_of s, h0]; rfl
    subst e
    exact rtake_nil w
  · have := rtake_cons s.data.toList w h0 (by simpa using hm) (fun e w' => e = .returned tnone ∧ Below w.heap.size w w')
      (fun n' z' h' => by rw [h] at h'; cases h') (fun _ w' hb => ⟨rfl, hb⟩)
    rw [str_of] at this
    exact this

end Go.Proofs.YtpgmbpjjefecdaaDoor.Nm
