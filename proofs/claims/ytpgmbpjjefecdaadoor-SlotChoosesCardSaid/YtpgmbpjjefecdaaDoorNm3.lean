/- Layer 1, contracts: num.Take. -/
import Derived.Test.YtpgmbpjjefecdaaDoorNm2
import Derived.Test.YtpgmbpjjefecdaaDoorCh15
namespace Go.Proofs.YtpgmbpjjefecdaaDoor.Nm
open Go.RowKit Base Crc Txt Plain
set_option linter.unusedVariables false

theorem or_u64 (k a b : Nat) (ha : a % 2 ^ k = 0) (hb : b < 2 ^ k) (hlt : a + b < 18446744073709551616) : bits .or .u64 (a : Int) (b : Int) = ((a + b : Nat) : Int) := by
  have hx' : a ||| b = a + b := nat_join k a b ha hb
  show IntKind.u64.wrap ((BitVec.ofInt 64 (a : Int) ||| BitVec.ofInt 64 (b : Int)).toNat : Int) = _
  have h1 : (BitVec.ofInt 64 (a : Int)).toNat = a := by rw [BitVec.ofInt_natCast, BitVec.toNat_ofNat]; exact Nat.mod_eq_of_lt (by omega)
  have h2 : (BitVec.ofInt 64 (b : Int)).toNat = b := by rw [BitVec.ofInt_natCast, BitVec.toNat_ofNat]; exact Nat.mod_eq_of_lt (by omega)
  rw [BitVec.toNat_or, h1, h2, hx', IntKind.wrap_u64]
  omega
theorem andnot_lead (x : Nat) (h : x < 256) : bits .andNot .u8 (x : Int) ((lead (ones x + 1) : Nat) : Int) = ((x - lead (ones x + 1) : Nat) : Int) := by
  have key : ∀ x : Fin 256, bits .andNot .u8 (x.val : Int) ((lead (ones x.val + 1) : Nat) : Int) = ((x.val - lead (ones x.val + 1) : Nat) : Int) := by decide +kernel
  exact key ⟨x, h⟩
theorem head_small (x : Nat) (h : x < 256) : x - lead (ones x + 1) ≤ 127 ∧ (ones x + 1 = 9 → x - lead (ones x + 1) = 0) := by
  have key : ∀ x : Fin 256, x.val - lead (ones x.val + 1) ≤ 127 ∧ (ones x.val + 1 = 9 → x.val - lead (ones x.val + 1) = 0) := by decide +kernel
  exact key ⟨x, h⟩
/-- behind i bytes -/
def nto (l : List UInt8) (h i : Nat) : Nat := h * 256 ^ i + val ((l.drop 1).take i)
theorem nto_zero (l : List UInt8) (h : Nat) : nto l h 0 = h := by simp [nto, val]
theorem nto_succ (l : List UInt8) (h i : Nat) (hi : i + 1 < l.length) : nto l h (i + 1) = nto l h i * 256 + (l.getD (i + 1) 0).toNat := by
  unfold nto
  have h1 : i < (l.drop 1).length := by rw [List.length_drop]; omega
  rw [List.take_succ_eq_append_getElem h1, val_snoc, Nat.pow_succ]
  have h2 : (l.drop 1)[i] = l.getD (i + 1) 0 := by
    rw [List.getElem_drop, List.getD_eq_getElem?_getD, List.getElem?_eq_getElem (by omega)]
    simp only [Option.getD_some]
    congr 1
    omega
  rw [h2, Nat.add_mul, Nat.mul_assoc, Nat.add_assoc]
theorem nto_lt (l : List UInt8) (h i : Nat) (hh : h ≤ 127) (h9 : i = 8 → h = 0) (hi : i ≤ 8) (hl : i + 1 ≤ l.length) : nto l h i < 18446744073709551616 := by
  have hv := val_lt ((l.drop 1).take i)
  rw [List.length_take, List.length_drop, Nat.min_eq_left (by omega)] at hv
  unfold nto
  generalize val ((l.drop 1).take i) = v at *
  have hk : i = 0 ∨ i = 1 ∨ i = 2 ∨ i = 3 ∨ i = 4 ∨ i = 5 ∨ i = 6 ∨ i = 7 ∨ i = 8 := by omega
  rcases hk with rfl | rfl | rfl | rfl | rfl | rfl | rfl | rfl | rfl <;> simp at * <;> omega
theorem nto_small (l : List UInt8) (h i : Nat) (hh : h ≤ 127) (h9 : i = 7 → h = 0) (hi : i ≤ 7) (hl : i + 1 ≤ l.length) : nto l h i < 72057594037927936 := by
  have hv := val_lt ((l.drop 1).take i)
  rw [List.length_take, List.length_drop, Nat.min_eq_left (by omega)] at hv
  unfold nto
  generalize val ((l.drop 1).take i) = v at *
  have hk : i = 0 ∨ i = 1 ∨ i = 2 ∨ i = 3 ∨ i = 4 ∨ i = 5 ∨ i = 6 ∨ i = 7 := by omega
  rcases hk with rfl | rfl | rfl | rfl | rfl | rfl | rfl | rfl <;> simp at * <;> omega

def tnone : Value := .tuple #[.int .u64 0, .int .i64 0, .bool false]
theorem take_nil (w : World) :
    Calls Tryd.prog 96 #[.string ⟨#[]⟩] w fun e w' => e = .returned tnone ∧ Below w.heap.size w w' := by
  go_enter Tryd.func96, Tryd.ntmps96
  go_wp2_with fail
  go_ret3
  exact ⟨rfl, Below.refl _ _⟩

set_option maxRecDepth 100000 in
set_option maxHeartbeats 2000000 in
theorem take_cons (l : List UInt8) (w : World) (h0 : l ≠ []) (hm : l.length ≤ 1000000) (P : Ending → World → Prop)
    (hyes : ∀ n s, ntake l = some (n, s) → ∀ w', Below w.heap.size w w' → P (.returned (.tuple #[.int .u64 (n : Nat), .int .i64 (s : Nat), .bool true])) w')
    (hno : ntake l = none → ∀ w', Below w.heap.size w w' → P (.returned tnone) w') :
    Calls Tryd.prog 96 #[.string (str l)] w P := by
  have hpos : 0 < l.length := List.length_pos_iff.2 h0
  have HI0 : ∀ W, (Instr.index 9 (.string (str l)) (.int .i64 0)).run Tryd.prog W = .ok (.int .u8 ((l.getD 0 0).toNat : Nat)) W := index_nb l 0 hpos
  have HIn := Lib.hid (fun j hj => index_nb l j hj)
  have hx := (l.getD 0 0).toNat_lt
  have hes : (str l).toList.isEmpty = false := by rw [ByteArray.toList_eq, str_list]; simpa using h0
  have hes2 : (str l).toList ≠ [] := by rw [ByteArray.toList_eq, str_list]; exact h0
  have hnt : ntake l = if l.length < ones (l.getD 0 0).toNat + 1 then none else if nsize (nval l (ones (l.getD 0 0).toNat + 1)) = ones (l.getD 0 0).toNat + 1 then some (nval l (ones (l.getD 0 0).toNat + 1), ones (l.getD 0 0).toNat + 1) else none := by
    unfold ntake
    rw [if_neg h0]
  have hob := ones_bd (l.getD 0 0).toNat
  have HO := Lib.hid (fun w => ones_any (l.getD 0 0).toNat w hx)
  have HAN := andnot_lead (l.getD 0 0).toNat hx
  obtain ⟨hd1, hd2⟩ := head_small (l.getD 0 0).toNat hx
  have hnv : nval l (ones (l.getD 0 0).toNat + 1) = nto l ((l.getD 0 0).toNat - lead (ones (l.getD 0 0).toNat + 1)) (ones (l.getD 0 0).toNat) := by
    unfold nval nto
    rw [Nat.add_sub_cancel]
    by_cases h9 : ones (l.getD 0 0).toNat + 1 = 9
    · rw [if_pos h9, hd2 h9]
    · rw [if_neg h9]
  rw [hnv] at hnt
  have hsl : (str l).size = l.length := rfl
  have HL := Lib.hid hsl
  have hsz : (str l).size ≤ 1000000 := hm
  have Hd2 := Lib.hid hd2
  have Hnt := Lib.hid hnt
  have Hyes := Lib.hid hyes
  have Hno := Lib.hid hno
  have hF := fun w => first_any (ones (l.getD 0 0).toNat + 1) w (by omega) (by omega)
  rw [show ((ones (l.getD 0 0).toNat + 1 : Nat) : Int) = (ones (l.getD 0 0).toNat : Int) + 1 by omega] at hF
  have HF := Lib.hid hF
  clear hF
  clear hnt hnv hd2 hsl hyes hno h0
  generalize (l.getD 0 0).toNat = x at *
  generalize ones x = k at *
  generalize hH : x - lead (k + 1) = H at *
  clear hH
  generalize lead (k + 1) = L at *
  generalize str l = S at *
  by_cases hshort : l.length < k + 1
  · have hno := Lib.hid (Hno.out (by rw [Hnt.out, if_pos hshort]))
    have hsh : (S.size : Int) < (k : Int) + 1 := by rw [HL.out]; omega
    clear HAN
    go_enter Tryd.func96, Tryd.ntmps96
    go_wp2_with fail
    refine (HO.out _).mono ?_
    rintro e w' ⟨rfl, rfl⟩
    go_wp2_with fail
    go_ret3
    exact hno.out _ (Below.refl _ _)
  · have hsh : ¬ (S.size : Int) < (k : Int) + 1 := by rw [HL.out]; omega
    have hHw : IntKind.u64.wrap (H : Int) = H := by rw [IntKind.wrap_u64]; omega
    go_enter Tryd.func96, Tryd.ntmps96
    go_wp2_with fail
    refine (HO.out _).mono ?_
    rintro e w' ⟨rfl, rfl⟩
    go_wp2_with fail
    go_quiet ((go_at_call 95; exact quiet_same (HF.out _)))
    clear HAN hHw HI0
    by_cases hk8 : k = 8
    · have hH0 := Lib.hid (Hd2.out (by omega))
      have h9 : ((k : Int) + 1 == 9) = true := by simp; omega
      clear hk8
      go_wp2_with fail
      go_loop [6, 7] (fun v6 v7 => ∃ i : Nat, i ≤ k ∧ v7 = .int .i64 ((i : Int) + 1) ∧ v6 = .int .u64 (nto l H i : Nat)) (fun _ v7 => 10 - (intOf v7).toNat)
      case atStart => exact ⟨0, Nat.zero_le _, rfl, by rw [nto_zero, hH0.out]; rfl⟩
      case round =>
        obtain ⟨i, hi, rfl, rfl⟩ := hrel
        by_cases hik : i < k
        · have hj : i + 1 < l.length := by omega
          have HI : ∀ W, (Instr.index 9 (.string S) (.int .i64 ((i : Int) + 1))).run Tryd.prog W = .ok (.int .u8 ((l.getD (i + 1) 0).toNat : Nat)) W := HIn.out (i + 1) hj
          have hsm := nto_small l H i hd1 (fun h7 => Hd2.out (by omega)) (by omega) (by omega)
          have hnx := nto_succ l H i hj
          have hbl := (l.getD (i + 1) 0).toNat_lt
          have hlt := nto_lt l H (i + 1) hd1 (fun h8 => Hd2.out (by omega)) (by omega) (by omega)
          have Hnx := Lib.hid hnx
          have Hlt := Lib.hid hlt
          clear hnx hlt
          generalize nto l H i = m at *
          generalize (l.getD (i + 1) 0).toNat = y at *
          have hor : bits .or .u64 ((m : Int) * 256) (y : Int) = (m : Int) * 256 + (y : Int) := by
            have h := or_u64 8 (m * 256) y (by omega) (by omega) (by rw [← Hnx.out]; exact Hlt.out)
            rw [show ((m * 256 : Nat) : Int) = (m : Int) * 256 by omega, show ((m * 256 + y : Nat) : Int) = (m : Int) * 256 + (y : Int) by omega] at h
            exact h
          go_wp2_with fail
          go_round
          case rel => exact ⟨i + 1, by omega, by first | rfl | exact congrArg (Value.int .i64) (by omega), by rw [Hnx.out]; first | rfl | exact congrArg (Value.int .u64) (by omega)⟩
          case measure => simp [intOf]; omega
        · have hike : i = k := by omega
          subst hike
          have hlt := nto_lt l H i hd1 (fun h8 => Hd2.out (by omega)) (by omega) (by omega)
          have HS := Lib.hid (fun w => size_any (nto l H i) w hlt)
          have hnt := Hnt.out
          rw [if_neg hshort] at hnt
          have HNT := Lib.hid hnt
          clear hnt hlt
          generalize nto l H i = m at *
          by_cases hsz2 : nsize m = i + 1
          · have hyes := Lib.hid (Hyes.out m (i + 1) (by rw [HNT.out, if_pos hsz2]))
            have hne : (((nsize m : Nat) : Int) != (i : Int) + 1) = false := by rw [bne_eq_false_iff_eq]; omega
            clear hsz2
            go_wp2_with fail
            refine (HS.out _).mono ?_
            rintro e w' ⟨rfl, rfl⟩
            go_wp2_with fail
            go_ret3
            exact hyes.out _ (below_drewN (Below.refl _ _) _)
          · have hno := Lib.hid (Hno.out (by rw [HNT.out, if_neg hsz2]))
            have hne : (((nsize m : Nat) : Int) != (i : Int) + 1) = true := by rw [bne_iff_ne]; omega
            clear hsz2
            go_wp2_with fail
            refine (HS.out _).mono ?_
            rintro e w' ⟨rfl, rfl⟩
            go_wp2_with fail
            go_ret3
            exact hno.out _ (below_drewN (Below.refl _ _) _)
    · have h9 : ((k : Int) + 1 == 9) = false := by simp; omega
      clear hk8
      go_wp2_with fail
      go_loop [6, 7] (fun v6 v7 => ∃ i : Nat, i ≤ k ∧ v7 = .int .i64 ((i : Int) + 1) ∧ v6 = .int .u64 (nto l H i : Nat)) (fun _ v7 => 10 - (intOf v7).toNat)
      case atStart => exact ⟨0, Nat.zero_le _, rfl, by rw [nto_zero]⟩
      case round =>
        obtain ⟨i, hi, rfl, rfl⟩ := hrel
        by_cases hik : i < k
        · have hj : i + 1 < l.length := by omega
          have HI : ∀ W, (Instr.index 9 (.string S) (.int .i64 ((i : Int) + 1))).run Tryd.prog W = .ok (.int .u8 ((l.getD (i + 1) 0).toNat : Nat)) W := HIn.out (i + 1) hj
          have hsm := nto_small l H i hd1 (fun h7 => Hd2.out (by omega)) (by omega) (by omega)
          have hnx := nto_succ l H i hj
          have hbl := (l.getD (i + 1) 0).toNat_lt
          have hlt := nto_lt l H (i + 1) hd1 (fun h8 => Hd2.out (by omega)) (by omega) (by omega)
          have Hnx := Lib.hid hnx
          have Hlt := Lib.hid hlt
          clear hnx hlt
          generalize nto l H i = m at *
          generalize (l.getD (i + 1) 0).toNat = y at *
          have hor : bits .or .u64 ((m : Int) * 256) (y : Int) = (m : Int) * 256 + (y : Int) := by
            have h := or_u64 8 (m * 256) y (by omega) (by omega) (by rw [← Hnx.out]; exact Hlt.out)
            rw [show ((m * 256 : Nat) : Int) = (m : Int) * 256 by omega, show ((m * 256 + y : Nat) : Int) = (m : Int) * 256 + (y : Int) by omega] at h
            exact h
          go_wp2_with fail
          go_round
          case rel => exact ⟨i + 1, by omega, by first | rfl | exact congrArg (Value.int .i64) (by omega), by rw [Hnx.out]; first | rfl | exact congrArg (Value.int .u64) (by omega)⟩
          case measure => simp [intOf]; omega
        · have hike : i = k := by omega
          subst hike
          have hlt := nto_lt l H i hd1 (fun h8 => Hd2.out (by omega)) (by omega) (by omega)
          have HS := Lib.hid (fun w => size_any (nto l H i) w hlt)
          have hnt := Hnt.out
          rw [if_neg hshort] at hnt
          have HNT := Lib.hid hnt
          clear hnt hlt
          generalize nto l H i = m at *
          by_cases hsz2 : nsize m = i + 1
          · have hyes := Lib.hid (Hyes.out m (i + 1) (by rw [HNT.out, if_pos hsz2]))
            have hne : (((nsize m : Nat) : Int) != (i : Int) + 1) = false := by rw [bne_eq_false_iff_eq]; omega
            clear hsz2
            go_wp2_with fail
            refine (HS.out _).mono ?_
            rintro e w' ⟨rfl, rfl⟩
            go_wp2_with fail
            go_ret3
            exact hyes.out _ (below_drewN (Below.refl _ _) _)
          · have hno := Lib.hid (Hno.out (by rw [HNT.out, if_neg hsz2]))
            have hne : (((nsize m : Nat) : Int) != (i : Int) + 1) = true := by rw [bne_iff_ne]; omega
            clear hsz2
            go_wp2_with fail
            refine (HS.out _).mono ?_
            rintro e w' ⟨rfl, rfl⟩
            go_wp2_with fail
            go_ret3
            exact hno.out _ (below_drewN (Below.refl _ _) _)

theorem take_yes (s : ByteArray) (n z : Nat) (w : World) (hm : s.size ≤ 1000000) (h : ntake s.data.toList = some (n, z)) :
    Calls Tryd.prog 96 #[.string s] w fun e w' => e = .returned (.tuple #[.int .u64 (n : Nat), .int .i64 (z : Nat), .bool true]) ∧ Below w.heap.size w w' := by
  have h0 : s.data.toList ≠ [] := by
    intro e
    rw [e] at h
    simp [ntake] at h
  have := take_cons s.data.toList w h0 (by simpa using hm) (fun e w' => e = .returned (.tuple #[.int .u64 (n : Nat), .int .i64 (z : Nat), .bool true]) ∧ Below w.heap.size w w')
    (fun n' z' h' w' hb => by rw [h] at h'; injection h' with h'; injection h' with e1 e2; subst e1 e2; exact ⟨rfl, hb⟩) (fun h' => by rw [h] at h'; cases h')
  rw [str_of] at this
  exact this
theorem take_no (s : ByteArray) (w : World) (hm : s.size ≤ 1000000) (h : ntake s.data.toList = none) :
    Calls Tryd.prog 96 #[.string s] w fun e w' => e = .returned tnone ∧ Below w.heap.size w w' := by
  by_cases h0 : s.data.toList = []
  · have e : s = ⟨#[]⟩ := by rw [← str_of s, h0]; rfl
    subst e
    exact take_nil w
  · have := take_cons s.data.toList w h0 (by simpa using hm) (fun e w' => e = .returned tnone ∧ Below w.heap.size w w')
      (fun n' z' h' => by rw [h] at h'; cases h') (fun _ w' hb => ⟨rfl, hb⟩)
    rw [str_of] at this
    exact this

end Go.Proofs.YtpgmbpjjefecdaaDoor.Nm
