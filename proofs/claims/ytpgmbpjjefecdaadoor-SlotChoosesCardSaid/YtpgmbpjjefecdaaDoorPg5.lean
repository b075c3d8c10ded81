/- Layer 8, fifth part: page.Take and page.Is by what is asked; the document's Take. -/
import Derived.Test.YtpgmbpjjefecdaaDoorPg4
namespace Go.Proofs.YtpgmbpjjefecdaaDoor.Pg
open Go.RowKit Base Crc Plain Txt
set_option linter.unusedVariables false

def paged (l : List UInt8) : Value := .tuple #[.int .u8 (kindOf l).toNat, .int .i64 (idxOf l : Nat), .string (str (bodyOf l)), .int .i64 0]
theorem take_yes (p : ByteArray) (w : World) (h : isPg p.data.toList = true) :
    Calls Tryd.prog 15 #[.string p] w fun e w' => e = .returned (paged p.data.toList) ∧ Below w.heap.size w w' := by
  have h' := h
  unfold isPg at h'
  simp only [Bool.and_eq_true, decide_eq_true_eq] at h'
  refine take_open p w (by simpa using h'.1.1.1.1) h'.1.1.1.2 _ (fun _ w' hb => ⟨rfl, hb⟩) (fun hn => ?_)
  rw [h] at hn
  cases hn
theorem take_no (p : ByteArray) (w : World) (hm : p.size ≤ 140737488355328) (h : isPg p.data.toList = false) :
    Calls Tryd.prog 15 #[.string p] w fun e w' => e = .returned nothing ∧ Below w.heap.size w w' := by
  by_cases hp : p.size = 256
  · by_cases hc : isClosed p.data.toList = true
    · refine take_open p w hp hc _ (fun hn => ?_) (fun _ w' hb => ⟨rfl, hb⟩)
      rw [h] at hn
      cases hn
    · exact take_shut p w hm (.inl (by simpa using hc))
  · exact take_shut p w hm (.inr hp)

set_option maxHeartbeats 1000000 in
theorem is_yes (p : ByteArray) (k : UInt8) (i : Int) (w : World) (h : isPg p.data.toList = true) (hk : kindOf p.data.toList = k) (hi : (idxOf p.data.toList : Int) = i) :
    Calls Tryd.prog 16 #[.string p, .int .u8 k.toNat, .int .i64 i] w fun e w' => e = .returned (.tuple #[.string (str (bodyOf p.data.toList)), .int .i64 0]) ∧ Below w.heap.size w w' := by
  have HT := Lib.hid (fun w => take_yes p w h)
  unfold paged at HT
  rw [hk, hi] at HT
  clear h hk hi
  generalize str (bodyOf p.data.toList) = S at *
  generalize k.toNat = x at *
  have h1 : ((x : Int) != x) = false := by simp
  have h2 : ((i : Int) != i) = false := by simp
  go_enter Tryd.func16, Tryd.ntmps16
  go_wp2_with fail
  refine (HT.out _).mono ?_
  rintro e w1 ⟨rfl, hb1⟩
  go_wp2_with fail
  go_ret2
  exact ⟨rfl, hb1⟩
set_option maxHeartbeats 1000000 in
theorem is_no (p : ByteArray) (k : UInt8) (i : Int) (w : World) (hm : p.size ≤ 140737488355328) (h : ¬ (isPg p.data.toList = true ∧ kindOf p.data.toList = k ∧ (idxOf p.data.toList : Int) = i)) :
    Calls Tryd.prog 16 #[.string p, .int .u8 k.toNat, .int .i64 i] w fun e w' => e = .returned (.tuple #[.string ⟨#[]⟩, .int .i64 15]) ∧ Below w.heap.size w w' := by
  by_cases hp : isPg p.data.toList = true
  · have HT := Lib.hid (fun w => take_yes p w hp)
    unfold paged at HT
    by_cases hk : kindOf p.data.toList = k
    · have hi : (idxOf p.data.toList : Int) ≠ i := fun hi => h ⟨hp, hk, hi⟩
      have h1 : (((idxOf p.data.toList : Nat) : Int) != i) = true := by simpa using hi
      have h2 : ((k.toNat : Int) != (k.toNat : Int)) = false := by simp
      rw [hk] at HT
      clear h hk hp hi
      generalize str (bodyOf p.data.toList) = S at *
      generalize k.toNat = x at *
      generalize idxOf p.data.toList = y at *
      go_enter Tryd.func16, Tryd.ntmps16
      go_wp2_with fail
      refine (HT.out _).mono ?_
      rintro e w1 ⟨rfl, hb1⟩
      go_wp2_with fail
      go_ret2
      exact ⟨rfl, hb1⟩
    · have h2 : (((kindOf p.data.toList).toNat : Int) != (k.toNat : Int)) = true := by
        rw [bne_iff_ne]
        intro e
        exact hk (UInt8.toNat_inj.1 (by omega))
      clear h hk hp
      generalize str (bodyOf p.data.toList) = S at *
      generalize k.toNat = x at *
      generalize (kindOf p.data.toList).toNat = z at *
      generalize idxOf p.data.toList = y at *
      go_enter Tryd.func16, Tryd.ntmps16
      go_wp2_with fail
      refine (HT.out _).mono ?_
      rintro e w1 ⟨rfl, hb1⟩
      go_wp2_with fail
      go_ret2
      exact ⟨rfl, hb1⟩
  · have HT := Lib.hid (fun w => take_no p w hm (by simpa using hp))
    unfold nothing at HT
    clear h hp
    go_enter Tryd.func16, Tryd.ntmps16
    go_wp2_with fail
    refine (HT.out _).mono ?_
    rintro e w1 ⟨rfl, hb1⟩
    go_wp2_with fail
    go_ret2
    exact ⟨rfl, hb1⟩

/-! ### the document's Take -/
def rnothing : Value := .tuple #[.int .u8 0, .int .i64 0, .string ⟨#[]⟩, .bool false]
def rpaged (l : List UInt8) : Value := .tuple #[.int .u8 (kindOf l).toNat, .int .i64 (idxOf l : Nat), .string (str (bodyOf l)), .bool true]
theorem rtake_size (p : ByteArray) (w : World) (hm : p.size ≤ maxLen) (h : p.size ≠ 256) :
    Calls Tryd.prog 18 #[.string p] w fun e w' => e = .returned rnothing ∧ Below w.heap.size w w' := by
  unfold maxLen at hm
  have hn : ((p.size : Int) != 256) = true := by rw [bne_iff_ne]; omega
  go_enter Tryd.func18, Tryd.ntmps18
  go_wp2_with fail
  exact bodyPost_ret (v := rnothing) (by simp [results, Tryd.results18, go_sem, rnothing]) rfl ⟨rfl, Below.refl _ _⟩

set_option maxRecDepth 100000 in
set_option maxHeartbeats 2000000 in
theorem rtake_open (l : List UInt8) (w : World) (hp : l.length = 256) (P : Ending → World → Prop)
    (hyes : isPg l = true → ∀ w', Below w.heap.size w w' → P (.returned (rpaged l)) w')
    (hno : isPg l = false → ∀ w', Below w.heap.size w w' → P (.returned rnothing) w') :
    Calls Tryd.prog 18 #[.string (str l)] w P := by
  have hneq : (((str l).size : Int) != 256) = false := by rw [bne_eq_false_iff_eq]; show ((l.length : Nat) : Int) = 256; omega
  have HI0 : ∀ W, (Instr.index 9 (.string (str l)) (.int .i64 0)).run Tryd.prog W = .ok (.int .u8 (nb l 0 : Nat)) W := index_nb l 0 (by omega)
  have HI1 : ∀ W, (Instr.index 9 (.string (str l)) (.int .i64 1)).run Tryd.prog W = .ok (.int .u8 (nb l 1 : Nat)) W := index_nb l 1 (by omega)
  have HI2 : ∀ W, (Instr.index 9 (.string (str l)) (.int .i64 2)).run Tryd.prog W = .ok (.int .u8 (nb l 2 : Nat)) W := index_nb l 2 (by omega)
  have HI3 : ∀ W, (Instr.index 9 (.string (str l)) (.int .i64 3)).run Tryd.prog W = .ok (.int .u8 (nb l 3 : Nat)) W := index_nb l 3 (by omega)
  have HI4 : ∀ W, (Instr.index 9 (.string (str l)) (.int .i64 4)).run Tryd.prog W = .ok (.int .u8 (nb l 4 : Nat)) W := index_nb l 4 (by omega)
  have HI5 : ∀ W, (Instr.index 9 (.string (str l)) (.int .i64 5)).run Tryd.prog W = .ok (.int .u8 (nb l 5 : Nat)) W := index_nb l 5 (by omega)
  have hk0 := Lib.hid (show (kindOf l).toNat = nb l 0 from rfl)
  have hn0 := nb_lt l 0
  have hn1 := nb_lt l 1
  have hn2 := nb_lt l 2
  have hn3 := nb_lt l 3
  have hn4 := nb_lt l 4
  have hn5 := nb_lt l 5
  have Hidx := Lib.hid (show idxOf l = nb l 1 * 65536 + nb l 2 * 256 + nb l 3 from rfl)
  have Hlen := Lib.hid (show lenOf l = nb l 4 * 256 + nb l 5 from rfl)
  have HM := Lib.hid (fun (n : Nat) (y : Int) hy hn W => cut_mid l 6 (6 + n) 6 y rfl hy (by omega) hn W)
  have HL := Lib.hid hp
  have hidb := Lib.hid (show idxOf l ≤ 16777215 by unfold idxOf; omega)
  have HP := Lib.hid (fun hl W => rput_any (kindOf l) (idxOf l) (str (bodyOf l)) W hidb.out hl)
  have hbl := Lib.hid (fun h => bodyOf_len l hp h)
  have hpe := Lib.hid (fun a b => pg_eq l hp a b)
  have hnp := Lib.hid (show isPg l = true → okKind (kindOf l) = true ∧ lenOf l ≤ 246 by
    intro h
    unfold isPg at h
    simp only [Bool.and_eq_true, decide_eq_true_eq] at h
    exact ⟨h.1.1.2, h.1.2⟩)
  have Hyes := Lib.hid hyes
  have Hno := Lib.hid hno
  unfold rpaged at Hyes
  clear hyes hno hp
  have hbody := Lib.hid (show bodyOf l = (l.drop 6).take (lenOf l) from rfl)
  generalize hB : str l = b at *
  have HB := Lib.hid hB
  clear hB
  generalize nb l 0 = y0 at *
  generalize nb l 1 = y1 at *
  generalize nb l 2 = y2 at *
  generalize nb l 3 = y3 at *
  generalize nb l 4 = y4 at *
  generalize nb l 5 = y5 at *
  rw [hk0.out] at HP Hyes
  by_cases hk : okKind (kindOf l) = true
  · have hK := fun w => rkind_yes (kindOf l) w hk
    rw [hk0.out] at hK
    have HK := Lib.hid hK
    clear hK
    have v4 : IntKind.i64.wrap (y4 : Int) = y4 := IntWalk.i64_in _ (by omega)
    have v5 : IntKind.i64.wrap (y5 : Int) = y5 := IntWalk.i64_in _ (by omega)
    have v6 : IntKind.i64.wrap ((y4 : Int) * 256) = (y4 : Int) * 256 := IntWalk.i64_in _ (by omega)
    have v7 : IntKind.i64.wrap ((y4 : Int) * 256 + y5) = (y4 : Int) * 256 + y5 := IntWalk.i64_in _ (by omega)
    go_enter Tryd.func18, Tryd.ntmps18
    go_wp2_with fail
    refine (HK.out _).mono ?_
    rintro e w' ⟨rfl, rfl⟩
    go_wp2_with fail
    go_quiet (fail)
    clear v4 v5 v6 v7
    by_cases hbig : 246 < y4 * 256 + y5
    · have hbig' : (246 : Int) < (y4 : Int) * 256 + y5 := by omega
      have hfin := Lib.hid (Hno.out (by
        rcases hh : isPg l with _ | _
        · rfl
        · have := (hnp.out hh).2
          rw [Hlen.out] at this
          omega))
      clear hbig
      go_wp2_with fail
      exact bodyPost_ret (v := rnothing) (by simp [results, Tryd.results18, go_sem, rnothing]) rfl (hfin.out _ (below_drewN (Below.refl _ _) _))
    · have hbig' : ¬ (246 : Int) < (y4 : Int) * 256 + y5 := by omega
      have hle : lenOf l ≤ 246 := by rw [Hlen.out]; omega
      have HMn := HM.out (lenOf l) (6 + ((y4 : Int) * 256 + y5)) (by rw [Hlen.out]; omega) (by rw [HL.out]; omega)
      rw [show 6 + lenOf l - 6 = lenOf l by omega, ← hbody.out] at HMn
      have HPn := HP.out (by rw [str_size, hbl.out hle]; exact hle)
      rw [str_list, Hidx.out] at HPn
      have HPn' : ∀ W, Calls Tryd.prog 17 #[.int .u8 (y0 : Int), .int .i64 ((y1 : Int) * 65536 + (y2 : Int) * 256 + (y3 : Int)), .string (str (bodyOf l))] W fun e w' => e = .returned (.string (str (pg (kindOf l) (y1 * 65536 + y2 * 256 + y3) (bodyOf l)))) ∧ Below W.heap.size W w' := by
        intro W
        have h := HPn W
        rw [show ((y1 * 65536 + y2 * 256 + y3 : Nat) : Int) = (y1 : Int) * 65536 + (y2 : Int) * 256 + (y3 : Int) by omega] at h
        exact h
      have HPP := Lib.hid HPn'
      clear HPn HPn'
      have hiff := hpe.out hk hle
      rw [Hidx.out] at hiff
      have hcmp : isPg l = false → ((str (pg (kindOf l) (y1 * 65536 + y2 * 256 + y3) (bodyOf l))).toList == b.toList) = false := by
        intro h
        rw [← HB.out, ByteArray.toList_eq, ByteArray.toList_eq, str_list, str_list, beq_eq_false_iff_ne]
        intro e
        rw [hiff.1 e] at h
        cases h
      have hcmp2 : isPg l = true → ((str (pg (kindOf l) (y1 * 65536 + y2 * 256 + y3) (bodyOf l))).toList == b.toList) = true := by
        intro h
        rw [← HB.out, ByteArray.toList_eq, ByteArray.toList_eq, str_list, str_list, beq_iff_eq]
        exact hiff.2 h
      have Hc1 := Lib.hid hcmp
      have Hc2 := Lib.hid hcmp2
      have hsb : (str (bodyOf l)).size ≤ 246 := by rw [str_size, hbl.out hle]; exact hle
      have Hy : isPg l = true → ∀ w', Below w.heap.size w w' → P (.returned (.tuple #[.int .u8 (y0 : Int), .int .i64 ((y1 : Int) * 65536 + (y2 : Int) * 256 + (y3 : Int)), .string (str (bodyOf l)), .bool true])) w' := by
        intro h w' hb
        have h9 := Hyes.out h w' hb
        rw [Hidx.out, show ((y1 * 65536 + y2 * 256 + y3 : Nat) : Int) = (y1 : Int) * 65536 + (y2 : Int) * 256 + (y3 : Int) by omega] at h9
        exact h9
      have HY := Lib.hid Hy
      clear hcmp hcmp2 hiff hbig hle Hy Hyes hk
      generalize str (pg (kindOf l) (y1 * 65536 + y2 * 256 + y3) (bodyOf l)) = X at *
      generalize str (bodyOf l) = S at *
      have v1 : IntKind.i64.wrap (y1 : Int) = y1 := IntWalk.i64_in _ (by omega)
      have v2 : IntKind.i64.wrap (y2 : Int) = y2 := IntWalk.i64_in _ (by omega)
      have v3 : IntKind.i64.wrap (y3 : Int) = y3 := IntWalk.i64_in _ (by omega)
      have v4 : IntKind.i64.wrap ((y1 : Int) * 65536) = (y1 : Int) * 65536 := IntWalk.i64_in _ (by omega)
      have v5 : IntKind.i64.wrap ((y2 : Int) * 256) = (y2 : Int) * 256 := IntWalk.i64_in _ (by omega)
      have v6 : IntKind.i64.wrap ((y1 : Int) * 65536 + (y2 : Int) * 256) = (y1 : Int) * 65536 + (y2 : Int) * 256 := IntWalk.i64_in _ (by omega)
      have v7 : IntKind.i64.wrap ((y1 : Int) * 65536 + (y2 : Int) * 256 + y3) = (y1 : Int) * 65536 + (y2 : Int) * 256 + y3 := IntWalk.i64_in _ (by omega)
      go_wp2_with fail
      go_quiet (fail)
      clear v1 v2 v3 v4 v5 v6 v7
      go_wp2_with fail
      refine (HPP.out _).mono ?_
      rintro e w1 ⟨rfl, hb1⟩
      have hbw := Lib.hid (show Below w.heap.size w w1 from Below.trans (below_drewN (Below.refl w.heap.size w) _) (hb1.mono (Nat.le_refl _)))
      rcases hh : isPg l with _ | _
      · have hcmp := Hc1.out hh
        have hfin := Lib.hid (Hno.out hh)
        go_wp2_with fail
        exact bodyPost_ret (v := rnothing) (by simp [results, Tryd.results18, go_sem, rnothing]) rfl (hfin.out _ hbw.out)
      · have hcmp := Hc2.out hh
        have hfin := Lib.hid (HY.out hh)
        go_wp2_with fail
        exact bodyPost_ret (v := .tuple #[.int .u8 (y0 : Int), .int .i64 ((y1 : Int) * 65536 + (y2 : Int) * 256 + (y3 : Int)), .string S, .bool true]) (by simp [results, Tryd.results18, go_sem]) rfl (hfin.out _ hbw.out)
  · have hk' : okKind (kindOf l) = false := by simpa using hk
    have hK := fun w => rkind_no (kindOf l) w hk'
    rw [hk0.out] at hK
    have HK := Lib.hid hK
    clear hK
    have hfin := Lib.hid (Hno.out (by
      rcases hh : isPg l with _ | _
      · rfl
      · exact absurd (hnp.out hh).1 hk))
    clear hk hk'
    go_enter Tryd.func18, Tryd.ntmps18
    go_wp2_with fail
    refine (HK.out _).mono ?_
    rintro e w' ⟨rfl, rfl⟩
    go_wp2_with fail
    exact bodyPost_ret (v := rnothing) (by simp [results, Tryd.results18, go_sem, rnothing]) rfl (hfin.out _ (Below.refl _ _))

theorem rtake_yes (p : ByteArray) (w : World) (h : isPg p.data.toList = true) :
    Calls Tryd.prog 18 #[.string p] w fun e w' => e = .returned (rpaged p.data.toList) ∧ Below w.heap.size w w' := by
  have h' := h
  unfold isPg at h'
  simp only [Bool.and_eq_true, decide_eq_true_eq] at h'
  have := rtake_open p.data.toList w h'.1.1.1.1 (fun e w' => e = .returned (rpaged p.data.toList) ∧ Below w.heap.size w w') (fun _ w' hb => ⟨rfl, hb⟩) (fun hn => by rw [h] at hn; cases hn)
  rw [str_of] at this
  exact this
theorem rtake_no (p : ByteArray) (w : World) (hm : p.size ≤ maxLen) (h : isPg p.data.toList = false) :
    Calls Tryd.prog 18 #[.string p] w fun e w' => e = .returned rnothing ∧ Below w.heap.size w w' := by
  by_cases hp : p.size = 256
  · have := rtake_open p.data.toList w (by simpa using hp) (fun e w' => e = .returned rnothing ∧ Below w.heap.size w w') (fun hn => by rw [h] at hn; cases hn) (fun _ w' hb => ⟨rfl, hb⟩)
    rw [str_of] at this
    exact this
  · exact rtake_size p w hm hp

end Go.Proofs.YtpgmbpjjefecdaaDoor.Pg
