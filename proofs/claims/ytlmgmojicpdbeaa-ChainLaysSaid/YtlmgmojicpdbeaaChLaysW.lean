/- The walk of ChainLays: it returns true and writes nothing that was there. -/
import Derived.Test.YtlmgmojicpdbeaaCh15
import Derived.Test.YtlmgmojicpdbeaaCh17
namespace Go.Proofs.Ytlmgmojicpdbeaa.chainLays
open Go.RowKit Base Crc Ch Plain Go.Maps
set_option linter.unusedVariables false

theorem enters : ∀ (args : Array Value) (w : World), (callFunc 53 args).run Try.prog w = .ok (.enter 53 args) w := by
  intro args w
  simp [callFunc, Try.func53, Try.f53, mark]
theorem fit_wf {a : Int} (h : (Lit.int .i64 a).wf = true) : fitI a := by
  have := bounds_i64 h
  exact ⟨by omega, by omega⟩

set_option maxHeartbeats 2000000 in
set_option maxRecDepth 100000 in
theorem walk_long (A0 : Option Addr) (n0 c0 : Nat) (A1 : Option Addr) (n1 c1 : Nat) (w : World) (m0 : n0 ≤ maxLen) (m1 : n1 ≤ maxLen) (h : 5 < n0 ∨ n0 ≤ 5 ∧ 600 < n1) :
    Calls Try.prog 13 #[.slice A0 n0 c0, .slice A1 n1 c1] w fun e w' => e = .returned (.bool true) ∧ Below w.heap.size w w' := by
  unfold maxLen at m0 m1
  rcases h with h | ⟨h, h'⟩
  all_goals
    go_enter Try.func13, Try.ntmps13
    go_wp2_with fail
    refine (awake_any _).mono ?_
    rintro e w1 ⟨rfl, hb⟩
    go_wp2_with fail
    go_ret
    exact ⟨rfl, ((Below.refl _ _).alloc (Nat.le_refl _) _).trans (hb.mono (by simp))⟩

set_option maxHeartbeats 2000000 in
set_option maxRecDepth 100000 in
theorem walk_count (A0 : Option Addr) (n0 c0 : Nat) (A1 : Option Addr) (n1 c1 : Nat) (w : World) (h0 : n0 ≤ 5) (h1 : n1 ≤ 600) (hc : (n0 : Int) ≠ count n1) :
    Calls Try.prog 13 #[.slice A0 n0 c0, .slice A1 n1 c1] w fun e w' => e = .returned (.bool true) ∧ Below w.heap.size w w' := by
  have hb : ((n0 : Int) != count n1) = true := by simpa using hc
  have Hl := Lib.hid (fun W => lay_count A0 A1 c0 c1 n0 n1 W (by omega) (by omega) hc)
  clear hc
  go_enter Try.func13, Try.ntmps13
  go_wp2_with fail
  refine (Hl.out _).mono ?_
  rintro e w1 ⟨rfl, rfl⟩
  go_wp2_with fail
  go_quiet ((go_at_call 44; exact quiet_same (rcount_any n1 _ (by omega))))
  go_wp2_with fail
  refine (awake_any _).mono ?_
  rintro e w2 ⟨rfl, hb2⟩
  go_wp2_with fail
  go_ret
  refine ⟨rfl, Below.trans (b := (((w.alloc (.cells #[.slice A0 n0 c0] 50)).alloc (.cells #[.slice none 0 0] 40)).drewN nq)) (below_drewN ((by repeat (first | exact Below.refl _ _ | assumption | refine Below.drew ?_ | (refine Below.alloc ?_ (by simp <;> omega) _) | (refine Below.setCell ?_ (by simp <;> omega) _)))) _) (hb2.mono (by simp; omega))⟩

set_option maxHeartbeats 4000000 in
set_option maxRecDepth 100000 in
theorem walk_main (A0 : Option Addr) (l0 : List Int) (c0 : Nat) (A1 : Option Addr) (l1 : List Int) (c1 : Nat) (w : World) (g0 : l0.length ≤ c0) (g1 : l1.length ≤ c1) (m1 : c1 ≤ maxLen) (r0 : Row w w.heap.size A0 (nums l0)) (r1 : Row w w.heap.size A1 (nums l1)) (f0 : ∀ x ∈ l0, fitI x) (f1 : ∀ x ∈ l1, fitI x)
    (h0 : l0.length ≤ 5) (h1 : l1.length ≤ 600) (hc : (l0.length : Int) = count l1.length) :
    Calls Try.prog 13 #[.slice A0 l0.length c0, .slice A1 l1.length c1] w fun e w' => e = .returned (.bool true) ∧ Below w.heap.size w w' := by
  have hneq : ((l0.length : Int) != count l1.length) = false := by simpa using hc
  have hLay := fun W q0 q1 => lay_out A0 A1 c0 c1 l0 l1 W (by omega) (by omega) g0 g1 m1 f0 q0 q1 hc
  have hRLay := fun hfine W q0 q1 => rlay_any A0 A1 c0 c1 l0 l1 W (by omega) (by omega) g1 m1 f0 q0 q1 hc hfine
  have hbf := Lib.hid (fun h => bad_fine (own := l0) (pages := l1) h)
  have hbn := Lib.hid (fun h => bad_not (own := l0) (pages := l1) h)
  have HC := Lib.hid hc
  have Hf0 := Lib.hid f0
  have Hf1 := Lib.hid f1
  have R0 := Lib.hid r0
  have R1 := Lib.hid r1
  clear hc r0 r1 f0 f1
  generalize hN : l0.length = n at *
  have Hn := Lib.hid hN
  generalize hM : l1.length = m at *
  have Hm := Lib.hid hM
  clear hN hM
  have HLay := Lib.hid hLay
  have HRLay := Lib.hid hRLay
  clear hLay hRLay m1
  have hb0 : Below w.heap.size w (w.alloc (.cells #[.slice A0 n c0] 50)) := (Below.refl _ _).alloc (Nat.le_refl _) _
  have R0a := Lib.hid ((R0.out.below hb0).more hb0.size)
  have R1a := Lib.hid ((R1.out.below hb0).more hb0.size)
  have hbx0 := Lib.hid (Box.new w 50 #[.slice A0 n c0])
  have Hb0 := Lib.hid hb0
  clear hb0
  go_enter Try.func13, Try.ntmps13
  go_wp2_with fail
  refine (HLay.out _ R0a.out R1a.out).mono ?_
  rintro e w2 ⟨A, q, c, x, rfl, hb2, hq, hcase⟩
  have Hcase := Lib.hid hcase
  have Hb2 := Lib.hid hb2
  have hbx2 := Lib.hid (hbx0.out.under hb2)
  obtain ⟨d0, e0⟩ := (hbx0.out.under hb2).one
  have hsz2 : w.heap.size < w2.heap.size := by have := hb2.size; simp at this; omega
  clear hcase hb2
  go_wp2_with fail
  go_quiet ((go_at_call 44; exact quiet_same (rcount_any m _ (by omega))))
  go_wp2_with fail
  have hbA : Below w.heap.size w ((w2.alloc (.cells #[.slice A q c] 40)).drewN nq) := below_drewN ((Hb0.out.trans (Hb2.out.mono (by simp))).alloc (by omega) _) _
  have hbB : Below w2.heap.size w2 ((w2.alloc (.cells #[.slice A q c] 40)).drewN nq) := below_drewN ((Below.refl _ _).alloc (Nat.le_refl _) _) _
  have hbx3 := Lib.hid (hbx2.out.under hbB)
  have hbl3 := Lib.hid ((Box.new w2 40 #[.slice A q c]).drewN nq)
  have hsz3 := Lib.hid (show w2.heap.size < ((w2.alloc (.cells #[.slice A q c] 40)).drewN nq).heap.size by simp)
  have hcase3 : Fine l0 l1 ∧ x = 0 ∧ q = n ∧ Row ((w2.alloc (.cells #[.slice A q c] 40)).drewN nq) w2.heap.size A ((layTo l0 l1 n).map .string) ∨ ¬ Fine l0 l1 ∧ x = 2 ∧ q = 0 := by
    rcases Hcase.out with ⟨k1, k2, k3, k4⟩ | k
    · rw [Hn.out] at k3 k4
      exact .inl ⟨k1, k2, k3, k4.below hbB⟩
    · exact .inr k
  have Hcase3 := Lib.hid hcase3
  have HbA := Lib.hid hbA
  obtain ⟨d1, e1⟩ := hbx3.out.one
  obtain ⟨d2, e2⟩ := hbl3.out.one
  clear hbA hbB hcase3 d0 e0
  clear Hcase
  generalize (w2.alloc (.cells #[.slice A q c] 40)).drewN nq = w3 at *
  have hcell0 : ∀ k (hk : k < l0.length), ∃ b off, A0 = some ⟨b, off, none⟩ ∧ w3.cell? ⟨b, off + k, none⟩ = some (.int .i64 (l0[k])) := by
    intro k hk
    obtain ⟨b, off, hA, hb, hc⟩ := (R0.out.below HbA.out).at_ (k := k) (by simpa using hk)
    exact ⟨b, off, hA, by rw [hc, List.getElem_map]⟩
  have hcell1 : ∀ k (hk : k < l1.length), ∃ b off, A1 = some ⟨b, off, none⟩ ∧ w3.cell? ⟨b, off + k, none⟩ = some (.int .i64 (l1[k])) := by
    intro k hk
    obtain ⟨b, off, hA, hb, hc⟩ := (R1.out.below HbA.out).at_ (k := k) (by simpa using hk)
    exact ⟨b, off, hA, by rw [hc, List.getElem_map]⟩
  have Hcell0 := Lib.hid hcell0
  have Hcell1 := Lib.hid hcell1
  clear hcell0 hcell1
  go_loop [7, 51] (fun v i => ∃ (k : Nat), k ≤ n ∧ i = .int .i64 k ∧ v = .bool (badO l0 k)) (fun _ i => n - (intOf i).toNat)
  case atStart => exact ⟨0, Nat.zero_le _, rfl, rfl⟩
  case round =>
    obtain ⟨k, hk, rfl, rfl⟩ := hrel
    by_cases hkn : k < n
    · obtain ⟨b, off, hA, hc⟩ := Hcell0.out k (by rw [Hn.out]; exact hkn)
      subst hA
      have hnew : badO l0 (k + 1) = (badO l0 k || (decide (0 < k) && decide (2046 < l0[k]'(by rw [Hn.out]; exact hkn)))) := by
        rw [badO, List.getD_eq_getElem?_getD, List.getElem?_eq_getElem (by rw [Hn.out]; exact hkn)]
        rfl
      generalize l0[k]'(by rw [Hn.out]; exact hkn) = z at *
      have Hnew := Lib.hid hnew
      clear hnew
      generalize badO l0 k = B at *
      cases B
      · by_cases hk0 : 0 < k
        · by_cases hz : 2046 < z
          · have hnn := Lib.hid (show badO l0 (k + 1) = true by rw [Hnew.out]; simp [hk0, hz])
            clear Hnew
            go_wp2_with fail
            go_round
            case rel => exact ⟨k + 1, by omega, by go_num, by rw [hnn.out]⟩
            case measure => simp [intOf]; omega
          · have hnn := Lib.hid (show badO l0 (k + 1) = false by rw [Hnew.out]; simp [hk0, hz])
            clear Hnew
            go_wp2_with fail
            go_round
            case rel => exact ⟨k + 1, by omega, by go_num, by rw [hnn.out]⟩
            case measure => simp [intOf]; omega
        · have hnn := Lib.hid (show badO l0 (k + 1) = false by rw [Hnew.out]; simp [hk0])
          clear Hnew
          go_wp2_with fail
          go_round
          case rel => exact ⟨k + 1, by omega, by go_num, by rw [hnn.out]⟩
          case measure => simp [intOf]; omega
      · have hnn := Lib.hid (show badO l0 (k + 1) = true by rw [Hnew.out]; rfl)
        clear Hnew
        go_wp2_with fail
        go_round
        case rel => exact ⟨k + 1, by omega, by go_num, by rw [hnn.out]⟩
        case measure => simp [intOf]; omega
    · have hke : k = n := by omega
      subst hke
      go_wp2_with fail
      go_loop [7, 68] (fun v i => ∃ (j : Nat), j ≤ m ∧ i = .int .i64 j ∧ v = .bool (badP (badO l0 k) l1 j)) (fun _ i => m - (intOf i).toNat)
      case atStart => exact ⟨0, Nat.zero_le _, rfl, rfl⟩
      case round =>
        obtain ⟨j, hj, rfl, rfl⟩ := hrel
        by_cases hjm : j < m
        · obtain ⟨b, off, hA, hc⟩ := Hcell1.out j (by rw [Hm.out]; exact hjm)
          subst hA
          have hnew : badP (badO l0 k) l1 (j + 1) = (badP (badO l0 k) l1 j || !okPage (l1[j]'(by rw [Hm.out]; exact hjm))) := by
            rw [badP, List.getD_eq_getElem?_getD, List.getElem?_eq_getElem (by rw [Hm.out]; exact hjm)]
            rfl
          generalize l1[j]'(by rw [Hm.out]; exact hjm) = z at *
          have Hnew := Lib.hid hnew
          clear hnew
          generalize badP (badO l0 k) l1 j = B at *
          cases B
          · by_cases hz0 : z < 0
            · have hnn := Lib.hid (show badP (badO l0 k) l1 (j + 1) = true by rw [Hnew.out]; simp [okPage]; omega)
              clear Hnew
              go_wp2_with fail
              go_round
              case rel => exact ⟨j + 1, by omega, by go_num, by rw [hnn.out]⟩
              case measure => simp [intOf]; omega
            · by_cases hz : 2046 < z
              · have hnn := Lib.hid (show badP (badO l0 k) l1 (j + 1) = true by rw [Hnew.out]; simp [okPage]; omega)
                clear Hnew
                go_wp2_with fail
                go_round
                case rel => exact ⟨j + 1, by omega, by go_num, by rw [hnn.out]⟩
                case measure => simp [intOf]; omega
              · have hnn := Lib.hid (show badP (badO l0 k) l1 (j + 1) = false by rw [Hnew.out]; simp [okPage]; omega)
                clear Hnew
                go_wp2_with fail
                go_round
                case rel => exact ⟨j + 1, by omega, by go_num, by rw [hnn.out]⟩
                case measure => simp [intOf]; omega
          · have hnn := Lib.hid (show badP (badO l0 k) l1 (j + 1) = true by rw [Hnew.out]; rfl)
            clear Hnew
            go_wp2_with fail
            go_round
            case rel => exact ⟨j + 1, by omega, by go_num, by rw [hnn.out]⟩
            case measure => simp [intOf]; omega
        · have hje : j = m := by omega
          subst hje
          rcases Hcase3.out with ⟨k1, k2, k3, k4⟩ | ⟨k1, k2, k3⟩
          · have hbad := hbf.out k1
            rw [hbad]
            subst k2
            subst k3
            have K1 := Lib.hid k1
            have K4 := Lib.hid k4
            clear hbad k1 k4
            have hTx : ∀ B d W, Row W W.heap.size A ((layTo l0 l1 q).map .string) → Row W W.heap.size B ((layTo l0 l1 q).map .string) →
                Calls Try.prog 51 #[.slice A q c, .slice B q d] W fun e w' => e = .returned (.bool true) ∧ Below W.heap.size W w' := by
              intro B d W h1 h2
              have := texts_same A B c d (layTo l0 l1 q) W (by rw [layTo_len]; unfold maxLen; omega) h1 h2
              rw [layTo_len] at this
              exact this
            have hRL : ∀ W, Below w3.heap.size w3 W → Calls Try.prog 52 #[.slice A0 q c0, .slice A1 j c1] W fun e w' => ∃ B d, e = .returned (.slice B q d) ∧ Row w' w'.heap.size B ((layTo l0 l1 q).map .string) ∧ Below W.heap.size W w' := by
              intro W hW
              have hbW := HbA.out.trans (hW.mono HbA.out.size)
              refine (HRLay.out K1.out W ((R0.out.below hbW).more hbW.size) ((R1.out.below hbW).more hbW.size)).mono ?_
              rintro e w' ⟨B, d, he, h1, h2⟩
              rw [layTo_len] at he
              exact ⟨B, d, he, h1, h2⟩
            have HTx := Lib.hid hTx
            have HRL := Lib.hid hRL
            clear hTx hRL
            have hlt2 : w2.heap.size < w3.heap.size := hsz3.out
            have hlt0 : w.heap.size < w3.heap.size := by have := hsz3.out; omega
            go_wp2_with fail
            go_region_held3 (fun w' => w'.cell? ⟨w2.heap.size, 0, none⟩ = some (.slice A q c) ∧ w'.cell? ⟨w.heap.size, 0, none⟩ = some (.slice A0 q c0) ∧ Below w3.heap.size w3 w')
              (first
                | exact ⟨d2, d1, (Below.refl _ _).drew⟩
                | (go_split_ands; exact ⟨(hb5.cell (p := ⟨w2.heap.size, 0, none⟩) (by show w2.heap.size < w4.heap.size; have := hb4'.size; omega)).trans (by assumption), (hb5.cell (p := ⟨w.heap.size, 0, none⟩) (by show w.heap.size < w4.heap.size; have := hb4'.size; omega)).trans (by assumption), hb5' ⟩)
                | (go_split_ands; exact ⟨(hb4.cell (p := ⟨w2.heap.size, 0, none⟩) (by simp; omega)).trans (by assumption), (hb4.cell (p := ⟨w.heap.size, 0, none⟩) (by simp; omega)).trans (by assumption), hb4' ⟩))
              (first
                | (go_at_call 52; refine (HRL.out _ (Below.refl _ _).drew).mono ?_; rintro e w4 ⟨B4, c4, rfl, hrow4, hb4⟩; have hb4' : Below w3.heap.size w3 w4 := (Below.refl _ _).drew.trans (hb4.mono (by simp)))
                | (go_at_call 51; refine (HTx.out B4 c4 w4 ((K4.out.below (hb4'.mono (by omega))).more (by have := hb4'.size; omega)) hrow4).mono ?_; rintro e w5 ⟨rfl, hb5⟩; have hb5' : Below w3.heap.size w3 w5 := hb4'.trans (hb5.mono hb4'.size)))
            have d15 := (hbx3.out.below hb5' hlt0)
            have d25 := (hbl3.out.below hb5' hlt2)
            have HbW5 := Lib.hid (HbA.out.trans (hb5'.mono HbA.out.size))
            have K45 := Lib.hid (K4.out.below (hb5'.mono (by omega)))
            have hs5 : w3.heap.size ≤ w5.heap.size := hb5'.size
            clear hb4 hb4' hb5 hb5' hrow4 d1 d2 e1 e2
            have D15 := Lib.hid d15
            have D25 := Lib.hid d25
            have hmm := @run_makeMap Try.prog
            have HM6 := Lib.hid (Met.new w5)
            have hbw6 := Lib.hid (show Below w5.heap.size w5 (w5.alloc (.map #[] 0)) from (Below.refl _ _).alloc (Nat.le_refl _) _)
            have D16 := Lib.hid (d15.under hbw6.out)
            obtain ⟨d16, e16⟩ := d15.one
            have hlt5 : w.heap.size < w5.heap.size := by omega
            clear d15 d25
            have R0b := Lib.hid (R0.out.below (HbW5.out.trans (((Below.refl _ _).alloc (Nat.le_refl _) (.map #[] 0)).alloc (by simp) (.cells #[] 3) |>.mono HbW5.out.size)))
            have R1b := Lib.hid (R1.out.below (HbW5.out.trans (((Below.refl _ _).alloc (Nat.le_refl _) (.map #[] 0)).alloc (by simp) (.cells #[] 3) |>.mono HbW5.out.size)))
            have HbW6 := Lib.hid (HbW5.out.trans (((Below.refl w5.heap.size w5).alloc (Nat.le_refl _) (.map #[] 0)).alloc (by simp) (.cells #[] 3) |>.mono HbW5.out.size))
            have HM6' := Lib.hid ((Over.alloc (B := 0) (w5.alloc (.map #[] 0)) (.cells #[] 3)).met HM6.out (by omega))
            have own6 : ((w5.alloc (.map #[] 0)).alloc (.cells #[] 3)).ownsRow (w5.heap.size + 1) 3 1 (.slice (some ⟨w5.heap.size + 1, 0, none⟩) 0 0) 0 [] := by
              have := World.ownsRow_lit (size := 1) (w5.alloc (.map #[] 0)) (e := 3) (base := w5.heap.size + 1) #[] 0 (by simp) (Nat.zero_le _) rfl
              simpa using this
            have Own6 := Lib.hid own6
            have D17 := Lib.hid (D16.out.alloc (.cells #[] 3))
            clear own6
            obtain ⟨i0, ti0, tz0, tz1, tz2⟩ := info_parts info_int
            have Hfit := Lib.hid (show ∀ x ∈ l0 ++ l1, fitI x by
              intro x hx
              rcases List.mem_append.1 hx with hx | hx
              · exact Hf0.out x hx
              · exact Hf1.out x hx)
            go_wp2_with (first
              | (at_builtin; refine wpList_append_row rfl (.tmp 104) (.tmp 105) 50 rfl (w5.heap.size + 1) 3 i0 (.int .i64 0) 8 Try.underlying50 ti0 tz0 tz1 tz2 rfl _ (.slice (some ⟨w5.heap.size + 1, 0, none⟩) 0 0) 0 [] rfl Own6.out A0 q c0 w.heap.size (nums l0) rfl (by rw [List.length_map]; exact Hn.out) R0b.out (ones l0) (by omega) (by decide) (by simp) ?_; intro v7 w7 hown7 happ7; have Hown7 := Lib.hid hown7; have Happ7 := Lib.hid happ7; clear hown7 happ7)
              | (at_builtin; refine wpList_append_row rfl (.tmp 106) (.tmp 107) 50 rfl (w5.heap.size + 1) 3 i0 (.int .i64 0) 8 Try.underlying50 ti0 tz0 tz1 tz2 rfl w7 v7 (0 + q) ([] ++ nums l0) rfl Hown7.out A1 j c1 w.heap.size (nums l1) rfl (by rw [List.length_map]; exact Hm.out) (Happ7.out.row R1b.out Own6.out (by omega) (by simp; omega)) (ones l1) (by omega) (by decide) (by have := Happ7.out.grown.size; simp at this; omega) ?_; intro v8 w8 hown8 happ8; have Hown8 := Lib.hid hown8; have Happ8 := Lib.hid happ8; obtain ⟨A8, c8, h8⟩ := own_form hown8; obtain ⟨nT, hnT⟩ : ∃ nT, nT = 0 + q + j := ⟨_, rfl⟩; rw [← hnT] at h8; have HnT := Lib.hid hnT; clear hnT; subst h8; clear hown8 happ8))
            have HL := Lib.hid (show (l0 ++ l1).length = nT by rw [List.length_append, Hn.out, Hm.out, HnT.out]; omega)
            have hnT : nT ≤ 605 := by have := HnT.out; omega
            have hb57 : w5.heap.size + 2 ≤ w7.heap.size := by have := Happ7.out.grown.size; simp at this; omega
            have hb78 : w7.heap.size ≤ w8.heap.size := Happ8.out.grown.size
            have HbW7 := Lib.hid (Happ7.out.below HbW6.out Own6.out (by omega) (by simp; omega))
            have HbW8 := Lib.hid (Happ8.out.below HbW7.out Hown7.out (by omega) (by omega))
            have D18 := Lib.hid (Happ8.out.box (Happ7.out.box D17.out Own6.out (by omega)) Hown7.out (by omega))
            have Hb58 := Lib.hid (Happ8.out.below (Happ7.out.below (show Below w5.heap.size w5 ((w5.alloc (.map #[] 0)).alloc (.cells #[] 3)) from ((Below.refl w5.heap.size w5).alloc (Nat.le_refl _) (.map #[] 0)).alloc (by simp) (.cells #[] 3)) Own6.out (by omega) (by simp; omega)) Hown7.out (by omega) (by omega))
            have HM8 := Lib.hid ((HM6'.out.kept Happ7.out.grown (by simp [Value.ownBlock])).kept Happ8.out.grown (by intro hh; have := (own_lt Hown7.out hh.symm).1; omega))
            have HRow8 := Lib.hid (show Row w8 w8.heap.size A8 (nums (l0 ++ l1)) by
              have h := Row.of_own (n := nT) (c := c8) (A := A8) (by have h := Hown8.out; rw [← HnT.out] at h; exact h)
              simpa using h)
            have HA8 := Lib.hid (show ∀ b off, A8 = some ⟨b, off, none⟩ → w5.heap.size + 1 ≤ b by
              intro b off hA
              have h := Hown8.out
              rw [hA] at h
              rcases h.2 with ⟨h1, _⟩ | ⟨g, cap, cur, h1, h2, _⟩
              · cases h1
              · injection h1 with h1
                injection h1 with h1
                injection h1 with h1
                omega)
            clear hmm d16 e16
            go_wp2_with fail
            go_loopw [110] (fun i wr => ∃ (k : Nat), k ≤ nT ∧ i = .int .i64 k ∧ Met wr w5.heap.size ((l0 ++ l1).take k) ∧ ((l0 ++ l1).take k).Nodup ∧ (∀ i x, 0 < i → i < k → i < q → (l0 ++ l1)[i]? = some x → 0 ≤ x) ∧ w8.grownBy wr (some w5.heap.size)) (fun i _ => nT - (intOf i).toNat)
            case atStart => exact ⟨0, Nat.zero_le _, rfl, by simpa using HM8.out, by simp, by intro i x h1 h2; omega, World.grownBy.refl w8 _⟩
            case round =>
              obtain ⟨k, hk, rfl, hm, hnd, hng, hgr⟩ := hrel
              have hbx := D18.out.grown hgr (by intro hh; injection hh with hh; omega)
              obtain ⟨c0', f0'⟩ := hbx.one
              have Hbx := Lib.hid hbx
              have Hng := Lib.hid hng
              have Hnd2 := Lib.hid hnd
              clear hnd hng hbx
              have hs8' : w8.heap.size ≤ wr.heap.size := hgr.size
              by_cases hkn : k < nT
              · have hkl : k < (l0 ++ l1).length := by rw [HL.out]; exact hkn
                obtain ⟨b, off, hA8, hb, hc⟩ := HRow8.out.at_ (k := k) (by simpa using hkl)
                have hb5 := HA8.out b off hA8
                subst hA8
                rw [List.getElem_map] at hc
                have hc' : wr.cell? ⟨b, off + k, none⟩ = some (.int .i64 ((l0 ++ l1)[k]'hkl)) := (World.cell?_of_block (a := ⟨b, off + k, none⟩) (hgr.block b hb (by intro hh; injection hh with hh; omega))).trans hc
                have hz := Hfit.out _ (List.getElem_mem hkl)
                have hsn : (l0 ++ l1).take (k + 1) = (l0 ++ l1).take k ++ [(l0 ++ l1)[k]'hkl] := List.take_succ_eq_append_getElem hkl
                have hzz : (l0 ++ l1)[k]? = some ((l0 ++ l1)[k]'hkl) := List.getElem?_eq_getElem hkl
                have Hsn := Lib.hid hsn
                have Hzz := Lib.hid hzz
                have hlen : ((l0 ++ l1).take k).length ≤ 6000 := by rw [List.length_take]; omega
                clear hc hsn hzz
                generalize (l0 ++ l1)[k]'hkl = z at *
                generalize hM : (l0 ++ l1).take k = M at *
                have HM := Lib.hid hM
                clear hM
                have hcl : M.count z ≤ 6000 := Nat.le_trans List.count_le_length hlen
                obtain ⟨D, hown, hD, hat⟩ := hm
                have hq0 : ∀ q : Int, D.atKey (.int .i64 z) (.lit (.int .i64 0)) = .lit (.int .i64 q) → q = ((M.count z : Nat) : Int) := by
                  intro q hh
                  rw [hat z hz] at hh
                  injection hh with hh
                  injection hh with _ hh
                  exact hh.symm
                have hput := put_count hD hat z hz
                have hq1 : ∀ q : Int, (D.put (.int .i64 z) (.lit (.int .i64 ((M.count z : Nat) + 1)))).atKey (.int .i64 z) (.lit (.int .i64 0)) = .lit (.int .i64 q) → q = ((M.count z : Nat) : Int) + 1 := by
                  intro q hh
                  rw [hput z hz, List.count_append] at hh
                  injection hh with hh
                  injection hh with _ hh
                  simp at hh
                  omega
                have hmp : IsMap (D.put (.int .i64 z) (.lit (.int .i64 ((M.count z : Nat) + 1)))) := hD.put _ _
                have hsn1 := fun h0 => nodup_snoc (z := z) Hnd2.out h0
                have Hsn1 := Lib.hid hsn1
                have Hput := Lib.hid hput
                have Hq0 := Lib.hid hq0
                have Hq1 := Lib.hid hq1
                have Hmp := Lib.hid hmp
                have hwf1 : (Lit.int .i64 (((M.count z : Nat) : Int) + 1)).wf = true := WalkArith.wf_i64 (by omega)
                have Hwf := Lib.hid hwf1
                have Hz := Lib.hid hz
                clear hwf1 hz hat hq0 hq1 hput hmp hD hsn1
                have Hlt := Lib.hid (show M.length < maxLen from Nat.lt_of_le_of_lt hlen (by unfold maxLen; omega))
                generalize hcn : M.count z = cn at *
                have Hcn := Lib.hid hcn
                clear hcn
                clear hlen
                by_cases hcz : cn = 0
                · have Hcz := Lib.hid hcz
                  clear hcz
                  by_cases hk0 : 0 < k
                  · by_cases hkq : k < q
                    · by_cases hz0 : z < 0
                      · skip
                        go_wp2_with (first
                          | (at_lookup; refine wpList_lookup_own_int _ rfl (.tmp 115) (.tmp 116) 79 rfl 3 3 .i64 keyLaw Try.underlying79 Try.underlying3 (zeroInt _) w5.heap.size M.length D rfl hown (.int .i64 z) (.int .i64 z) rfl (keyOf_int_mk Try.underlying3 (wfI Hz.out)) ?_; intro q1 hat1 hwq; obtain rfl := Hq0.out q1 hat1; clear hat1 hwq)
                          | (at_mapUpdate; refine wpList_mapUpdate_own _ rfl (.tmp 115) (.tmp 116) (.tmp 118) 79 rfl 3 3 keyLaw Try.underlying79 (plainElem Try.prog 3) w5.heap.size M.length D rfl hown Hlt.out (.int .i64 z) (.int .i64 ((cn : Int) + 1)) (.int .i64 z) rfl rfl (keyOf_int_mk Try.underlying3 (wfI Hz.out)) _ [] (plainElem_int Try.underlying3 Hwf.out) ?_; intro w1 hown1 hgr1; obtain ⟨c1', f1'⟩ := (Hbx.out.grown hgr1 (by intro hh; injection hh with hh; omega)).one)
                          | (at_lookup; refine wpList_lookup_own_int _ rfl (.tmp 119) (.tmp 120) 79 rfl 3 3 .i64 keyLaw Try.underlying79 Try.underlying3 (zeroInt _) w5.heap.size (M.length + 1) _ rfl hown1 (.int .i64 z) (.int .i64 z) rfl (keyOf_int_mk Try.underlying3 (wfI Hz.out)) ?_; intro q2 hat2 hwq2; have Hq2 := Lib.hid (Hq1.out q2 hat2); have hgt : decide (1 < q2) = false := (by have h9 := Hq2.out; have h8 := Hcz.out; subst h9; simp; omega); have Hown1 := Lib.hid hown1; have Hgr1 := Lib.hid hgr1; clear hat2 hwq2 hown1 hgr1 hcl))
                        refine (awake_any _).mono ?_
                        rintro e wz ⟨rfl, hbz⟩
                        go_wp2_with fail
                        go_ret
                        exact ⟨rfl, (HbW8.out.trans (below_grown (hgr.trans Hgr1.out) (by intro g hg; injection hg with hg; omega) (by omega))).trans (hbz.mono (by have h1 := (hgr.trans Hgr1.out).size; omega))⟩
                      · skip
                        go_wp2_with (first
                          | (at_lookup; refine wpList_lookup_own_int _ rfl (.tmp 115) (.tmp 116) 79 rfl 3 3 .i64 keyLaw Try.underlying79 Try.underlying3 (zeroInt _) w5.heap.size M.length D rfl hown (.int .i64 z) (.int .i64 z) rfl (keyOf_int_mk Try.underlying3 (wfI Hz.out)) ?_; intro q1 hat1 hwq; obtain rfl := Hq0.out q1 hat1; clear hat1 hwq)
                          | (at_mapUpdate; refine wpList_mapUpdate_own _ rfl (.tmp 115) (.tmp 116) (.tmp 118) 79 rfl 3 3 keyLaw Try.underlying79 (plainElem Try.prog 3) w5.heap.size M.length D rfl hown Hlt.out (.int .i64 z) (.int .i64 ((cn : Int) + 1)) (.int .i64 z) rfl rfl (keyOf_int_mk Try.underlying3 (wfI Hz.out)) _ [] (plainElem_int Try.underlying3 Hwf.out) ?_; intro w1 hown1 hgr1; obtain ⟨c1', f1'⟩ := (Hbx.out.grown hgr1 (by intro hh; injection hh with hh; omega)).one)
                          | (at_lookup; refine wpList_lookup_own_int _ rfl (.tmp 119) (.tmp 120) 79 rfl 3 3 .i64 keyLaw Try.underlying79 Try.underlying3 (zeroInt _) w5.heap.size (M.length + 1) _ rfl hown1 (.int .i64 z) (.int .i64 z) rfl (keyOf_int_mk Try.underlying3 (wfI Hz.out)) ?_; intro q2 hat2 hwq2; have Hq2 := Lib.hid (Hq1.out q2 hat2); have hgt : decide (1 < q2) = false := (by have h9 := Hq2.out; have h8 := Hcz.out; subst h9; simp; omega); have Hown1 := Lib.hid hown1; have Hgr1 := Lib.hid hgr1; clear hat2 hwq2 hown1 hgr1 hcl))
                        refine ⟨?_, by simp [intOf]; omega⟩
                        refine ⟨k + 1, by omega, by simp, ?_, ?_, ?_, hgr.trans Hgr1.out⟩
                        · rw [Hsn.out]
                          exact ⟨_, by rw [List.length_append]; exact Hown1.out, Hmp.out, Hput.out⟩
                        · rw [Hsn.out]
                          exact Hsn1.out Hcz.out
                        · intro i x hi0 hi1 hi2 hx
                          by_cases hik : i < k
                          · exact Hng.out i x hi0 hik hi2 hx
                          · have hik' : i = k := by omega
                            subst hik'
                            rw [Hzz.out] at hx
                            injection hx with hx
                            omega
                    · skip
                      go_wp2_with (first
                        | (at_lookup; refine wpList_lookup_own_int _ rfl (.tmp 115) (.tmp 116) 79 rfl 3 3 .i64 keyLaw Try.underlying79 Try.underlying3 (zeroInt _) w5.heap.size M.length D rfl hown (.int .i64 z) (.int .i64 z) rfl (keyOf_int_mk Try.underlying3 (wfI Hz.out)) ?_; intro q1 hat1 hwq; obtain rfl := Hq0.out q1 hat1; clear hat1 hwq)
                        | (at_mapUpdate; refine wpList_mapUpdate_own _ rfl (.tmp 115) (.tmp 116) (.tmp 118) 79 rfl 3 3 keyLaw Try.underlying79 (plainElem Try.prog 3) w5.heap.size M.length D rfl hown Hlt.out (.int .i64 z) (.int .i64 ((cn : Int) + 1)) (.int .i64 z) rfl rfl (keyOf_int_mk Try.underlying3 (wfI Hz.out)) _ [] (plainElem_int Try.underlying3 Hwf.out) ?_; intro w1 hown1 hgr1; obtain ⟨c1', f1'⟩ := (Hbx.out.grown hgr1 (by intro hh; injection hh with hh; omega)).one)
                        | (at_lookup; refine wpList_lookup_own_int _ rfl (.tmp 119) (.tmp 120) 79 rfl 3 3 .i64 keyLaw Try.underlying79 Try.underlying3 (zeroInt _) w5.heap.size (M.length + 1) _ rfl hown1 (.int .i64 z) (.int .i64 z) rfl (keyOf_int_mk Try.underlying3 (wfI Hz.out)) ?_; intro q2 hat2 hwq2; have Hq2 := Lib.hid (Hq1.out q2 hat2); have hgt : decide (1 < q2) = false := (by have h9 := Hq2.out; have h8 := Hcz.out; subst h9; simp; omega); have Hown1 := Lib.hid hown1; have Hgr1 := Lib.hid hgr1; clear hat2 hwq2 hown1 hgr1 hcl))
                      refine ⟨?_, by simp [intOf]; omega⟩
                      refine ⟨k + 1, by omega, by simp, ?_, ?_, ?_, hgr.trans Hgr1.out⟩
                      · rw [Hsn.out]
                        exact ⟨_, by rw [List.length_append]; exact Hown1.out, Hmp.out, Hput.out⟩
                      · rw [Hsn.out]
                        exact Hsn1.out Hcz.out
                      · intro i x hi0 hi1 hi2 hx
                        by_cases hik : i < k
                        · exact Hng.out i x hi0 hik hi2 hx
                        · have hik' : i = k := by omega
                          subst hik'
                          rw [Hzz.out] at hx
                          injection hx with hx
                          omega
                  · skip
                    go_wp2_with (first
                      | (at_lookup; refine wpList_lookup_own_int _ rfl (.tmp 115) (.tmp 116) 79 rfl 3 3 .i64 keyLaw Try.underlying79 Try.underlying3 (zeroInt _) w5.heap.size M.length D rfl hown (.int .i64 z) (.int .i64 z) rfl (keyOf_int_mk Try.underlying3 (wfI Hz.out)) ?_; intro q1 hat1 hwq; obtain rfl := Hq0.out q1 hat1; clear hat1 hwq)
                      | (at_mapUpdate; refine wpList_mapUpdate_own _ rfl (.tmp 115) (.tmp 116) (.tmp 118) 79 rfl 3 3 keyLaw Try.underlying79 (plainElem Try.prog 3) w5.heap.size M.length D rfl hown Hlt.out (.int .i64 z) (.int .i64 ((cn : Int) + 1)) (.int .i64 z) rfl rfl (keyOf_int_mk Try.underlying3 (wfI Hz.out)) _ [] (plainElem_int Try.underlying3 Hwf.out) ?_; intro w1 hown1 hgr1; obtain ⟨c1', f1'⟩ := (Hbx.out.grown hgr1 (by intro hh; injection hh with hh; omega)).one)
                      | (at_lookup; refine wpList_lookup_own_int _ rfl (.tmp 119) (.tmp 120) 79 rfl 3 3 .i64 keyLaw Try.underlying79 Try.underlying3 (zeroInt _) w5.heap.size (M.length + 1) _ rfl hown1 (.int .i64 z) (.int .i64 z) rfl (keyOf_int_mk Try.underlying3 (wfI Hz.out)) ?_; intro q2 hat2 hwq2; have Hq2 := Lib.hid (Hq1.out q2 hat2); have hgt : decide (1 < q2) = false := (by have h9 := Hq2.out; have h8 := Hcz.out; subst h9; simp; omega); have Hown1 := Lib.hid hown1; have Hgr1 := Lib.hid hgr1; clear hat2 hwq2 hown1 hgr1 hcl))
                    refine ⟨?_, by simp [intOf]; omega⟩
                    refine ⟨k + 1, by omega, by simp, ?_, ?_, ?_, hgr.trans Hgr1.out⟩
                    · rw [Hsn.out]
                      exact ⟨_, by rw [List.length_append]; exact Hown1.out, Hmp.out, Hput.out⟩
                    · rw [Hsn.out]
                      exact Hsn1.out Hcz.out
                    · intro i x hi0 hi1 hi2 hx
                      by_cases hik : i < k
                      · exact Hng.out i x hi0 hik hi2 hx
                      · have hik' : i = k := by omega
                        subst hik'
                        rw [Hzz.out] at hx
                        injection hx with hx
                        omega
                · have Hcz := Lib.hid hcz
                  clear hcz
                  go_wp2_with (first
                    | (at_lookup; refine wpList_lookup_own_int _ rfl (.tmp 115) (.tmp 116) 79 rfl 3 3 .i64 keyLaw Try.underlying79 Try.underlying3 (zeroInt _) w5.heap.size M.length D rfl hown (.int .i64 z) (.int .i64 z) rfl (keyOf_int_mk Try.underlying3 (wfI Hz.out)) ?_; intro q1 hat1 hwq; obtain rfl := Hq0.out q1 hat1; clear hat1 hwq)
                    | (at_mapUpdate; refine wpList_mapUpdate_own _ rfl (.tmp 115) (.tmp 116) (.tmp 118) 79 rfl 3 3 keyLaw Try.underlying79 (plainElem Try.prog 3) w5.heap.size M.length D rfl hown Hlt.out (.int .i64 z) (.int .i64 ((cn : Int) + 1)) (.int .i64 z) rfl rfl (keyOf_int_mk Try.underlying3 (wfI Hz.out)) _ [] (plainElem_int Try.underlying3 Hwf.out) ?_; intro w1 hown1 hgr1; obtain ⟨c1', f1'⟩ := (Hbx.out.grown hgr1 (by intro hh; injection hh with hh; omega)).one)
                    | (at_lookup; refine wpList_lookup_own_int _ rfl (.tmp 119) (.tmp 120) 79 rfl 3 3 .i64 keyLaw Try.underlying79 Try.underlying3 (zeroInt _) w5.heap.size (M.length + 1) _ rfl hown1 (.int .i64 z) (.int .i64 z) rfl (keyOf_int_mk Try.underlying3 (wfI Hz.out)) ?_; intro q2 hat2 hwq2; have Hq2 := Lib.hid (Hq1.out q2 hat2); have hgt : decide (1 < q2) = true := (by have h9 := Hq2.out; have h8 := Hcz.out; subst h9; simp; omega); have Hown1 := Lib.hid hown1; have Hgr1 := Lib.hid hgr1; clear hat2 hwq2 hown1 hgr1 hcl))
                  refine (awake_any _).mono ?_
                  rintro e wz ⟨rfl, hbz⟩
                  go_wp2_with fail
                  go_ret
                  exact ⟨rfl, (HbW8.out.trans (below_grown (hgr.trans Hgr1.out) (by intro g hg; injection hg with hg; omega) (by omega))).trans (hbz.mono (by have h1 := (hgr.trans Hgr1.out).size; omega))⟩
              · have hke : k = nT := by omega
                subst hke
                have hb5r := Hb58.out.trans (below_grown hgr (by intro g hg; injection hg with hg; omega) (by omega))
                have hbwr := HbW5.out.trans (hb5r.mono HbW5.out.size)
                have B1 := D15.out.under hb5r
                have B2 := D25.out.under hb5r
                have T1 := Lib.hid ((R0.out.below hbwr).more hbwr.size)
                have T2 := Lib.hid ((R1.out.below hbwr).more hbwr.size)
                have T3 := Lib.hid ((K45.out.below (hb5r.mono (by omega))).more (B' := wr.heap.size) (by omega))
                have Hbwr := Lib.hid hbwr
                have HB1 := Lib.hid B1
                have HB2 := Lib.hid B2
                obtain ⟨p1, p2⟩ := B1.one
                have hall := Lib.hid (show (l0 ++ l1).Nodup by
                  have h := Hnd2.out
                  rw [List.take_of_length_le (by rw [HL.out]; exact Nat.le_refl _)] at h
                  exact h)
                clear hb5r hbwr B1 B2 hm c0' f0' Hnd2
                by_cases hq0 : q = 0
                · have hqz : ((q : Int) == 0) = true := by simp [hq0]
                  clear hq0
                  go_wp2_with fail
                  refine (awake_any _).mono ?_
                  rintro e wz ⟨rfl, hbz⟩
                  go_wp2_with fail
                  go_ret
                  exact ⟨rfl, Hbwr.out.trans (hbz.mono Hbwr.out.size)⟩
                · have hqz : ((q : Int) == 0) = false := by simp [hq0]
                  have hq1 : 0 < q := by omega
                  have hl0 : 0 < l0.length := by rw [Hn.out]; exact hq1
                  have hne : l0 ≠ [] := by intro hh; rw [hh] at hl0; simp at hl0
                  obtain ⟨b, off, hA, hb, hc⟩ := T1.out.at_ (k := 0) (by simpa using hl0)
                  subst hA
                  rw [List.getElem_map, ← List.head_eq_getElem hne, Nat.add_zero] at hc
                  have hfz := Lib.hid (Hf0.out _ (List.head_mem hne))
                  have hcnt := Lib.hid (show (l0.length : Int) = count l1.length by rw [Hn.out, Hm.out]; exact HC.out)
                  have hback := Lib.hid (back_out hcnt.out K1.out hall.out (by
                    intro i hi x hx
                    have hlt : i < l0.length := by
                      rcases Nat.lt_or_ge i l0.length with hh | hh
                      · exact hh
                      · rw [List.getElem?_eq_none hh] at hx; cases hx
                    refine Hng.out i x hi ?_ ?_ ?_
                    · rw [← HL.out, List.length_append]; omega
                    · rw [← Hn.out]; exact hlt
                    · rw [List.getElem?_append_left hlt]; exact hx) hne)
                  generalize l0.head hne = z0 at *
                  clear hq0
                  have hr0 : ORead wr w.heap.size w2.heap.size (some ⟨b, off, none⟩) c0 l0 A c (layTo l0 l1 q) := by
                    refine ⟨by rw [Hn.out]; exact HB1.out, by rw [layTo_len]; exact HB2.out, T1.out, T3.out, by rw [Hn.out]; omega, by rw [layTo_len, Hn.out]⟩
                  have Hr0 := Lib.hid hr0
                  have hmf : ∀ (fn : Fn) (first cap : Array Value) (w : World), (Instr.makeFunc fn first cap).run Try.prog w = .ok (.func fn first cap) w := fun _ _ _ _ => rfl
                  have hcat : ∀ x y : Value, (#[x, y] ++ #[.pointer (some ⟨w.heap.size, 0, none⟩), .pointer (some ⟨w2.heap.size, 0, none⟩)] : Array Value) = #[x, y, .pointer (some ⟨w.heap.size, 0, none⟩), .pointer (some ⟨w2.heap.size, 0, none⟩)] := fun _ _ => rfl
                  have Hcat := Lib.hid hcat
                  clear hcat hr0
                  go_wp2_with fail
                  refine (follow_any (rdOwn l0 (layTo l0 l1 q)) z0 j 53 #[.pointer (some ⟨w.heap.size, 0, none⟩), .pointer (some ⟨w2.heap.size, 0, none⟩)] (fun _ W => Below wr.heap.size wr W) wr hfz.out ⟨by omega, by omega⟩ (Below.refl _ _) enters ?hI ?hyes ?hno ?hK ?hsz).mono ?_
                  case hI => exact fun i W W' h hb => h.trans hb
                  case hyes =>
                    intro i y W s hrd hi hy hI hW
                    rw [Hcat.out]
                    refine (oread_yes Hr0.out i y W s hrd hI).mono ?_
                    rintro e W' ⟨rfl, rfl⟩
                    exact ⟨rfl, hI, ⟨Nat.le_refl _, fun _ _ _ => rfl⟩⟩
                  case hno =>
                    intro i y W hrd hi hy hI hW
                    rw [Hcat.out]
                    refine (oread_no Hr0.out i y W hrd hi hI).mono ?_
                    rintro e W' ⟨rfl, rfl⟩
                    exact ⟨rfl, hI, ⟨Nat.le_refl _, fun _ _ _ => rfl⟩⟩
                  case hK => exact fun i S h => Nat.le_trans (stOwn_few i S h) (by rw [Hn.out]; omega)
                  case hsz => exact fun y i s h => layTo_size q s (List.mem_of_getElem? (rdOwn_in h).2.2)
                  rintro e w9 ⟨Aa, Ab, ca, cb, o, l, x, rfl, hout, ho, hl, rA, rB, hs9, i, hI9⟩
                  rw [Hn.out, Hm.out] at hback
                  rw [hback.out] at hout
                  injection hout with e1 e2
                  injection e2 with e2 e3
                  subst e1 e2 e3
                  have HI9 := Lib.hid hI9
                  have RA := Lib.hid rA
                  have RB := Lib.hid rB
                  have T19 := Lib.hid ((T1.out.below hI9).more hI9.size)
                  have T29 := Lib.hid ((T2.out.below hI9).more hI9.size)
                  obtain ⟨p91, p92⟩ := (HB1.out.under hI9).one
                  clear rA rB hI9 ho hl hs9 p1 p2
                  have hia : ∀ W, Row W W.heap.size Aa (nums l0) → Row W W.heap.size (some ⟨b, off, none⟩) (nums l0) → Calls Try.prog 41 #[.slice Aa q ca, .slice (some ⟨b, off, none⟩) q c0] W fun e w' => e = .returned (.bool true) ∧ Below W.heap.size W w' := by
                    intro W h1 h2
                    have h := ints_any Aa (some ⟨b, off, none⟩) ca c0 l0 l0 W (by rw [Hn.out]; unfold maxLen; omega) (by rw [Hn.out]; unfold maxLen; omega) h1 h2
                    rw [Hn.out, beq_self_eq_true] at h
                    exact h
                  have hib : ∀ W, Row W W.heap.size Ab (nums l1) → Row W W.heap.size A1 (nums l1) → Calls Try.prog 41 #[.slice Ab j cb, .slice A1 j c1] W fun e w' => e = .returned (.bool true) ∧ Below W.heap.size W w' := by
                    intro W h1 h2
                    have h := ints_any Ab A1 cb c1 l1 l1 W (by rw [Hm.out]; unfold maxLen; omega) (by rw [Hm.out]; unfold maxLen; omega) h1 h2
                    rw [Hm.out, beq_self_eq_true] at h
                    exact h
                  rw [Hn.out, Hm.out]
                  have Hia := Lib.hid hia
                  have Hib := Lib.hid hib
                  clear hia hib
                  go_wp2_with fail
                  refine (Hia.out w9 RA.out T19.out).mono ?_
                  rintro e w10 ⟨rfl, hb10⟩
                  have RB2 := Lib.hid ((RB.out.below hb10).more hb10.size)
                  have T210 := Lib.hid ((T29.out.below hb10).more hb10.size)
                  have Hb10 := Lib.hid hb10
                  clear hb10
                  go_wp2_with fail
                  refine (Hib.out w10 RB2.out T210.out).mono ?_
                  rintro e w11 ⟨rfl, hb11⟩
                  go_wp2_with fail
                  refine (awake_any _).mono ?_
                  rintro e w12 ⟨rfl, hb12⟩
                  go_wp2_with fail
                  go_ret
                  refine ⟨by first | rfl | (simp; done), ?_⟩
                  have q1 := Hbwr.out.trans (HI9.out.mono Hbwr.out.size)
                  have q2 := q1.trans (Hb10.out.mono q1.size)
                  have q3 := q2.trans (hb11.mono q2.size)
                  exact q3.trans (hb12.mono q3.size)
          · have hbad := hbn.out k1
            rw [hbad]
            subst k2 k3
            clear hbad k1
            go_wp2_with fail
            refine (awake_any _).mono ?_
            rintro e w4 ⟨rfl, hb4⟩
            go_wp2_with fail
            go_ret
            exact ⟨rfl, HbA.out.trans (hb4.mono HbA.out.size)⟩

theorem walk (A0 : Option Addr) (l0 : List Int) (c0 : Nat) (A1 : Option Addr) (l1 : List Int) (c1 : Nat) (w : World) (g0 : l0.length ≤ c0) (m0 : c0 ≤ maxLen) (r0 : Row w w.heap.size A0 (nums l0)) (f0 : ∀ x ∈ l0, (Lit.int .i64 x).wf = true) (g1 : l1.length ≤ c1) (m1 : c1 ≤ maxLen) (r1 : Row w w.heap.size A1 (nums l1)) (f1 : ∀ x ∈ l1, (Lit.int .i64 x).wf = true) :
    Calls Try.prog 13 #[.slice A0 l0.length c0, .slice A1 l1.length c1] w fun e w' => e = .returned (.bool true) ∧ Below w.heap.size w w' := by
  by_cases h0 : l0.length ≤ 5
  · by_cases h1 : l1.length ≤ 600
    · by_cases hc : (l0.length : Int) = count l1.length
      · exact walk_main A0 l0 c0 A1 l1 c1 w g0 g1 m1 r0 r1 (fun x hx => fit_wf (f0 x hx)) (fun x hx => fit_wf (f1 x hx)) h0 h1 hc
      · exact walk_count A0 _ c0 A1 _ c1 w h0 h1 hc
    · exact walk_long A0 _ c0 A1 _ c1 w (by omega) (by omega) (.inr ⟨h0, by omega⟩)
  · exact walk_long A0 _ c0 A1 _ c1 w (by omega) (by omega) (.inl (by omega))

end Go.Proofs.Ytlmgmojicpdbeaa.chainLays
