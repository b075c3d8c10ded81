/- DeviceSafe, walked: the long way. -/
import Derived.Test.YtbjjfbojcokmgaaDevSafeP
import Derived.Test.YtbjjfbojcokmgaaRegT
namespace Go.Proofs.Ytbjjfbojcokmgaa.deviceSafe
open Go.RowKit Base Dv
set_option linter.unusedVariables false
set_option linter.unusedSimpArgs false

section
variable (A1 A2 A3 : Option Addr) (c1 c2 c3 : Nat) (l more : List Ac) (keep : List Int) (torn bytes : Int) (w : World)
set_option maxRecDepth 100000 in
set_option maxHeartbeats 4000000 in
theorem safe_yes (hl : l.length ≤ 40) (hm : more.length ≤ 40) (hk : keep.length ≤ 100) (hr1 : Row w w.heap.size A1 (actV l)) (hr2 : Row w w.heap.size A2 (actV more)) (hr3 : Row w w.heap.size A3 (keep.map (Value.int .i64)))
    (hz1 : ∀ a ∈ l, a.data.size ≤ 8000) (hz2 : ∀ a ∈ more, a.data.size ≤ 8000)
    (H : Calls Try.prog 7 #[.slice A1 l.length c1] w fun e w' => e = .returned (.bool true) ∧ Below w.heap.size w w')
    (H2 : ∀ W, Below w.heap.size w W → Calls Try.prog 7 #[.slice A2 more.length c2] W fun e w' => e = .returned (.bool true) ∧ Below W.heap.size W w') :
    Calls Try.prog 3 #[.slice A1 l.length c1, .slice A2 more.length c2, .slice A3 keep.length c3, .int .i64 torn, .int .i64 bytes] w (Says w) := by
  have HW := Lib.hid Dv.awake_any
  have HF := Lib.hid H
  have HF2 := Lib.hid H2
  have HQ := Lib.hid (show ∀ w', Below w.heap.size w w' → Says w (.returned (.bool true)) w' from fun w' h => ⟨rfl, h⟩)
  have HN := Lib.hid (fun w => new_yes 24 w (by omega) (by omega))
  have HFu := Lib.hid full_any
  have hd : decide ((100 : Int) < (keep.length : Int)) = false := by simp; omega
  have Hr1 := Lib.hid hr1
  have Hr2 := Lib.hid hr2
  have Hr3 := Lib.hid hr3
  have Hz1 := Lib.hid hz1
  have Hz2 := Lib.hid hz2
  have Hk := Lib.hid hk
  generalize hN1 : l.length = n1 at *
  generalize hN2 : more.length = n2 at *
  have Hn1 := Lib.hid hN1
  have Hn2 := Lib.hid hN2
  clear H H2 hk hr1 hr2 hr3 hz1 hz2 hN1 hN2
  generalize hQ : Says w = Q at *
  clear hQ
  go_enter Try.func3, Try.ntmps3
  go_wp2_with fail
  refine HF.out.mono ?_
  rintro e w1 ⟨rfl, hb1⟩
  have Hb1 := Lib.hid hb1
  clear hb1
  go_wp2_with fail
  refine (HF2.out _ Hb1.out).mono ?_
  rintro e w2 ⟨rfl, hb2⟩
  have Hb2 := Lib.hid (Hb1.out.trans (hb2.mono Hb1.out.size))
  clear hb2
  go_wp2_with fail
  refine (HN.out _).mono ?_
  rintro e w3 ⟨d, gs, rfl, hdv, hb3⟩
  have HI := Lib.hid (show Inv1 w2.heap.size d gs w 0 w3 from ⟨_, _, _, hdv, List.length_replicate, rfl, rfl, Nat.le_refl _, Nat.le_refl _, Hb2.out.trans (hb3.mono Hb2.out.size)⟩)
  have Hw2 := Lib.hid Hb2.out.size
  clear hdv hb3 HF HF2 HN Hb1 hd
  go_wp2_with fail
  go_loopw [47] (fun v47 wr => ∃ j : Nat, j ≤ n1 ∧ v47 = .int .i64 (j : Nat) ∧ Inv1 w2.heap.size d gs w j wr) (fun v47 _ => n1 - (intOf v47).toNat)
  case atStart => exact ⟨0, Nat.zero_le _, rfl, HI.out⟩
  case round =>
    obtain ⟨j, hj, rfl, hinv⟩ := hrel
    clear HI
    by_cases hjm : j < n1
    · have hjl : j < l.length := by rw [Hn1.out]; exact hjm
      have Hinv := Lib.hid hinv
      obtain ⟨s, F, pv, hdv, h1, h2, h3, h4, h5, hbe⟩ := hinv
      have hdz := Hz1.out _ (List.getElem_mem hjl)
      obtain ⟨b, off, rfl, hb, a0, a1, a2, a3, a4, a5⟩ := Row.acts ((Hr1.out.below hbe).more hbe.size) j hjl
      have Hdv := Lib.hid hdv
      have Hbe := Lib.hid hbe
      have HNx := Lib.hid (fun (w' : World) (F' : Nat → Prop) (pv' : Value) (x : ByteArray) (i : Int) (hx : x.size = 128) (hd : DevAt w' w2.heap.size F' d gs 24 pv' (writeR s i x).1) (hb : Below w.heap.size w w') => Inv1.next (j := j) (wr := wr) (F := F) x i hx hd h1 h2 h3 h4 h5 hb)
      have Hsp := Lib.hid (show s.steps < 1000000 ∧ s.puts.length < 1000000 from ⟨by omega, by omega⟩)
      clear hdv hbe h1 h2 h3 h4 h5
      generalize (l[j]'hjl).kind = x0 at *
      generalize (l[j]'hjl).at_ = x1 at *
      generalize (l[j]'hjl).torn = x2 at *
      generalize (l[j]'hjl).data = x3 at *
      generalize (l[j]'hjl).raw = x4 at *
      generalize (l[j]'hjl).A = x5 at *
      generalize (l[j]'hjl).keep.length = x6 at *
      generalize (l[j]'hjl).c = x7 at *
      have hi0 : (0 : Int) ≤ (j : Int) := by omega
      have hi1 : (j : Int) < (n1 : Int) := by omega
      have hbA := (Below.refl wr.heap.size wr).alloc (Nat.le_refl _) (.cells #[.int .i64 x0, .int .i64 x1, .int .i64 x2, .string x3, .bool x4, .slice x5 x6 x7] 31)
      have HBa := Lib.hid (Box.new wr 31 #[.int .i64 x0, .int .i64 x1, .int .i64 x2, .string x3, .bool x4, .slice x5 x6 x7])
      have Hd1 := Lib.hid (Hdv.out.below hbA)
      have Hbe1 := Lib.hid (Hbe.out.trans (hbA.mono Hbe.out.size))
      have HSk := Lib.hid (Inv1.skip Hinv.out hbA)
      have HgF := Lib.hid (show ¬ F wr.heap.size from fun h => Nat.lt_irrefl _ (Hdv.out.own _ h).2)
      have HFB := Lib.hid (show ∀ k, F k → w2.heap.size ≤ k from fun k hk => (Hdv.out.own k hk).1)
      clear hbA Hinv Hdv Hbe
      go_upto_region 9 with fail
      clear a0 a1 a2 a3 a4 a5
      generalize wr.alloc (.cells #[.int .i64 x0, .int .i64 x1, .int .i64 x2, .string x3, .bool x4, .slice x5 x6 x7] 31) = W1 at *
      obtain ⟨⟨a0, a1, a2, a3, a4, a5⟩, _⟩ := Box.six HBa.out
      clear a2 a4 a5
      by_cases hx0 : x0 = 2
      · have hk2 : (x0 == 2) = true := by simpa using hx0
        clear hx0
        have Hfs := Lib.hid (full_size x3)
        have HWr := Lib.hid (show ∀ W, Below W1.heap.size W1 W → Calls Try.prog 10 #[.pointer (some ⟨d, 0, none⟩), .int .i64 x1, .string (full x3)] W (DvRet w2.heap.size F d gs 24 (writeR s x1 (full x3)).1 (.int .i64 (writeR s x1 (full x3)).2) W) from fun W hW => write_q (Hd1.out.below hW) x1 (full x3) (by rw [Hfs.out]; unfold maxLen; omega) Hsp.out.1 Hsp.out.2)
        have HNx1 := Lib.hid (fun (W w' : World) (F' : Nat → Prop) (pv' : Value) (hW : Below W1.heap.size W1 W) (hd : DevAt w' w2.heap.size F' d gs 24 pv' (writeR s x1 (full x3)).1) (ht : Turn F W w') => HNx.out w' F' pv' (full x3) x1 Hfs.out hd ((Hbe1.out.trans (hW.mono Hbe1.out.size)).trans (ht.toBelow (fun k hk => Nat.le_trans Hw2.out (HFB.out k hk)) (Nat.le_trans Hbe1.out.size hW.size))))
        have HFu1 := Lib.hid (show ∀ W, Calls Try.prog 11 #[.string x3] W fun e w' => e = .returned (.string (full x3)) ∧ Below W.heap.size W w' from fun W => HFu.out x3 W (by omega))
        clear Hd1 HNx
        generalize (writeR s x1 (full x3)).1 = s1 at *
        generalize (writeR s x1 (full x3)).2 = r1 at *
        generalize full x3 = y3 at *
        go_wp2_with fail
        go_region_law (first
          | (go_simp; go_at_call 11; refine (HFu1.out _).mono ?_; rintro e wn ⟨rfl, hbn⟩; have q1 : wn.cell? ⟨wr.heap.size, 1, none⟩ = some (.int .i64 x1) := (HBa.out.drew.under hbn).cell 1; have Hen := Lib.hid (show Below W1.heap.size W1 wn from (Below.refl _ _).drew.trans hbn); clear hbn)
          | (go_simp; go_at_call 10; refine (HWr.out _ (by first | exact Hen.out | exact Hen.out.drew)).mono ?_; rintro e wm ⟨rfl, F', pv', hdm, htm, hFm⟩; have HNm := Lib.hid (HNx1.out _ _ F' pv' (by first | exact Hen.out | exact Hen.out.drew) hdm htm); clear hdm htm hFm))
        all_goals
          go_wp2_with fail
          exact ⟨⟨j + 1, by omega, rfl, HNm.out⟩, by simp [intOf]; omega⟩
      · have hk2 : (x0 == 2) = false := by simpa using hx0
        clear hx0
        go_wp2_with fail
        exact ⟨⟨j + 1, by omega, rfl, HSk.out⟩, by simp [intOf]; omega⟩
    · have hje : n1 = j := by omega
      subst hje
      obtain ⟨s, F, pv, hdv, h1, h2, h3, h4, h5, hbe⟩ := hinv
      have HSy := Lib.hid (sync_q hdv (by omega))
      have e0 : syncR s = (syncD s, 0) := by unfold syncR; rw [if_neg (by rw [h2]; decide), if_neg (by omega)]
      rw [e0] at HSy
      have Hsy := Lib.hid (show (syncD s).sec.length = 24 ∧ (syncD s).off = false ∧ (syncD s).fuse = 0 ∧ (syncD s).steps ≤ 100 ∧ (syncD s).puts = [] from by
        unfold syncD
        rw [stepD_go (by omega)]
        exact ⟨by rw [layAll_len]; exact h1, h2, by show s.fuse - 1 = 0; omega, by show s.steps + 1 ≤ 100; omega, rfl⟩)
      have Hbe := Lib.hid hbe
      have HFB := Lib.hid (show ∀ k, F k → w2.heap.size ≤ k from fun k hk => (hdv.own k hk).1)
      clear e0 hdv h1 h2 h3 h4 h5 hbe Hz1 Hr1 Hn1
      generalize syncD s = s1 at *
      dsimp only at HSy
      go_wp2_with fail
      refine HSy.out.mono ?_
      rintro e w4 ⟨rfl, F1, pv1, hd4, ht4, hF4⟩
      have Hd4 := Lib.hid hd4
      have Hbe4 := Lib.hid (Hbe.out.trans (ht4.toBelow (fun k hk => Nat.le_trans Hw2.out (HFB.out k hk)) Hbe.out.size))
      have HSz := Lib.hid (seize_yes hd4)
      clear hd4 ht4 hF4 HSy Hbe HFB
      go_wp2_with fail
      refine HSz.out.mono ?_
      rintro e w5 ⟨v1, v2, rfl, o1, o2, hb5⟩
      obtain ⟨B1, e1, rfl⟩ := own_form2 o1
      obtain ⟨B2, e2, rfl⟩ := own_form2 o2
      rw [Hsy.out.1] at o1
      rw [Hsy.out.1]
      obtain ⟨b1, rfl⟩ : ∃ b1, B1 = some ⟨b1, 0, none⟩ := by
        rcases o1.2 with ⟨_, h⟩ | ⟨g, cap, cur, h, _⟩
        · omega
        · injection h with h _ _
          exact ⟨g, h⟩
      have Ho1 := Lib.hid o1
      have Hb5 := Lib.hid hb5
      clear o1 o2 hb5 HSz
      generalize hp2 : s1.puts.length = p2 at *
      clear hp2
      go_upto_region 15 with fail
      generalize hw6 : w5.alloc (.cells #[.slice (some ⟨b1, 0, none⟩) 24 e1, .slice B2 p2 e2] 38) = w6 at *
      have Hw6 := Lib.hid hw6.symm
      clear hw6
      obtain ⟨i0, ti0, tz0, tz1, tz2⟩ := info_parts info_strs
      go_wp2_with (refine wpList_make_full _ rfl _ _ 40 rfl w6.heap.size 35 i0 (.slice none 0 0) 1 Try.underlying40 ti0 tz0 tz1 .i64 .i64 24 24 24 rfl rfl rfl rfl (by rw [tz2]; omega) (by unfold maxLen; omega) (Nat.le_refl _) ?_; intro w7 hown hgr; rw [show (Value.slice none 0 0).cells = #[.slice none 0 0] from rfl, made_one] at hown; have HI2 := Lib.hid (Inv2.start Hd4.out Hsy.out Hbe4.out Hb5.out Ho1.out Hw6.out rfl hown hgr); have Hgw := Lib.hid (show w.heap.size ≤ w6.heap.size from by rw [Hw6.out]; have := Hbe4.out.size; have := Hb5.out.size; simp; omega); clear hown hgr ti0 tz0 tz1 tz2)
      clear Hd4 Hb5 Ho1 Hw6 Hbe4
      generalize w6.heap.size = gw at *
      generalize w5.heap.size = gq at *
      have Hsl := Lib.hid Hsy.out.1
      generalize s1.sec = sec at *
      clear Hsy
      go_loopw [70] (fun v70 wr => ∃ j : Nat, j ≤ n2 ∧ v70 = .int .i64 (j : Nat) ∧ Inv2 w2.heap.size d gs gw gq b1 e1 (.slice B2 p2 e2) sec w j wr) (fun v70 _ => n2 - (intOf v70).toNat)
      case atStart => exact ⟨0, Nat.zero_le _, rfl, HI2.out⟩
      case round =>
        obtain ⟨j, hj, rfl, hinv⟩ := hrel
        clear HI2
        by_cases hjm : j < n2
        · have hjl : j < more.length := by rw [Hn2.out]; exact hjm
          obtain ⟨s, F, pv, vs, hdv, h1, h2, h3, h4, h5, hnt, hwt, hbe⟩ := hinv
          have hdz := Hz2.out _ (List.getElem_mem hjl)
          obtain ⟨b, off, rfl, hb, a0, a1, a2, a3, a4, a5⟩ := Row.acts ((Hr2.out.below hbe).more hbe.size) j hjl
          have Hdv := Lib.hid hdv
          have Hbe := Lib.hid hbe
          have Hnt := Lib.hid hnt
          have Hwt := Lib.hid hwt
          have Hs := Lib.hid (And.intro h1 (And.intro h2 (And.intro h3 (And.intro h4 h5))))
          clear hdv hbe hnt hwt h1 h2 h3 h4 h5
          generalize (more[j]'hjl).kind = x0 at *
          generalize (more[j]'hjl).at_ = x1 at *
          generalize (more[j]'hjl).torn = x2 at *
          generalize (more[j]'hjl).data = x3 at *
          generalize (more[j]'hjl).raw = x4 at *
          generalize (more[j]'hjl).A = x5 at *
          generalize (more[j]'hjl).keep.length = x6 at *
          generalize (more[j]'hjl).c = x7 at *
          have hi0 : (0 : Int) ≤ (j : Int) := by omega
          have hi1 : (j : Int) < (n2 : Int) := by omega
          have hbA := (Below.refl wr.heap.size wr).alloc (Nat.le_refl _) (.cells #[.int .i64 x0, .int .i64 x1, .int .i64 x2, .string x3, .bool x4, .slice x5 x6 x7] 31)
          have HBa := Lib.hid (Box.new wr 31 #[.int .i64 x0, .int .i64 x1, .int .i64 x2, .string x3, .bool x4, .slice x5 x6 x7])
          have Hd1 := Lib.hid (Hdv.out.below hbA)
          have Hbe1 := Lib.hid (Hbe.out.trans (hbA.mono Hbe.out.size))
          have Hnt1 := Lib.hid (Hnt.out.below hbA (Nat.le_of_lt Hwt.out.box.lt))
          have Hwt1 := Lib.hid (Hwt.out.below hbA)
          have HgF := Lib.hid (show ¬ F wr.heap.size from fun h => Nat.lt_irrefl _ (Hdv.out.own _ h).2)
          have Hgw1 := Lib.hid (show gw < wr.heap.size from Hwt.out.box.lt)
          have HFB := Lib.hid (show ∀ k, F k → w2.heap.size ≤ k from fun k hk => (Hdv.out.own k hk).1)
          have Hag := Lib.hid (show ∀ i (h : i < vs.length), vs[i].ownBlock ≠ some wr.heap.size from fun i h e => Nat.lt_irrefl _ ((Hwt.out.own i h).lt _ e).2)
          have Hsp := Lib.hid (show s.steps < 1000000 ∧ s.puts.length < 1000000 from ⟨by have := Hs.out.2.2.2.1; omega, by have := Hs.out.2.2.2.2; omega⟩)
          clear hbA Hdv Hbe Hnt Hwt
          go_upto_region 19 with fail
          clear a0 a1 a2 a3 a4 a5
          generalize wr.alloc (.cells #[.int .i64 x0, .int .i64 x1, .int .i64 x2, .string x3, .bool x4, .slice x5 x6 x7] 31) = W1 at *
          generalize wr.heap.size = gA at *
          obtain ⟨⟨a0, a1, a2, a3, a4, a5⟩, _⟩ := Box.six HBa.out
          clear a0 a2 a4 a5
          have Hfs := Lib.hid (full_size x3)
          have HWr := Lib.hid (show ∀ W, Below W1.heap.size W1 W → Calls Try.prog 10 #[.pointer (some ⟨d, 0, none⟩), .int .i64 x1, .string (full x3)] W (DvRet w2.heap.size F d gs 24 (writeR s x1 (full x3)).1 (.int .i64 (writeR s x1 (full x3)).2) W) from fun W hW => write_q (Hd1.out.below hW) x1 (full x3) (by rw [Hfs.out]; unfold maxLen; omega) Hsp.out.1 Hsp.out.2)
          have HFu1 := Lib.hid (show ∀ W, Calls Try.prog 11 #[.string x3] W fun e w' => e = .returned (.string (full x3)) ∧ Below W.heap.size W w' from fun W => HFu.out x3 W (by omega))
          have HT := Lib.hid (show ∀ W w', Below W1.heap.size W1 W → Turn F W w' → Below w.heap.size w w' from fun W w' hW ht => (Hbe1.out.trans (hW.mono Hbe1.out.size)).trans (ht.toBelow (fun k hk => Nat.le_trans Hw2.out (HFB.out k hk)) (Nat.le_trans Hbe1.out.size hW.size)))
          clear Hd1
          by_cases hrd : readyD s x1 = 0
          · obtain ⟨ho, k, rfl, hk⟩ := ready_zero_iff hrd
            rw [writeR_yes Hfs.out Hs.out.2.2.1 hrd, Int.toNat_natCast] at HWr
            dsimp only at HWr
            have hk24 : k < 24 := by rw [Hs.out.1, Hsl.out] at hk; exact hk
            clear ho hk hrd
            generalize full x3 = y3 at *
            have hk0 : (0 : Int) ≤ (k : Int) := by omega
            have hk1 : (k : Int) < 24 := by omega
            have hln := atP_len s.puts k
            have hnk : (atP s.puts k).length ≤ 1000000 := by have := Hsp.out.2; omega
            obtain ⟨hkv, Ak, ck, hve, _, _⟩ := Hwt1.out.cell k hk24
            have Hve := Lib.hid hve
            obtain ⟨i0, ti0, tz0, tz1, tz2⟩ := info_parts info_string
            have HMid := Lib.hid (show ∀ W w' F' pv', Below W1.heap.size W1 W → DevAt w' w2.heap.size F' d gs 24 pv' (writeD s k y3) → Turn F W w' → (∀ k, F' k → F k ∨ W.heap.size ≤ k) → Wnt w' gw F' gq b1 e1 (.slice B2 p2 e2) sec ∧ Writ w' gw F' vs s.puts ∧ Box w' gA 31 #[.int .i64 x0, .int .i64 (k : Int), .int .i64 x2, .string x3, .bool x4, .slice x5 x6 x7] ∧ Below w.heap.size w w' from fun W w' F' pv' hW hd ht hF => ⟨(Hnt1.out.below hW (Nat.le_of_lt Hwt1.out.box.lt)).turn ht (Nat.le_trans (Nat.le_of_lt Hwt1.out.box.lt) hW.size) hF, (Hwt1.out.below hW).turn ht hF, (HBa.out.under hW).turn ht HgF.out, HT.out W w' hW ht⟩)
            have HApp := Lib.hid (fun (F' : Nat → Prop) (pv' v' : Value) (wq w5 : World) (hd : DevAt wq w2.heap.size F' d gs 24 pv' (writeD s k y3)) (hn : Wnt wq gw F' gq b1 e1 (.slice B2 p2 e2) sec) (hw : Writ wq gw F' vs s.puts) (hb : Below w.heap.size w wq) (ha : App wq w5 (.slice Ak (atP s.puts k).length ck) v') (ho : w5.ownsRow (gw + 1) 9 1 v' ((atP s.puts k).length + 1) ((atP s.puts k).map .string ++ [.string y3])) => Inv2.app (j := j) hd Hs.out.1 Hs.out.2.1 Hs.out.2.2.1 Hs.out.2.2.2.1 Hs.out.2.2.2.2 hn hw hb Hgw.out hkv (Hve.out ▸ ha) ho)
            have HCell := Lib.hid (show ∀ W F', Writ W gw F' vs s.puts → W.cell? ⟨gw, k, none⟩ = some (.slice Ak (atP s.puts k).length ck) ∧ W.ownsRow (gw + 1) 9 1 (.slice Ak (atP s.puts k).length ck) (atP s.puts k).length ((atP s.puts k).map .string) from fun W F' hw => by
              obtain ⟨hv, A', c', e', h1, h2⟩ := hw.cell k hk24
              have e := hve.symm.trans e'
              rw [e]
              exact ⟨h1, h2⟩)
            clear hve hln Hnt1 Hwt1 HT
            generalize (atP s.puts k).map Value.string = xs at *
            generalize (atP s.puts k).length = nk at *
            go_wp2_with fail
            -- region 19
            refine wp_region_noPanic ?_
            refine wp_region_T (t := 99) (S := (fun w' => w'.cell? ⟨gA, 1, none⟩ = some (.int .i64 (k : Int)) ∧ w'.cell? ⟨gA, 3, none⟩ = some (.string x3))) (by kernel_rfl) ⟨a1, a3⟩ (fun hHeld => ?_)
            refine wpAnyT_take (i := 0) (oi := ?op0) (v := ?vp0) ?ap0 (by kernel_rfl) (by kernel_rfl) (by kernel_rfl) (by kernel_rfl) (fun _ _ _ h => h) ?bp0 hHeld ?cp0
            case ap0 => (simp only [List.getElem?_toArray, List.getElem?_cons_zero]; exact rfl)
            case bp0 => (refine Or.inl ⟨by rfl, ?_⟩; intro w hSw; (try dsimp only at hSw); go_simp; try exact rfl)
            try simp only [Act.put, List.setIfInBounds_toArray, List.set_cons_zero, List.set_cons_succ]
            refine wpAnyT_take (i := 1) (oi := ?op1) (v := ?vp1) ?ap1 (by kernel_rfl) (by kernel_rfl) (by kernel_rfl) (by kernel_rfl) (fun _ _ _ h => h) ?bp1 hHeld ?cp1
            case ap1 => (simp only [List.getElem?_toArray, List.getElem?_cons_succ, List.getElem?_cons_zero]; exact rfl)
            case bp1 => (refine Or.inl ⟨by rfl, ?_⟩; intro w hSw; (try dsimp only at hSw); go_simp; try exact rfl)
            try simp only [Act.put, List.setIfInBounds_toArray, List.set_cons_zero, List.set_cons_succ]
            refine wpAnyT_take (i := 2) (oi := ?op2) (v := ?vp2) ?ap2 (by kernel_rfl) (by kernel_rfl) (by kernel_rfl) (by kernel_rfl) (fun _ _ _ h => h) ?bp2 hHeld ?cp2
            case ap2 => (simp only [List.getElem?_toArray, List.getElem?_cons_succ, List.getElem?_cons_zero]; exact rfl)
            case bp2 => (refine Or.inl ⟨by rfl, ?_⟩; intro w hSw; (try dsimp only at hSw); go_simp; try exact rfl)
            try simp only [Act.put, List.setIfInBounds_toArray, List.set_cons_zero, List.set_cons_succ]
            refine wpAnyT_take (i := 3) (oi := ?op3) (v := ?vp3) ?ap3 (by kernel_rfl) (by kernel_rfl) (by kernel_rfl) (by kernel_rfl) (fun _ _ _ h => h) ?bp3 hHeld ?cp3
            case ap3 => (simp only [List.getElem?_toArray, List.getElem?_cons_succ, List.getElem?_cons_zero]; exact rfl)
            case bp3 => (refine Or.inl ⟨by rfl, ?_⟩; intro w hSw; (try dsimp only at hSw); go_simp; try exact rfl)
            try simp only [Act.put, List.setIfInBounds_toArray, List.set_cons_zero, List.set_cons_succ]
            refine wpAnyT_take (i := 4) (oi := ?op4) (v := ?vp4) ?ap4 (by kernel_rfl) (by kernel_rfl) (by kernel_rfl) (by kernel_rfl) (fun _ _ _ h => h) ?bp4 hHeld ?cp4
            case ap4 => (simp only [List.getElem?_toArray, List.getElem?_cons_succ, List.getElem?_cons_zero]; exact rfl)
            case bp4 => (refine Or.inl ⟨by rfl, ?_⟩; intro w hSw; (try dsimp only at hSw); go_simp; try exact rfl)
            try simp only [Act.put, List.setIfInBounds_toArray, List.set_cons_zero, List.set_cons_succ]
            refine wpAnyT_one (i := 5) (o := ?op5) (by kernel_rfl) ?ap5 (by decide) (fun K hK => ?bp5)
            case ap5 => (simp only [List.getElem?_toArray, List.getElem?_cons_succ, List.getElem?_cons_zero]; exact rfl)
            go_simp
            refine (HFu1.out _).mono ?_
            rintro e wn ⟨rfl, hbn⟩
            have Hen := Lib.hid (show Below W1.heap.size W1 wn from (Below.refl _ _).drew.trans hbn)
            refine hK.out _ _ ?_ (fun hHeld2 => ?_)
            · exact ⟨(HBa.out.under Hen.out).cell 1, (HBa.out.under Hen.out).cell 3⟩
            clear hK K hHeld
            have hHeld := hHeld2
            clear hHeld2
            try simp only [Act.put, List.setIfInBounds_toArray, List.set_cons_zero, List.set_cons_succ]
            refine wpAnyT_one (i := 6) (o := ?op6) (by kernel_rfl) ?ap6 (by decide) (fun K hK => ?bp6)
            case ap6 => (simp only [List.getElem?_toArray, List.getElem?_cons_succ, List.getElem?_cons_zero]; exact rfl)
            go_simp
            refine (HWr.out _ Hen.out).mono ?_
            rintro e wm ⟨rfl, F', pv', hdm, htm, hFm⟩
            have Hdm := Lib.hid hdm
            have Hmid := Lib.hid (HMid.out _ _ F' pv' Hen.out hdm htm hFm)
            clear hdm htm hFm
            refine hK.out _ _ ?_ (fun hHeld2 => ?_)
            · exact ⟨Hmid.out.2.2.1.cell 1, Hmid.out.2.2.1.cell 3⟩
            clear hK K hHeld
            have hHeld := hHeld2
            clear hHeld2
            try simp only [Act.put, List.setIfInBounds_toArray, List.set_cons_zero, List.set_cons_succ]
            refine wpAnyT_take (i := 7) (oi := ?op7) (v := ?vp7) ?ap7 (by kernel_rfl) (by kernel_rfl) (by kernel_rfl) (by kernel_rfl) (fun _ _ _ h => h) ?bp7 hHeld ?cp7
            case ap7 => (simp only [List.getElem?_toArray, List.getElem?_cons_succ, List.getElem?_cons_zero]; exact rfl)
            case bp7 => (refine Or.inl ⟨by rfl, ?_⟩; intro w hSw; (try dsimp only at hSw); go_simp; try exact rfl)
            try simp only [Act.put, List.setIfInBounds_toArray, List.set_cons_zero, List.set_cons_succ]
            refine wpAnyT_done (by kernel_rfl) ?_ _
            clear hHeld
            refine NoPanic.normal ?_
            obtain ⟨⟨_, m1, _, m3, _, _⟩, _⟩ := Box.six Hmid.out.2.2.1
            have mk := (HCell.out wm F' Hmid.out.2.1).1
            clear a1 a3
            go_wp2_with fail
            refine wp_region_noPanic ?_
            refine wp_region_T (t := 14) (S := (fun w' => w'.cell? ⟨gA, 1, none⟩ = some (.int .i64 (k : Int)) ∧ w'.cell? ⟨gA, 3, none⟩ = some (.string x3) ∧ w'.cell? ⟨gw, k, none⟩ = some (.slice Ak nk ck))) (by kernel_rfl) ⟨m1, m3, mk⟩ (fun hHeld => ?_)
            refine wpAnyT_take (i := 0) (oi := ?oq0) (v := ?vq0) ?aq0 (by kernel_rfl) (by kernel_rfl) (by kernel_rfl) (by kernel_rfl) (fun _ _ _ h => h) ?bq0 hHeld ?cq0
            case aq0 => (simp only [List.getElem?_toArray, List.getElem?_cons_zero]; exact rfl)
            case bq0 => (refine Or.inl ⟨by rfl, ?_⟩; intro w hSw; (try dsimp only at hSw); go_simp; try exact rfl)
            try simp only [Act.put, List.setIfInBounds_toArray, List.set_cons_zero, List.set_cons_succ]
            refine wpAnyT_take (i := 1) (oi := ?oq1) (v := ?vq1) ?aq1 (by kernel_rfl) (by kernel_rfl) (by kernel_rfl) (by kernel_rfl) (fun _ _ _ h => h) ?bq1 hHeld ?cq1
            case aq1 => (simp only [List.getElem?_toArray, List.getElem?_cons_succ, List.getElem?_cons_zero]; exact rfl)
            case bq1 => (refine Or.inl ⟨by rfl, ?_⟩; intro w hSw; (try dsimp only at hSw); go_simp; try exact rfl)
            try simp only [Act.put, List.setIfInBounds_toArray, List.set_cons_zero, List.set_cons_succ]
            refine wpAnyT_take (i := 2) (oi := ?oq2) (v := ?vq2) ?aq2 (by kernel_rfl) (by kernel_rfl) (by kernel_rfl) (by kernel_rfl) (fun _ _ _ h => h) ?bq2 hHeld ?cq2
            case aq2 => (simp only [List.getElem?_toArray, List.getElem?_cons_succ, List.getElem?_cons_zero]; exact rfl)
            case bq2 => (refine Or.inl ⟨by rfl, ?_⟩; intro w hSw; (try dsimp only at hSw); go_simp; try exact rfl)
            try simp only [Act.put, List.setIfInBounds_toArray, List.set_cons_zero, List.set_cons_succ]
            refine wpAnyT_take (i := 3) (oi := ?oq3) (v := ?vq3) ?aq3 (by kernel_rfl) (by kernel_rfl) (by kernel_rfl) (by kernel_rfl) (fun _ _ _ h => h) ?bq3 hHeld ?cq3
            case aq3 => (simp only [List.getElem?_toArray, List.getElem?_cons_succ, List.getElem?_cons_zero]; exact rfl)
            case bq3 => (refine Or.inl ⟨by rfl, ?_⟩; intro w hSw; (try dsimp only at hSw); go_simp; try exact rfl)
            try simp only [Act.put, List.setIfInBounds_toArray, List.set_cons_zero, List.set_cons_succ]
            refine wpAnyT_take (i := 4) (oi := ?oq4) (v := ?vq4) ?aq4 (by kernel_rfl) (by kernel_rfl) (by kernel_rfl) (by kernel_rfl) (fun _ _ _ h => h) ?bq4 hHeld ?cq4
            case aq4 => (simp only [List.getElem?_toArray, List.getElem?_cons_succ, List.getElem?_cons_zero]; exact rfl)
            case bq4 => (refine Or.inl ⟨by rfl, ?_⟩; intro w hSw; (try dsimp only at hSw); go_simp; try exact rfl)
            try simp only [Act.put, List.setIfInBounds_toArray, List.set_cons_zero, List.set_cons_succ]
            refine wpAnyT_take (i := 5) (oi := ?oq5) (v := ?vq5) ?aq5 (by kernel_rfl) (by kernel_rfl) (by kernel_rfl) (by kernel_rfl) (fun _ _ _ h => h) ?bq5 hHeld ?cq5
            case aq5 => (simp only [List.getElem?_toArray, List.getElem?_cons_succ, List.getElem?_cons_zero]; exact rfl)
            case bq5 => (refine Or.inl ⟨by rfl, ?_⟩; intro w hSw; (try dsimp only at hSw); go_simp; try exact rfl)
            try simp only [Act.put, List.setIfInBounds_toArray, List.set_cons_zero, List.set_cons_succ]
            refine wpAnyT_take (i := 6) (oi := ?oq6) (v := ?vq6) ?aq6 (by kernel_rfl) (by kernel_rfl) (by kernel_rfl) (by kernel_rfl) (fun _ _ _ h => h) ?bq6 hHeld ?cq6
            case aq6 => (simp only [List.getElem?_toArray, List.getElem?_cons_succ, List.getElem?_cons_zero]; exact rfl)
            case bq6 => (refine Or.inl ⟨by rfl, ?_⟩; intro w hSw; (try dsimp only at hSw); go_simp; try exact rfl)
            try simp only [Act.put, List.setIfInBounds_toArray, List.set_cons_zero, List.set_cons_succ]
            refine wpAnyT_take (i := 7) (oi := ?oq7) (v := ?vq7) ?aq7 (by kernel_rfl) (by kernel_rfl) (by kernel_rfl) (by kernel_rfl) (fun _ _ _ h => h) ?bq7 hHeld ?cq7
            case aq7 => (simp only [List.getElem?_toArray, List.getElem?_cons_succ, List.getElem?_cons_zero]; exact rfl)
            case bq7 => (refine Or.inl ⟨by rfl, ?_⟩; intro w hSw; (try dsimp only at hSw); go_simp; try exact rfl)
            try simp only [Act.put, List.setIfInBounds_toArray, List.set_cons_zero, List.set_cons_succ]
            refine wpAnyT_take (i := 8) (oi := ?oq8) (v := ?vq8) ?aq8 (by kernel_rfl) (by kernel_rfl) (by kernel_rfl) (by kernel_rfl) (fun _ _ _ h => h) ?bq8 hHeld ?cq8
            case aq8 => (simp only [List.getElem?_toArray, List.getElem?_cons_succ, List.getElem?_cons_zero]; exact rfl)
            case bq8 => (refine Or.inl ⟨by rfl, ?_⟩; intro w hSw; (try dsimp only at hSw); go_simp; try exact rfl)
            try simp only [Act.put, List.setIfInBounds_toArray, List.set_cons_zero, List.set_cons_succ]
            refine wpAnyT_take (i := 9) (oi := ?oq9) (v := ?vq9) ?aq9 (by kernel_rfl) (by kernel_rfl) (by kernel_rfl) (by kernel_rfl) (fun _ _ _ h => h) ?bq9 hHeld ?cq9
            case aq9 => (simp only [List.getElem?_toArray, List.getElem?_cons_succ, List.getElem?_cons_zero]; exact rfl)
            case bq9 => (refine Or.inl ⟨by rfl, ?_⟩; intro w hSw; (try dsimp only at hSw); go_simp; try exact rfl)
            try simp only [Act.put, List.setIfInBounds_toArray, List.set_cons_zero, List.set_cons_succ]
            refine wpAnyT_one (i := 10) (o := ?oq10) (by kernel_rfl) ?aq10 (by decide) (fun K hK => ?bq10)
            case aq10 => (simp only [List.getElem?_toArray, List.getElem?_cons_succ, List.getElem?_cons_zero]; exact rfl)
            go_simp
            refine (HFu1.out _).mono ?_
            rintro e wq ⟨rfl, hbq⟩
            have Hbq := Lib.hid (show Below wm.heap.size wm wq from (Below.refl _ _).drew.trans hbq)
            have HBq := Lib.hid (Hmid.out.2.2.1.under Hbq.out)
            have HWq := Lib.hid (Hmid.out.2.1.below Hbq.out)
            have HCq := Lib.hid (HCell.out wq F' HWq.out)
            have Hzq := Lib.hid (show gw + 1 ≤ wq.heap.size from HWq.out.box.lt)
            refine hK.out _ _ ?_ (fun hHeld2 => ?_)
            · exact ⟨HBq.out.cell 1, HBq.out.cell 3, HCq.out.1⟩
            clear hK K hHeld
            have hHeld := hHeld2
            clear hHeld2
            try simp only [Act.put, List.setIfInBounds_toArray, List.set_cons_zero, List.set_cons_succ]
            refine wpAnyT_one (i := 11) (o := ?oq11) (by kernel_rfl) ?aq11 (by decide) (fun K hK => ?bq11)
            case aq11 => (simp only [List.getElem?_toArray, List.getElem?_cons_succ, List.getElem?_cons_zero]; exact rfl)
            go_simp
            refine hK.out _ _ ?_ (fun hHeld2 => ?_)
            · exact ⟨(HBq.out.alloc _).cell 1, (HBq.out.alloc _).cell 3, Lib.cell?_alloc_some _ HCq.out.1⟩
            clear hK K hHeld
            have hHeld := hHeld2
            clear hHeld2
            try simp only [Act.put, List.setIfInBounds_toArray, List.set_cons_zero, List.set_cons_succ]
            refine wpAnyT_one (i := 12) (o := ?oq12) (by kernel_rfl) ?aq12 (by decide) (fun K hK => ?bq12)
            case aq12 => (simp only [List.getElem?_toArray, List.getElem?_cons_succ, List.getElem?_cons_zero]; exact rfl)
            refine step_append1 rfl (.tmp 89) (.tmp 93) 35 rfl (gw + 1) 9 i0 (.string ByteArray.empty) 16 Try.underlying35 ti0 tz0 tz1 tz2 rfl wq (.string y3) rfl (.slice Ak nk ck) nk xs rfl HCq.out.2 rfl (by omega) (by decide) Hzq.out ?_
            intro v' w8 hown8 happ8
            obtain ⟨A6, c6, hf6⟩ := own_form hown8
            subst hf6
            have HB8 := Lib.hid (HBq.out.grown happ8.grown (fun e => Hag.out k hkv (by rw [Hve.out]; exact e.symm)))
            have HG8 := Lib.hid (App.box happ8 HWq.out.box HCq.out.2 (by omega))
            have HI8 := Lib.hid (HApp.out F' pv' _ wq w8 (Hdm.out.below Hbq.out) (Hmid.out.1.below Hbq.out (Nat.le_of_lt Hmid.out.2.1.box.lt)) HWq.out (Hmid.out.2.2.2.trans (Hbq.out.mono Hmid.out.2.2.2.size)) happ8 hown8)
            clear hown8 happ8
            have x3' : w8.frozen? ⟨gw, k, none⟩ = false := HG8.out.free k
            refine hK.out _ _ ?_ (fun hHeld2 => ?_)
            · exact ⟨HB8.out.cell 1, HB8.out.cell 3, (HG8.out.cell k).trans ((HWq.out.box.cell k).symm.trans HCq.out.1)⟩
            clear hK K hHeld
            have hHeld := hHeld2
            clear hHeld2
            try simp only [Act.put, List.setIfInBounds_toArray, List.set_cons_zero, List.set_cons_succ]
            refine wpAnyT_take (i := 13) (oi := ?oq13) (v := ?vq13) ?aq13 (by kernel_rfl) (by kernel_rfl) (by kernel_rfl) (by kernel_rfl) (fun _ _ _ h => h) ?bq13 hHeld ?cq13
            case aq13 => (simp only [List.getElem?_toArray, List.getElem?_cons_succ, List.getElem?_cons_zero]; exact rfl)
            case bq13 => (refine Or.inl ⟨by rfl, ?_⟩; intro w hSw; (try dsimp only at hSw); go_simp; try exact rfl)
            try simp only [Act.put, List.setIfInBounds_toArray, List.set_cons_zero, List.set_cons_succ]
            refine wpAnyT_last (o := ?oq14) (by kernel_rfl) ?aq14 (by kernel_rfl) (fun K hK => ?bq14)
            case aq14 => (simp only [List.getElem?_toArray, List.getElem?_cons_succ, List.getElem?_cons_zero]; exact rfl)
            obtain ⟨x1', x2', x4'⟩ := hHeld
            have hHeld := x1'
            go_simp
            refine hK.out _ _ ?_
            clear hK K hHeld
            refine NoPanic.normal ?_
            try simp only [Act.put, List.setIfInBounds_toArray, List.set_cons_zero, List.set_cons_succ]
            go_wp2_with fail
            exact ⟨⟨j + 1, by omega, rfl, HI8.out⟩, by simp [intOf]; omega⟩
            -- end of region 20
          · rw [writeR_no hrd] at HWr
            dsimp only at HWr
            have HNo := Lib.hid (fun (W w' : World) (F' : Nat → Prop) (pv' : Value) (hW : Below W1.heap.size W1 W) (hd : DevAt w' w2.heap.size F' d gs 24 pv' s) (ht : Turn F W w') (hF : ∀ k, F' k → F k ∨ W.heap.size ≤ k) => Inv2.no (w := w) hd ht hF Hs.out.1 Hs.out.2.1 Hs.out.2.2.1 Hs.out.2.2.2.1 Hs.out.2.2.2.2 (Hnt1.out.below hW (Nat.le_of_lt Hwt1.out.box.lt)) (Hwt1.out.below hW) (HT.out W w' hW ht))
            have hc0 : (readyD s x1 == 0) = false := by rw [beq_eq_false_iff_ne]; exact hrd
            clear hrd
            generalize readyD s x1 = r1 at *
            generalize full x3 = y3 at *
            go_wp2_with fail
            go_region_law (first
              | (go_simp; go_at_call 11; refine (HFu1.out _).mono ?_; rintro e wn ⟨rfl, hbn⟩; have q1 : wn.cell? ⟨gA, 1, none⟩ = some (.int .i64 x1) := (HBa.out.drew.under hbn).cell 1; have Hen := Lib.hid (show Below W1.heap.size W1 wn from (Below.refl _ _).drew.trans hbn); clear hbn)
              | (go_simp; go_at_call 10; refine (HWr.out _ (by first | exact Hen.out | exact Hen.out.drew)).mono ?_; rintro e wm ⟨rfl, F', pv', hdm, htm, hFm⟩; have HNm := Lib.hid (HNo.out _ _ F' pv' (by first | exact Hen.out | exact Hen.out.drew) hdm htm hFm); clear hdm htm hFm))
            all_goals
              go_wp2_with fail
              exact ⟨⟨j + 1, by omega, rfl, HNm.out⟩, by simp [intOf]; omega⟩
        · have hje : n2 = j := by omega
          subst hje
          obtain ⟨s, F, pv, vs, hdv, h1, h2, h3, h4, h5, hnt, hwt, hbe⟩ := hinv
          have HCu := Lib.hid (cut_q hdv A3 keep c3 torn bytes (by have := Hk.out; unfold maxLen; omega) ((Hr3.out.below hbe).more Hw2.out))
          have HMid := Lib.hid (show ∀ w' F', Turn F wr w' → (∀ k, F' k → F k ∨ wr.heap.size ≤ k) → Wnt w' gw F' gq b1 e1 (.slice B2 p2 e2) sec ∧ Writ w' gw F' vs s.puts ∧ Below w.heap.size w w' from fun w' F' ht hF => ⟨hnt.turn ht (Nat.le_of_lt hwt.box.lt) hF, hwt.turn ht hF, hbe.trans (ht.toBelow (fun k hk => Nat.le_trans Hw2.out (hdv.own k hk).1) hbe.size)⟩)
          have Hcs := Lib.hid (show (cutD s keep torn bytes).sec = cutTo keep torn (cutBytes bytes) sec s.puts s.puts.length by rw [← h1]; rfl)
          have Hcl := Lib.hid (show (cutTo keep torn (cutBytes bytes) sec s.puts s.puts.length).length = 24 by rw [cutTo_len]; exact Hsl.out)
          have hp5 := h5
          clear hdv h1 h2 h3 h4 h5 hnt hwt hbe Hr2 Hz2 Hn2
          generalize cutD s keep torn bytes = s2 at *
          go_wp2_with fail
          refine HCu.out.mono ?_
          rintro e wc ⟨rfl, F', pv', hdc, htc, hFc⟩
          have HSz := Lib.hid (seize_yes hdc)
          have Hmid := Lib.hid (HMid.out wc F' htc hFc)
          clear hdc htc hFc HMid HCu
          go_wp2_with fail
          refine HSz.out.mono ?_
          rintro e wz ⟨v1, v2, rfl, o1, o2, hbz⟩
          rw [Hcs.out, Hcl.out] at o1
          have Hkn := Lib.hid (cut_known keep torn (cutBytes bytes) sec s.puts)
          generalize cutTo keep torn (cutBytes bytes) sec s.puts s.puts.length = sec2 at *
          obtain ⟨B3, e3, rfl⟩ := own_form2 o1
          obtain ⟨B4, e4, rfl⟩ := own_form2 o2
          obtain ⟨b3, rfl⟩ : ∃ b3, B3 = some ⟨b3, 0, none⟩ := by
            rcases o1.2 with ⟨_, h⟩ | ⟨g, cap, cur, h, _⟩
            · omega
            · injection h with h _ _
              exact ⟨g, h⟩
          have HC3 := Lib.hid (show ∀ i (h : i < sec2.length), wz.cell? ⟨b3, i, none⟩ = some (.string sec2[i]) from fun i h => by
            have := o1.cells (g := b3) rfl i (.string sec2[i]) (by rw [List.getElem?_map, List.getElem?_eq_getElem h]; rfl)
            rw [add_at, Nat.zero_add] at this
            exact this)
          have Hnz := Lib.hid (Hmid.out.1.below hbz (Nat.le_of_lt Hmid.out.2.1.box.lt))
          have Hwz := Lib.hid (Hmid.out.2.1.below hbz)
          have Hbz := Lib.hid (Hmid.out.2.2.trans (hbz.mono Hmid.out.2.2.size))
          obtain ⟨n0, _⟩ := Box.two Hnz.out.box
          clear o1 o2 hbz HSz Hmid Hcs
          generalize s2.puts.length = p4 at *
          have hfld : (Instr.field 38 (.agg #[.slice (some ⟨b3, 0, none⟩) 24 e3, .slice B4 p4 e4]) 0).run Try.prog wz = .ok (.slice (some ⟨b3, 0, none⟩) 24 e3) wz := by kernel_rfl
          go_wp2_with fail
          go_loop [19, 106] (fun v19 v106 => ∃ k m : Nat, k ≤ 24 ∧ v106 = .int .i64 (k : Nat) ∧ v19 = .int .i64 (m : Nat) ∧ Mix (tornAt s.puts torn) k m) (fun _ v106 => 24 - (intOf v106).toNat)
          case atStart => exact ⟨0, 0, Nat.zero_le _, rfl, rfl, .inl rfl⟩
          case round =>
            obtain ⟨k, m, hk, rfl, rfl, hmix⟩ := hrel
            have hm1 := hmix.le
            have Hmix := Lib.hid hmix
            clear hmix
            by_cases hk24 : k < 24
            · have hs1 : k < sec.length := by rw [Hsl.out]; exact hk24
              have hs2 : k < sec2.length := by rw [Hcl.out]; exact hk24
              have c3' := HC3.out k hs2
              have c4' := Hnz.out.cell k hs1
              obtain ⟨hkv, Ak, ck, hve, c5', hown⟩ := Hwz.out.cell k hk24
              clear hve
              have Hrow := Lib.hid (Row.of_own hown)
              have hln := atP_len s.puts k
              have Hke := Lib.hid (show knownTo (sec2[k]'hs2) (sec[k]'hs1) (atP s.puts k) (atP s.puts k).length = false → tornAt s.puts torn = some k ∧ (atP s.puts k).length ≠ 0 from fun h => by
                have ht := Hkn.out k hs1 hs2 h
                exact ⟨ht, fun e => tornAt_mem ht (List.length_eq_zero_iff.1 e)⟩)
              have Hk0 := Lib.hid (knownTo_zero (sec2[k]'hs2) (sec[k]'hs1) (atP s.puts k))
              have hk0 : (0 : Int) ≤ (k : Int) := by omega
              have hk1 : (k : Int) < 24 := by omega
              clear hown
              generalize (sec2[k]'hs2) = x at *
              generalize (sec[k]'hs1) = y at *
              generalize hL : atP s.puts k = L at *
              generalize hNk : L.length = nk at *
              have HNk := Lib.hid hNk
              clear hL hNk
              have hnk : nk ≤ 1000000 := by omega
              go_wp2_with fail
              go_loop [22, 123] (fun v22 v123 => ∃ q : Nat, q ≤ nk ∧ v123 = .int .i64 (q : Nat) ∧ v22 = .bool (knownTo x y L q)) (fun _ v123 => nk - (intOf v123).toNat)
              case atStart => exact ⟨0, Nat.zero_le _, rfl, by rw [Hk0.out]⟩
              case round =>
                obtain ⟨q, hq, rfl, rfl⟩ := hrel
                by_cases hqn : q < nk
                · have hql : q < L.length := by rw [HNk.out]; exact hqn
                  obtain ⟨bl, off, rfl, _, c6'⟩ := Row.at_ Hrow.out (k := q) (by rw [List.length_map]; exact hql)
                  rw [List.getElem_map] at c6'
                  have HkS1 := Lib.hid (knownTo_succ x y L q hql)
                  generalize (L[q]'hql) = z at *
                  have hq0 : (0 : Int) ≤ (q : Int) := by omega
                  have hq1 : (q : Int) < (nk : Int) := by omega
                  generalize knownTo x y L q = kb at *
                  generalize hkn : knownTo x y L (q + 1) = kn at *
                  have Hkn' := Lib.hid hkn
                  clear hkn
                  rcases kb with _ | _
                  · rcases hxz : (x.toList == z.toList) with _ | _
                    ·
                      have HkS2 := Lib.hid (show kn = false by have := HkS1.out; rw [hxz] at this; exact this)
                      go_wp2_with fail
                      go_round
                      case rel => exact ⟨q + 1, by omega, by go_num, by rw [Hkn'.out, HkS2.out]⟩
                      case measure => simp [intOf]; omega
                    ·
                      have HkS2 := Lib.hid (show kn = true by have := HkS1.out; rw [hxz] at this; exact this)
                      go_wp2_with fail
                      go_round
                      case rel => exact ⟨q + 1, by omega, by go_num, by rw [Hkn'.out, HkS2.out]⟩
                      case measure => simp [intOf]; omega
                  ·
                    have HkS2 := Lib.hid (show kn = true by have := HkS1.out; rw [Bool.true_or] at this; exact this)
                    go_wp2_with fail
                    go_round
                    case rel => exact ⟨q + 1, by omega, by go_num, by rw [Hkn'.out, HkS2.out]⟩
                    case measure => simp [intOf]; omega
                · have hqe : nk = q := by omega
                  subst hqe
                  generalize knownTo x y L nk = kb at *
                  rcases kb with _ | _
                  · obtain ⟨ht, hn0⟩ := Hke.out rfl
                    have hm0 := Hmix.out.zero ht
                    subst hm0
                    have hz : ((nk : Int) == 0) = false := by rw [beq_eq_false_iff_ne]; omega
                    have Hnx := Lib.hid (Mix.one ht)
                    clear ht hn0
                    go_wp2_with fail
                    go_round
                    case rel => exact ⟨k + 1, 1, by omega, by go_num, by go_num, Hnx.out⟩
                    case measure => simp [intOf]; omega
                  · have Hnx := Lib.hid Hmix.out.next
                    go_wp2_with fail
                    go_round
                    case rel => exact ⟨k + 1, m, by omega, by go_num, rfl, Hnx.out⟩
                    case measure => simp [intOf]; omega
            · have hke : k = 24 := by omega
              subst hke
              have hd1 : decide ((m : Int) ≤ 1) = true := by simp; omega
              go_wp2_with fail
              refine (HW.out _).mono ?_
              rintro e wy ⟨rfl, hby⟩
              go_wp2_with fail
              exact HQ.out _ (Hbz.out.trans (hby.mono Hbz.out.size))
end
end Go.Proofs.Ytbjjfbojcokmgaa.deviceSafe
