/- Layer 9, fifth part: the version of a sector: slot.Take. -/
import Derived.Test.YtpgmbpjjefecdaaDoorSl4
namespace Go.Proofs.YtpgmbpjjefecdaaDoor.Sl
open Go.RowKit Base Crc Txt Plain Pg
set_option linter.unusedVariables false

def mkR (g : Nat) (x : Nat × Nat × Nat × Nat × Nat) : Rt := ⟨(g : Nat), (x.1 : Nat), (x.2.1 : Nat), (x.2.2.1 : Nat), (x.2.2.2.1 : Nat), (x.2.2.2.2 : Nat)⟩
/-- the form of a sector that has a record -/
def formR (l : List UInt8) : Prop := l.length = 128 ∧ isClosed (l.take 122) = true ∧ (front (l.take 122)).getD 0 0 = 86 ∧ ((front (l.take 122)).drop 1).take 6 = l.drop 122
open Classical in
/-- the version of a sector -/
noncomputable def stake (l : List UInt8) : Option Rt := if formR l then match Tk.body? ((front (l.take 122)).drop 7) with
    | some x => if Ok (mkR (Nm.val (l.drop 122)) x) then some (mkR (Nm.val (l.drop 122)) x) else none
    | none => none
  else none
theorem stake_form {l : List UInt8} (h : ¬ formR l) : stake l = none := by unfold stake; rw [if_neg h]
theorem stake_body {l : List UInt8} (h : formR l) (hb : Tk.body? ((front (l.take 122)).drop 7) = none) : stake l = none := by unfold stake; rw [if_pos h, hb]
theorem stake_yes {l : List UInt8} {x : Nat × Nat × Nat × Nat × Nat} (h : formR l) (hb : Tk.body? ((front (l.take 122)).drop 7) = some x) (ho : Ok (mkR (Nm.val (l.drop 122)) x)) : stake l = some (mkR (Nm.val (l.drop 122)) x) := by
  unfold stake
  rw [if_pos h, hb]
  exact if_pos ho
theorem stake_no {l : List UInt8} {x : Nat × Nat × Nat × Nat × Nat} (h : formR l) (hb : Tk.body? ((front (l.take 122)).drop 7) = some x) (ho : ¬ Ok (mkR (Nm.val (l.drop 122)) x)) : stake l = none := by
  unfold stake
  rw [if_pos h, hb]
  exact if_neg ho

def tnone : Value := .tuple #[.agg (rtV zeroR), .int .i64 3]
def TakeOut (l : List UInt8) (w : World) (e : Ending) (w' : World) : Prop :=
  Below w.heap.size w w' ∧ ((∃ r, stake l = some r ∧ e = .returned (.tuple #[.agg (rtV r), .int .i64 0])) ∨ (stake l = none ∧ e = .returned tnone))

theorem take_size (s : ByteArray) (w : World) (hm : s.size ≤ maxLen) (h : s.size ≠ 128) :
    Calls Tryd.prog 33 #[.string s] w fun e w' => e = .returned tnone ∧ Below w.heap.size w w' := by
  unfold maxLen at hm
  have hn : ((s.size : Int) != 128) = true := by rw [bne_iff_ne]; omega
  go_enter Tryd.func33, Tryd.ntmps33
  go_wp2_with fail
  exact bodyPost_ret (v := tnone) (by simp [results, Tryd.results33, go_sem, tnone, rtV, zeroR]) rfl ⟨rfl, (by repeat (first | exact Below.refl _ _ | assumption | refine Below.drew ?_ | (refine Below.alloc ?_ (by simp <;> omega) _) | (refine Below.setCell ?_ (by simp <;> omega) _)))⟩

set_option maxRecDepth 100000 in
set_option maxHeartbeats 2000000 in
theorem take_sector (l : List UInt8) (w : World) (hl : l.length = 128) :
    Calls Tryd.prog 33 #[.string (str l)] w (TakeOut l w) := by
  have hmf : ∀ (fn : Fn) (first cap : Array Value) (w : World), (Instr.makeFunc fn first cap).run Tryd.prog w = .ok (.func fn first cap) w := fun _ _ _ _ => rfl
  have hne : (((str l).size : Int) != 128) = false := by rw [bne_eq_false_iff_eq]; show ((l.length : Nat) : Int) = 128; omega
  have hs8 : (str l).size = 128 := hl
  have h1 : ∀ W, (Instr.slice 9 (.string (str l)) none (some (.int .i64 122)) none).run Tryd.prog W = .ok (.string (str (l.take 122))) W := cut_upto l 122 122 rfl (by omega)
  have h2 : ∀ W, (Instr.slice 9 (.string (str l)) (some (.int .i64 122)) none none).run Tryd.prog W = .ok (.string (str (l.drop 122))) W := cut_from l 122 122 rfl (by omega)
  have HO := Lib.hid (fun w => open_any (str (l.take 122)) w (by rw [str_size, List.length_take]; omega))
  rw [str_list] at HO
  have HQ := Lib.hid (show ∀ e w', Below w.heap.size w w' → ((∃ r, stake l = some r ∧ e = .returned (.tuple #[.agg (rtV r), .int .i64 0])) ∨ (stake l = none ∧ e = .returned tnone)) → TakeOut l w e w' from fun e w' a b => ⟨a, b⟩)
  generalize hQ : TakeOut l w = Q at *
  have hfl : (front (l.take 122)).length = 118 := by unfold front; rw [List.length_take, List.length_take]; omega
  by_cases hc : isClosed (l.take 122) = true
  · have hop : opened (l.take 122) = str (front (l.take 122)) := by unfold opened; rw [if_pos hc]
    rw [hop, hc] at HO
    have Hc := Lib.hid hc
    have HI0 : ∀ W, (Instr.index 9 (.string (str (front (l.take 122)))) (.int .i64 0)).run Tryd.prog W = .ok (.int .u8 (((front (l.take 122)).getD 0 0).toNat : Nat)) W := index_nb _ 0 (by omega)
    have HS1 : ∀ W, (Instr.slice 9 (.string (str (front (l.take 122)))) (some (.int .i64 1)) (some (.int .i64 7)) none).run Tryd.prog W = .ok (.string (str (((front (l.take 122)).drop 1).take 6))) W := cut_mid _ 1 7 1 7 rfl rfl (by omega) (by omega)
    have HS7 : ∀ W, (Instr.slice 9 (.string (str (front (l.take 122)))) (some (.int .i64 7)) none none).run Tryd.prog W = .ok (.string (str ((front (l.take 122)).drop 7))) W := cut_from _ 7 7 rfl (by omega)
    have hb0 := ((front (l.take 122)).getD 0 0).toNat_lt
    have Hform := Lib.hid (show (front (l.take 122)).getD 0 0 = 86 → ((front (l.take 122)).drop 1).take 6 = l.drop 122 → formR l from fun a b => ⟨hl, hc, a, b⟩)
    have Hnf := Lib.hid (show formR l → (front (l.take 122)).getD 0 0 = 86 ∧ ((front (l.take 122)).drop 1).take 6 = l.drop 122 from fun h => ⟨h.2.2.1, h.2.2.2⟩)
    have HA := Lib.hid (fun gx w hx => Tk.all_any gx ((front (l.take 122)).drop 7) w (by rw [List.length_drop]; omega) hx)
    have HN := Lib.hid (fun w => number_any (l.drop 122) w (by rw [List.length_drop]; omega))
    clear hc hop hQ
    generalize hX : (front (l.take 122)).getD 0 0 = x at *
    by_cases hx : x = 86
    · have hxI : ((x.toNat : Int) != 86) = false := by rw [hx]; rfl
      by_cases heq : ((front (l.take 122)).drop 1).take 6 = l.drop 122
      · have hform := Hform.out hx heq
        have HF := Lib.hid hform
        have hcmp : ((str (((front (l.take 122)).drop 1).take 6)).toList == (str (l.drop 122)).toList) = true := by rw [heq]; simp
        have Hsb := Lib.hid (fun hb => stake_body hform hb)
        have Hsy := Lib.hid (fun x hb ho => stake_yes (x := x) hform hb ho)
        have Hsn := Lib.hid (fun x hb ho => stake_no (x := x) hform hb ho)
        clear hx heq hform hX
        generalize str (((front (l.take 122)).drop 1).take 6) = S1 at *
        generalize str (l.drop 122) = S2 at *
        generalize str (front (l.take 122)) = B at *
        generalize str (l.take 122) = T at *
        generalize str l = S at *
        generalize x.toNat = xx at *
        go_enter Tryd.func33, Tryd.ntmps33
        go_wp2_with fail
        refine (HO.out _).mono ?_
        rintro e w1 ⟨rfl, hb1⟩
        have hb01 := Lib.hid (show Below w.heap.size w w1 from ((Below.refl _ _).alloc (Nat.le_refl _) _).trans (hb1.mono (by simp)))
        have hB1 := Lib.hid ((Box.new w 47 #[.int .i64 0, .int .i64 0, .int .i64 0, .int .i64 0, .int .i64 0, .int .i64 0]).under hb1)
        clear hb1
        go_wp2_with fail
        go_quiet (fail)
        go_wp2_with fail
        have hX3 := Lib.hid (show Box ((w1.drewN nq).alloc (.cells #[.int .i64 0, .int .i64 0, .int .i64 0, .int .i64 0, .int .i64 0, .int .i64 0] 47)) w1.heap.size 47 (Tk.rootV (0, 0, 0, 0, 0)) from Box.new (w1.drewN nq) _ _)
        have hR3 := Lib.hid ((hB1.out.drewN nq).alloc (.cells #[.int .i64 0, .int .i64 0, .int .i64 0, .int .i64 0, .int .i64 0, .int .i64 0] 47))
        have hb03 := Lib.hid (show Below w.heap.size w ((w1.drewN nq).alloc (.cells #[.int .i64 0, .int .i64 0, .int .i64 0, .int .i64 0, .int .i64 0, .int .i64 0] 47)) from (below_drewN hb01.out nq).alloc hb01.out.size _)
        have hlt1 : w.heap.size < w1.heap.size := hB1.out.lt
        have hlt3 := Lib.hid (show w1.heap.size < ((w1.drewN nq).alloc (.cells #[.int .i64 0, .int .i64 0, .int .i64 0, .int .i64 0, .int .i64 0, .int .i64 0] 47)).heap.size from hX3.out.lt)
        generalize (w1.drewN nq).alloc (.cells #[.int .i64 0, .int .i64 0, .int .i64 0, .int .i64 0, .int .i64 0, .int .i64 0] 47) = w3 at *
        generalize w1.heap.size = gx at *
        refine (HA.out gx w3 hX3.out).mono ?_
        rintro e w4 ⟨ht4, hcase⟩
        have hR4 := Lib.hid (hR3.out.turn ht4 (by omega))
        have hb04 := Lib.hid (show Below w.heap.size w w4 from hb03.out.trans (ht4.toBelow (fun k hk => by omega) hb03.out.size))
        clear ht4
        rcases hcase with ⟨x5, hb, rfl, hx4⟩ | ⟨hb, y, x5, hy, rfl, hx4⟩
        · obtain ⟨⟨c0, c1, c2, c3, c4, c5⟩, ⟨f0, f1, f2, f3, f4, f5⟩⟩ := Tk.Box.six hx4
          have hX5 := Lib.hid (show Box (w4.setCell ⟨gx, 0, none⟩ (.int .i64 (Nm.val (l.drop 122) : Nat))) gx 47 (rtV (mkR (Nm.val (l.drop 122)) x5)) from hx4.set 0 (.int .i64 (Nm.val (l.drop 122) : Nat)))
          have hR5 := Lib.hid (hR4.out.far (p := ⟨gx, 0, none⟩) (by simp; omega) (.int .i64 (Nm.val (l.drop 122) : Nat)))
          have hb05 := Lib.hid (show Below w.heap.size w (w4.setCell ⟨gx, 0, none⟩ (.int .i64 (Nm.val (l.drop 122) : Nat))) from hb04.out.setCell (by simp; omega) _)
          have HB := Lib.hid hb
          clear hb hx4
          by_cases hok : Ok (mkR (Nm.val (l.drop 122)) x5)
          · have HCk := Lib.hid (fun w => check_yes _ w hok)
            have Hst := Lib.hid (Hsy.out x5 HB.out hok)
            clear hok
            generalize hrr : mkR (Nm.val (l.drop 122)) x5 = rr at *
            clear hrr
            generalize Nm.val (l.drop 122) = gen at *
            go_wp2_with fail
            refine (HN.out _).mono ?_
            rintro e w' ⟨rfl, rfl⟩
            obtain ⟨⟨m0, m1, m2, m3, m4, m5⟩, ⟨n0, n1, n2, n3, n4, n5⟩⟩ := Tk.Box.six hX5.out
            go_wp2_with fail
            refine (HCk.out _).mono ?_
            rintro e w6 ⟨rfl, hb6⟩
            obtain ⟨⟨o0, o1, o2, o3, o4, o5⟩, ⟨p0, p1, p2, p3, p4, p5⟩⟩ := Tk.Box.six (hX5.out.under hb6)
            obtain ⟨⟨k0, k1, k2, k3, k4, k5⟩, ⟨e0, e1, e2, e3, e4, e5⟩⟩ := Tk.Box.six (hR5.out.under hb6)
            have Hb06 := Lib.hid (hb05.out.trans (hb6.mono hb05.out.size))
            clear hb6 m0 m1 m2 m3 m4 m5 n0 n1 n2 n3 n4 n5 c0 c1 c2 c3 c4 c5 f0 f1 f2 f3 f4 f5
            go_wp2_with fail
            refine bodyPost_ret (v := .tuple #[.agg (rtV rr), .int .i64 0]) (by simp [results, Tryd.results33, go_sem, rtV, k0, k1, k2, k3, k4, k5]) rfl (HQ.out _ _ ?_ (.inl ⟨rr, Hst.out, rfl⟩))
            exact (((((Hb06.out.setCell (Nat.le_refl _) _).setCell (Nat.le_refl _) _).setCell (Nat.le_refl _) _).setCell (Nat.le_refl _) _).setCell (Nat.le_refl _) _).setCell (Nat.le_refl _) _
          · have HCk := Lib.hid (fun w => check_no _ w hok)
            have Hst := Lib.hid (Hsn.out x5 HB.out hok)
            clear hok
            generalize hrr : mkR (Nm.val (l.drop 122)) x5 = rr at *
            clear hrr
            generalize Nm.val (l.drop 122) = gen at *
            go_wp2_with fail
            refine (HN.out _).mono ?_
            rintro e w' ⟨rfl, rfl⟩
            obtain ⟨⟨m0, m1, m2, m3, m4, m5⟩, ⟨n0, n1, n2, n3, n4, n5⟩⟩ := Tk.Box.six hX5.out
            go_wp2_with fail
            refine (HCk.out _).mono ?_
            rintro e w6 ⟨rfl, hb6⟩
            obtain ⟨⟨o0, o1, o2, o3, o4, o5⟩, ⟨p0, p1, p2, p3, p4, p5⟩⟩ := Tk.Box.six (hX5.out.under hb6)
            obtain ⟨⟨k0, k1, k2, k3, k4, k5⟩, ⟨e0, e1, e2, e3, e4, e5⟩⟩ := Tk.Box.six (hR5.out.under hb6)
            have Hb06 := Lib.hid (hb05.out.trans (hb6.mono hb05.out.size))
            clear hb6 m0 m1 m2 m3 m4 m5 n0 n1 n2 n3 n4 n5 c0 c1 c2 c3 c4 c5 f0 f1 f2 f3 f4 f5
            go_wp2_with fail
            refine bodyPost_ret (v := tnone) (by simp [results, Tryd.results33, go_sem, tnone, rtV, zeroR, k0, k1, k2, k3, k4, k5]) rfl (HQ.out _ _ ?_ (.inr ⟨Hst.out, rfl⟩))
            exact (((((Hb06.out.setCell (Nat.le_refl _) _).setCell (Nat.le_refl _) _).setCell (Nat.le_refl _) _).setCell (Nat.le_refl _) _).setCell (Nat.le_refl _) _).setCell (Nat.le_refl _) _
        · obtain ⟨⟨c0, c1, c2, c3, c4, c5⟩, ⟨f0, f1, f2, f3, f4, f5⟩⟩ := Tk.Box.six hx4
          have hR5 := hR4.out.far (p := ⟨gx, 0, none⟩) (by simp; omega) (.int .i64 (Nm.val (l.drop 122) : Nat))
          have Hb06 := Lib.hid (show Below w.heap.size w (w4.setCell ⟨gx, 0, none⟩ (.int .i64 (Nm.val (l.drop 122) : Nat))) from hb04.out.setCell (by simp; omega) _)
          obtain ⟨⟨k0, k1, k2, k3, k4, k5⟩, ⟨e0, e1, e2, e3, e4, e5⟩⟩ := Tk.Box.six hR5
          have Hst := Lib.hid (Hsb.out hb)
          have hyn : (y != 0) = true := by simpa using hy
          clear hb hx4 hy hR5
          generalize Nm.val (l.drop 122) = gen at *
          go_wp2_with fail
          refine (HN.out _).mono ?_
          rintro e w' ⟨rfl, rfl⟩
          go_wp2_with fail
          refine bodyPost_ret (v := tnone) (by simp [results, Tryd.results33, go_sem, tnone, rtV, zeroR, k0, k1, k2, k3, k4, k5]) rfl (HQ.out _ _ ?_ (.inr ⟨Hst.out, rfl⟩))
          exact (((((Hb06.out.setCell (Nat.le_refl _) _).setCell (Nat.le_refl _) _).setCell (Nat.le_refl _) _).setCell (Nat.le_refl _) _).setCell (Nat.le_refl _) _).setCell (Nat.le_refl _) _
      · have hcmp : ((str (((front (l.take 122)).drop 1).take 6)).toList == (str (l.drop 122)).toList) = false := by
          rw [ByteArray.toList_eq, ByteArray.toList_eq, str_list, str_list, beq_eq_false_iff_ne]
          exact heq
        have hno := Lib.hid (stake_form (l := l) (fun h => heq (Hnf.out h).2))
        clear hx heq hX
        generalize str (((front (l.take 122)).drop 1).take 6) = S1 at *
        generalize str (l.drop 122) = S2 at *
        generalize str (front (l.take 122)) = B at *
        generalize str (l.take 122) = T at *
        generalize str l = S at *
        generalize x.toNat = xx at *
        go_enter Tryd.func33, Tryd.ntmps33
        go_wp2_with fail
        refine (HO.out _).mono ?_
        rintro e w1 ⟨rfl, hb1⟩
        have hB1 := (Box.new w 47 #[.int .i64 0, .int .i64 0, .int .i64 0, .int .i64 0, .int .i64 0, .int .i64 0]).under hb1
        have hb01 : Below w.heap.size w w1 := ((Below.refl _ _).alloc (Nat.le_refl _) _).trans (hb1.mono (by simp))
        have HB1 := Lib.hid hB1
        have Hb01 := Lib.hid hb01
        clear hB1 hb01 hb1
        go_wp2_with fail
        go_quiet (fail)
        obtain ⟨⟨k0, k1, k2, k3, k4, k5⟩, ⟨e0, e1, e2, e3, e4, e5⟩⟩ := Tk.Box.six (HB1.out.drewN nq)
        have Hb02 := Lib.hid (below_drewN Hb01.out nq)
        generalize w1.drewN nq = w2 at *
        go_wp2_with fail
        refine bodyPost_ret (v := tnone) (by simp [results, Tryd.results33, go_sem, tnone, rtV, zeroR, k0, k1, k2, k3, k4, k5]) rfl (HQ.out _ _ ?_ (.inr ⟨hno.out, rfl⟩))
        exact (((((Hb02.out.setCell (Nat.le_refl _) _).setCell (Nat.le_refl _) _).setCell (Nat.le_refl _) _).setCell (Nat.le_refl _) _).setCell (Nat.le_refl _) _).setCell (Nat.le_refl _) _
    · have hxI : ((x.toNat : Int) != 86) = true := by
        rw [bne_iff_ne]
        intro e
        exact hx (UInt8.toNat_inj.1 (by show x.toNat = 86; omega))
      have hno := Lib.hid (stake_form (l := l) (fun h => hx (hX ▸ (Hnf.out h).1)))
      clear hx hX
      generalize str (((front (l.take 122)).drop 1).take 6) = S1 at *
      generalize str (l.drop 122) = S2 at *
      generalize str (front (l.take 122)) = B at *
      generalize str (l.take 122) = T at *
      generalize str l = S at *
      generalize x.toNat = xx at *
      go_enter Tryd.func33, Tryd.ntmps33
      go_wp2_with fail
      refine (HO.out _).mono ?_
      rintro e w1 ⟨rfl, hb1⟩
      have hB1 := (Box.new w 47 #[.int .i64 0, .int .i64 0, .int .i64 0, .int .i64 0, .int .i64 0, .int .i64 0]).under hb1
      have hb01 : Below w.heap.size w w1 := ((Below.refl _ _).alloc (Nat.le_refl _) _).trans (hb1.mono (by simp))
      have HB1 := Lib.hid hB1
      have Hb01 := Lib.hid hb01
      clear hB1 hb01 hb1
      go_wp2_with fail
      go_quiet (fail)
      obtain ⟨⟨k0, k1, k2, k3, k4, k5⟩, ⟨e0, e1, e2, e3, e4, e5⟩⟩ := Tk.Box.six (HB1.out.drewN nq)
      have Hb02 := Lib.hid (below_drewN Hb01.out nq)
      generalize w1.drewN nq = w2 at *
      go_wp2_with fail
      refine bodyPost_ret (v := tnone) (by simp [results, Tryd.results33, go_sem, tnone, rtV, zeroR, k0, k1, k2, k3, k4, k5]) rfl (HQ.out _ _ ?_ (.inr ⟨hno.out, rfl⟩))
      exact (((((Hb02.out.setCell (Nat.le_refl _) _).setCell (Nat.le_refl _) _).setCell (Nat.le_refl _) _).setCell (Nat.le_refl _) _).setCell (Nat.le_refl _) _).setCell (Nat.le_refl _) _
  · have hc' : isClosed (l.take 122) = false := by simpa using hc
    rw [hc'] at HO
    have hno := Lib.hid (stake_form (l := l) (fun h => hc h.2.1))
    clear hc hc' hQ
    generalize opened (l.take 122) = O at *
    generalize str (l.take 122) = T at *
    generalize str (l.drop 122) = T2 at *
    generalize str l = S at *
    go_enter Tryd.func33, Tryd.ntmps33
    go_wp2_with fail
    refine (HO.out _).mono ?_
    rintro e w1 ⟨rfl, hb1⟩
    have hB1 := (Box.new w 47 #[.int .i64 0, .int .i64 0, .int .i64 0, .int .i64 0, .int .i64 0, .int .i64 0]).under hb1
    have hb01 : Below w.heap.size w w1 := ((Below.refl _ _).alloc (Nat.le_refl _) _).trans (hb1.mono (by simp))
    have HB1 := Lib.hid hB1
    have Hb01 := Lib.hid hb01
    clear hB1 hb01 hb1
    go_wp2_with fail
    go_quiet (fail)
    obtain ⟨⟨k0, k1, k2, k3, k4, k5⟩, ⟨e0, e1, e2, e3, e4, e5⟩⟩ := Tk.Box.six (HB1.out.drewN nq)
    have Hb02 := Lib.hid (below_drewN Hb01.out nq)
    generalize w1.drewN nq = w2 at *
    go_wp2_with fail
    refine bodyPost_ret (v := tnone) (by simp [results, Tryd.results33, go_sem, tnone, rtV, zeroR, k0, k1, k2, k3, k4, k5]) rfl (HQ.out _ _ ?_ (.inr ⟨hno.out, rfl⟩))
    exact (((((Hb02.out.setCell (Nat.le_refl _) _).setCell (Nat.le_refl _) _).setCell (Nat.le_refl _) _).setCell (Nat.le_refl _) _).setCell (Nat.le_refl _) _).setCell (Nat.le_refl _) _

end Go.Proofs.YtpgmbpjjefecdaaDoor.Sl
