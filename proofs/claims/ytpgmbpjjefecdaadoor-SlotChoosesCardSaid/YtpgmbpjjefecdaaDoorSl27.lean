/- Layer 9: the document's Take (gensl27.py prints it). -/
import Derived.Test.YtpgmbpjjefecdaaDoorSl25
import Derived.Test.YtpgmbpjjefecdaaDoorSl26
import Derived.Deep.Cut
namespace Go.Proofs.YtpgmbpjjefecdaaDoor.Sl
open Go.RowKit Base Crc Txt Plain Pg
set_option linter.unusedVariables false
set_option linter.unusedSimpArgs false

def genTo (l : List UInt8) (k : Nat) : Nat := Nm.val ((l.drop 1).take k)
abbrev NumC (s : ByteArray) (most a e a' e' n : Nat) : Prop := ∀ w, Calls Tryd.prog 58 #[.agg (scanV s a e), .int .i64 most] w fun x w' => x = .returned (.tuple #[.agg (scanV s a' e'), .int .i64 n]) ∧ Below w.heap.size w w'
/-- the version that was read -/
def readR (gen n1 n2 n3 n4 n5 : Nat) : Rt := ⟨gen, n1, n2, n3, n4, n5⟩
def RTakeOut (c : Prop) (r : Rt) (w : World) (e : Ending) (w' : World) : Prop :=
  Below w.heap.size w w' ∧ ((c ∧ e = .returned (.tuple #[.agg (rtV r), .bool true])) ∨ (¬ c ∧ e = .returned snone))
set_option maxRecDepth 100000 in
set_option maxHeartbeats 4000000 in
theorem rtake9 (l : List UInt8) (w : World) (hl : l.length = 128) (gen a1 e1 n1 a2 e2 n2 a3 e3 n3 a4 e4 n4 a5 e5 n5 : Nat) (hgen : genTo l 6 = gen)
    (h1 : NumC ((str l).extract 7 128) 2047 0 0 a1 e1 n1) (h2 : NumC ((str l).extract 7 128) 2046 a1 e1 a2 e2 n2) (h3 : NumC ((str l).extract 7 128) 1048576 a2 e2 a3 e3 n3) (h4 : NumC ((str l).extract 7 128) 1048576 a3 e3 a4 e4 n4) (h5 : NumC ((str l).extract 7 128) 1048576 a4 e4 a5 e5 n5) :
    Calls Tryd.prog 35 #[.string (str l)] w (RTakeOut (e5 = 0 ∧ Ok (readR gen n1 n2 n3 n4 n5) ∧ rec9 (readR gen n1 n2 n3 n4 n5) = l) (readR gen n1 n2 n3 n4 n5) w) := by
  have HQ := Lib.hid (show ∀ e w', Below w.heap.size w w' → (((e5 = 0 ∧ Ok (readR gen n1 n2 n3 n4 n5) ∧ rec9 (readR gen n1 n2 n3 n4 n5) = l) ∧ e = .returned (.tuple #[.agg (rtV (readR gen n1 n2 n3 n4 n5)), .bool true])) ∨ (¬ (e5 = 0 ∧ Ok (readR gen n1 n2 n3 n4 n5) ∧ rec9 (readR gen n1 n2 n3 n4 n5) = l) ∧ e = .returned snone)) → RTakeOut (e5 = 0 ∧ Ok (readR gen n1 n2 n3 n4 n5) ∧ rec9 (readR gen n1 n2 n3 n4 n5) = l) (readR gen n1 n2 n3 n4 n5) w e w' from fun e w' a b => ⟨a, b⟩)
  generalize hQ : RTakeOut (e5 = 0 ∧ Ok (readR gen n1 n2 n3 n4 n5) ∧ rec9 (readR gen n1 n2 n3 n4 n5) = l) (readR gen n1 n2 n3 n4 n5) w = Q at *
  clear hQ
  have HI := Lib.hid (fun j hj => index_nb l j hj)
  have HV := Lib.hid (show ∀ t, t ≤ 6 → genTo l t < 256 ^ t from fun t ht => by
    have := Nm.val_lt ((l.drop 1).take t)
    rw [List.length_take, List.length_drop, Nat.min_eq_left (by omega)] at this
    exact this)
  have HS := Lib.hid (show ∀ t, t < 6 → genTo l (t + 1) = genTo l t * 256 + (l.getD (t + 1) 0).toNat from fun t ht => by
    unfold genTo
    rw [List.take_succ_eq_append_getElem (by rw [List.length_drop]; omega), Nm.val_snoc, List.getD_eq_getElem?_getD, List.getElem?_eq_getElem (by omega)]
    simp [Nat.add_comm])
  have H0 := Lib.hid (show genTo l 0 = 0 from rfl)
  have HG := Lib.hid hgen
  have hs : (str l).size = 128 := hl
  have Hl := Lib.hid hl
  have H1 := Lib.hid h1
  have H2 := Lib.hid h2
  have H3 := Lib.hid h3
  have H4 := Lib.hid h4
  have H5 := Lib.hid h5
  clear h1 h2 h3 h4 h5 hl hgen
  have HSt := Lib.hid (show (str l).toList = l from by rw [ByteArray.toList_eq, str_list])
  generalize str l = S at *
  go_enter Tryd.func35, Tryd.ntmps35
  go_wp2_with fail
  go_loopw [5] (fun v5 wr => ∃ k : Nat, k ≤ 6 ∧ v5 = .int .i64 ((k : Int) + 1) ∧ Box wr (w.heap.size + 1) 47 #[.int .i64 (genTo l k : Nat), .int .i64 0, .int .i64 0, .int .i64 0, .int .i64 0, .int .i64 0] ∧ Box wr w.heap.size 47 #[.int .i64 0, .int .i64 0, .int .i64 0, .int .i64 0, .int .i64 0, .int .i64 0] ∧ Below w.heap.size w wr) (fun v5 _ => 7 - (intOf v5).toNat)
  case atStart =>
    refine ⟨0, by omega, rfl, ?_, (Box.new _ _ _).alloc _, (by repeat (first | exact Below.refl _ _ | assumption | refine Below.drew ?_ | (refine Below.alloc ?_ (by simp <;> omega) _) | (refine Below.setCell ?_ (by simp <;> omega) _)))⟩
    rw [H0.out]
    exact Box.lay (by simp)
  case round =>
    obtain ⟨k, hk, rfl, hX, hR, hbe⟩ := hrel
    by_cases hlt : k < 6
    · have hi : ∀ W, (Instr.index 9 (.string S) (.int .i64 ((k : Int) + 1))).run Tryd.prog W = .ok (.int .u8 ((l.getD (k + 1) 0).toNat : Nat)) W := HI.out (k + 1) (by rw [Hl.out]; omega)
      have hv : genTo l k < 1099511627776 := Nat.lt_of_lt_of_le (HV.out k hk) (Nat.pow_le_pow_right (n := 256) (by omega) (show k ≤ 5 by omega))
      have Hs := Lib.hid (HS.out k hlt)
      have hb := (l.getD (k + 1) 0).toNat_lt
      generalize genTo l k = m at *
      generalize (l.getD (k + 1) 0).toNat = y at *
      obtain ⟨⟨k0, k1, k2, k3, k4, k5⟩, ⟨f0, f1, f2, f3, f4, f5⟩⟩ := Tk.Box.six hX
      have HX := Lib.hid hX
      have HR := Lib.hid hR
      have Hb := Lib.hid hbe
      have w1 : IntKind.i64.wrap ((m : Int) * 256) = (m : Int) * 256 := IntWalk.i64_in _ (by omega)
      have w2 : IntKind.i64.wrap (y : Int) = (y : Int) := IntWalk.i64_in _ (by omega)
      have w3 : IntKind.i64.wrap ((m : Int) * 256 + (y : Int)) = (m : Int) * 256 + (y : Int) := IntWalk.i64_in _ (by omega)
      clear hX hR hbe
      go_wp2_with fail
      go_region
      go_wp2_with fail
      refine ⟨⟨k + 1, by omega, rfl, ?_, ?_, ?_⟩, by simp [intOf]; omega⟩
      · have h := (HX.out.set 0 (.int .i64 ((m : Int) * 256 + (y : Int)))).drew
        rw [Hs.out]
        exact h
      · exact (HR.out.far (by simp) _).drew
      · exact (Hb.out.setCell (by simp) _).drew
    · have hk6 : k = 6 := by omega
      subst hk6
      rw [HG.out] at hX
      clear hk hlt HI HV HS H0 HG
      have HX := Lib.hid hX
      have HR := Lib.hid hR
      have Hb := Lib.hid hbe
      have hg : w.heap.size + 1 < wr.heap.size := hX.lt
      clear hX hR hbe
      go_wp2_with fail
      generalize S.extract 7 128 = T at *
      have HA0 := Lib.hid (Box.new wr 78 #[.string T, .int .i64 0, .int .i64 0])
      have HX0 := Lib.hid (HX.out.alloc (.cells #[.string T, .int .i64 0, .int .i64 0] 78))
      have HR0 := Lib.hid (HR.out.alloc (.cells #[.string T, .int .i64 0, .int .i64 0] 78))
      have Hb0 := Lib.hid (Hb.out.alloc Hb.out.size (.cells #[.string T, .int .i64 0, .int .i64 0] 78))
      clear HX HR Hb
      generalize wr.alloc (.cells #[.string T, .int .i64 0, .int .i64 0] 78) = v0 at *
      generalize wr.heap.size = gr at *
      refine (H1.out _).mono ?_
      rintro e w1 ⟨rfl, hb1⟩
      have ha1 := HA0.out.under hb1
      have hx1 := HX0.out.under hb1
      obtain ⟨k0, k1, k2, g0, g1, g2⟩ := Box.three ha1
      obtain ⟨⟨m0, m1, m2, m3, m4, m5⟩, ⟨f0, f1, f2, f3, f4, f5⟩⟩ := Tk.Box.six hx1
      have HA1 := Lib.hid (show Box ((((w1.setCell ⟨gr, 0, none⟩ (.string T)).setCell ⟨gr, 1, none⟩ (.int .i64 a1)).setCell ⟨gr, 2, none⟩ (.int .i64 e1)).setCell ⟨w.heap.size + 1, 1, none⟩ (.int .i64 n1)) gr 78 #[.string T, .int .i64 a1, .int .i64 e1] from (((ha1.set 0 (.string T)).set 1 (.int .i64 a1)).set 2 (.int .i64 e1)).far (by simp; omega) _)
      have HX1 := Lib.hid (show Box ((((w1.setCell ⟨gr, 0, none⟩ (.string T)).setCell ⟨gr, 1, none⟩ (.int .i64 a1)).setCell ⟨gr, 2, none⟩ (.int .i64 e1)).setCell ⟨w.heap.size + 1, 1, none⟩ (.int .i64 n1)) (w.heap.size + 1) 47 #[.int .i64 (gen : Nat), .int .i64 (n1 : Nat), .int .i64 0, .int .i64 0, .int .i64 0, .int .i64 0] from (((hx1.far (p := ⟨gr, 0, none⟩) (by simp; omega) _).far (p := ⟨gr, 1, none⟩) (by simp; omega) _).far (p := ⟨gr, 2, none⟩) (by simp; omega) _).set 1 (.int .i64 n1))
      have HR1 := Lib.hid (show Box ((((w1.setCell ⟨gr, 0, none⟩ (.string T)).setCell ⟨gr, 1, none⟩ (.int .i64 a1)).setCell ⟨gr, 2, none⟩ (.int .i64 e1)).setCell ⟨w.heap.size + 1, 1, none⟩ (.int .i64 n1)) w.heap.size 47 #[.int .i64 0, .int .i64 0, .int .i64 0, .int .i64 0, .int .i64 0, .int .i64 0] from ((((HR0.out.under hb1).far (p := ⟨gr, 0, none⟩) (by simp; omega) _).far (p := ⟨gr, 1, none⟩) (by simp; omega) _).far (p := ⟨gr, 2, none⟩) (by simp; omega) _).far (by simp) _)
      have Hb1 := Lib.hid (show Below w.heap.size w ((((w1.setCell ⟨gr, 0, none⟩ (.string T)).setCell ⟨gr, 1, none⟩ (.int .i64 a1)).setCell ⟨gr, 2, none⟩ (.int .i64 e1)).setCell ⟨w.heap.size + 1, 1, none⟩ (.int .i64 n1)) from ((((Hb0.out.trans (hb1.mono Hb0.out.size)).setCell (by simp; omega) _).setCell (by simp; omega) _).setCell (by simp; omega) _).setCell (by simp) _)
      clear HA0 HX0 HR0 Hb0 hb1 ha1 hx1 H1
      go_wp2_with fail
      clear k0 k1 k2 g0 g1 g2 m0 m1 m2 m3 m4 m5 f0 f1 f2 f3 f4 f5
      obtain ⟨k0, k1, k2, g0, g1, g2⟩ := Box.three HA1.out
      generalize ((((w1.setCell ⟨gr, 0, none⟩ (.string T)).setCell ⟨gr, 1, none⟩ (.int .i64 a1)).setCell ⟨gr, 2, none⟩ (.int .i64 e1)).setCell ⟨w.heap.size + 1, 1, none⟩ (.int .i64 n1)) = v1 at *
      refine (H2.out _).mono ?_
      rintro e w2 ⟨rfl, hb2⟩
      have ha2 := HA1.out.under hb2
      have hx2 := HX1.out.under hb2
      obtain ⟨k0, k1, k2, g0, g1, g2⟩ := Box.three ha2
      obtain ⟨⟨m0, m1, m2, m3, m4, m5⟩, ⟨f0, f1, f2, f3, f4, f5⟩⟩ := Tk.Box.six hx2
      have HA2 := Lib.hid (show Box ((((w2.setCell ⟨gr, 0, none⟩ (.string T)).setCell ⟨gr, 1, none⟩ (.int .i64 a2)).setCell ⟨gr, 2, none⟩ (.int .i64 e2)).setCell ⟨w.heap.size + 1, 2, none⟩ (.int .i64 n2)) gr 78 #[.string T, .int .i64 a2, .int .i64 e2] from (((ha2.set 0 (.string T)).set 1 (.int .i64 a2)).set 2 (.int .i64 e2)).far (by simp; omega) _)
      have HX2 := Lib.hid (show Box ((((w2.setCell ⟨gr, 0, none⟩ (.string T)).setCell ⟨gr, 1, none⟩ (.int .i64 a2)).setCell ⟨gr, 2, none⟩ (.int .i64 e2)).setCell ⟨w.heap.size + 1, 2, none⟩ (.int .i64 n2)) (w.heap.size + 1) 47 #[.int .i64 (gen : Nat), .int .i64 (n1 : Nat), .int .i64 (n2 : Nat), .int .i64 0, .int .i64 0, .int .i64 0] from (((hx2.far (p := ⟨gr, 0, none⟩) (by simp; omega) _).far (p := ⟨gr, 1, none⟩) (by simp; omega) _).far (p := ⟨gr, 2, none⟩) (by simp; omega) _).set 2 (.int .i64 n2))
      have HR2 := Lib.hid (show Box ((((w2.setCell ⟨gr, 0, none⟩ (.string T)).setCell ⟨gr, 1, none⟩ (.int .i64 a2)).setCell ⟨gr, 2, none⟩ (.int .i64 e2)).setCell ⟨w.heap.size + 1, 2, none⟩ (.int .i64 n2)) w.heap.size 47 #[.int .i64 0, .int .i64 0, .int .i64 0, .int .i64 0, .int .i64 0, .int .i64 0] from ((((HR1.out.under hb2).far (p := ⟨gr, 0, none⟩) (by simp; omega) _).far (p := ⟨gr, 1, none⟩) (by simp; omega) _).far (p := ⟨gr, 2, none⟩) (by simp; omega) _).far (by simp) _)
      have Hb2 := Lib.hid (show Below w.heap.size w ((((w2.setCell ⟨gr, 0, none⟩ (.string T)).setCell ⟨gr, 1, none⟩ (.int .i64 a2)).setCell ⟨gr, 2, none⟩ (.int .i64 e2)).setCell ⟨w.heap.size + 1, 2, none⟩ (.int .i64 n2)) from ((((Hb1.out.trans (hb2.mono Hb1.out.size)).setCell (by simp; omega) _).setCell (by simp; omega) _).setCell (by simp; omega) _).setCell (by simp) _)
      clear HA1 HX1 HR1 Hb1 hb2 ha2 hx2 H2
      go_wp2_with fail
      clear k0 k1 k2 g0 g1 g2 m0 m1 m2 m3 m4 m5 f0 f1 f2 f3 f4 f5
      obtain ⟨k0, k1, k2, g0, g1, g2⟩ := Box.three HA2.out
      generalize ((((w2.setCell ⟨gr, 0, none⟩ (.string T)).setCell ⟨gr, 1, none⟩ (.int .i64 a2)).setCell ⟨gr, 2, none⟩ (.int .i64 e2)).setCell ⟨w.heap.size + 1, 2, none⟩ (.int .i64 n2)) = v2 at *
      refine (H3.out _).mono ?_
      rintro e w3 ⟨rfl, hb3⟩
      have ha3 := HA2.out.under hb3
      have hx3 := HX2.out.under hb3
      obtain ⟨k0, k1, k2, g0, g1, g2⟩ := Box.three ha3
      obtain ⟨⟨m0, m1, m2, m3, m4, m5⟩, ⟨f0, f1, f2, f3, f4, f5⟩⟩ := Tk.Box.six hx3
      have HA3 := Lib.hid (show Box ((((w3.setCell ⟨gr, 0, none⟩ (.string T)).setCell ⟨gr, 1, none⟩ (.int .i64 a3)).setCell ⟨gr, 2, none⟩ (.int .i64 e3)).setCell ⟨w.heap.size + 1, 3, none⟩ (.int .i64 n3)) gr 78 #[.string T, .int .i64 a3, .int .i64 e3] from (((ha3.set 0 (.string T)).set 1 (.int .i64 a3)).set 2 (.int .i64 e3)).far (by simp; omega) _)
      have HX3 := Lib.hid (show Box ((((w3.setCell ⟨gr, 0, none⟩ (.string T)).setCell ⟨gr, 1, none⟩ (.int .i64 a3)).setCell ⟨gr, 2, none⟩ (.int .i64 e3)).setCell ⟨w.heap.size + 1, 3, none⟩ (.int .i64 n3)) (w.heap.size + 1) 47 #[.int .i64 (gen : Nat), .int .i64 (n1 : Nat), .int .i64 (n2 : Nat), .int .i64 (n3 : Nat), .int .i64 0, .int .i64 0] from (((hx3.far (p := ⟨gr, 0, none⟩) (by simp; omega) _).far (p := ⟨gr, 1, none⟩) (by simp; omega) _).far (p := ⟨gr, 2, none⟩) (by simp; omega) _).set 3 (.int .i64 n3))
      have HR3 := Lib.hid (show Box ((((w3.setCell ⟨gr, 0, none⟩ (.string T)).setCell ⟨gr, 1, none⟩ (.int .i64 a3)).setCell ⟨gr, 2, none⟩ (.int .i64 e3)).setCell ⟨w.heap.size + 1, 3, none⟩ (.int .i64 n3)) w.heap.size 47 #[.int .i64 0, .int .i64 0, .int .i64 0, .int .i64 0, .int .i64 0, .int .i64 0] from ((((HR2.out.under hb3).far (p := ⟨gr, 0, none⟩) (by simp; omega) _).far (p := ⟨gr, 1, none⟩) (by simp; omega) _).far (p := ⟨gr, 2, none⟩) (by simp; omega) _).far (by simp) _)
      have Hb3 := Lib.hid (show Below w.heap.size w ((((w3.setCell ⟨gr, 0, none⟩ (.string T)).setCell ⟨gr, 1, none⟩ (.int .i64 a3)).setCell ⟨gr, 2, none⟩ (.int .i64 e3)).setCell ⟨w.heap.size + 1, 3, none⟩ (.int .i64 n3)) from ((((Hb2.out.trans (hb3.mono Hb2.out.size)).setCell (by simp; omega) _).setCell (by simp; omega) _).setCell (by simp; omega) _).setCell (by simp) _)
      clear HA2 HX2 HR2 Hb2 hb3 ha3 hx3 H3
      go_wp2_with fail
      clear k0 k1 k2 g0 g1 g2 m0 m1 m2 m3 m4 m5 f0 f1 f2 f3 f4 f5
      obtain ⟨k0, k1, k2, g0, g1, g2⟩ := Box.three HA3.out
      generalize ((((w3.setCell ⟨gr, 0, none⟩ (.string T)).setCell ⟨gr, 1, none⟩ (.int .i64 a3)).setCell ⟨gr, 2, none⟩ (.int .i64 e3)).setCell ⟨w.heap.size + 1, 3, none⟩ (.int .i64 n3)) = v3 at *
      refine (H4.out _).mono ?_
      rintro e w4 ⟨rfl, hb4⟩
      have ha4 := HA3.out.under hb4
      have hx4 := HX3.out.under hb4
      obtain ⟨k0, k1, k2, g0, g1, g2⟩ := Box.three ha4
      obtain ⟨⟨m0, m1, m2, m3, m4, m5⟩, ⟨f0, f1, f2, f3, f4, f5⟩⟩ := Tk.Box.six hx4
      have HA4 := Lib.hid (show Box ((((w4.setCell ⟨gr, 0, none⟩ (.string T)).setCell ⟨gr, 1, none⟩ (.int .i64 a4)).setCell ⟨gr, 2, none⟩ (.int .i64 e4)).setCell ⟨w.heap.size + 1, 4, none⟩ (.int .i64 n4)) gr 78 #[.string T, .int .i64 a4, .int .i64 e4] from (((ha4.set 0 (.string T)).set 1 (.int .i64 a4)).set 2 (.int .i64 e4)).far (by simp; omega) _)
      have HX4 := Lib.hid (show Box ((((w4.setCell ⟨gr, 0, none⟩ (.string T)).setCell ⟨gr, 1, none⟩ (.int .i64 a4)).setCell ⟨gr, 2, none⟩ (.int .i64 e4)).setCell ⟨w.heap.size + 1, 4, none⟩ (.int .i64 n4)) (w.heap.size + 1) 47 #[.int .i64 (gen : Nat), .int .i64 (n1 : Nat), .int .i64 (n2 : Nat), .int .i64 (n3 : Nat), .int .i64 (n4 : Nat), .int .i64 0] from (((hx4.far (p := ⟨gr, 0, none⟩) (by simp; omega) _).far (p := ⟨gr, 1, none⟩) (by simp; omega) _).far (p := ⟨gr, 2, none⟩) (by simp; omega) _).set 4 (.int .i64 n4))
      have HR4 := Lib.hid (show Box ((((w4.setCell ⟨gr, 0, none⟩ (.string T)).setCell ⟨gr, 1, none⟩ (.int .i64 a4)).setCell ⟨gr, 2, none⟩ (.int .i64 e4)).setCell ⟨w.heap.size + 1, 4, none⟩ (.int .i64 n4)) w.heap.size 47 #[.int .i64 0, .int .i64 0, .int .i64 0, .int .i64 0, .int .i64 0, .int .i64 0] from ((((HR3.out.under hb4).far (p := ⟨gr, 0, none⟩) (by simp; omega) _).far (p := ⟨gr, 1, none⟩) (by simp; omega) _).far (p := ⟨gr, 2, none⟩) (by simp; omega) _).far (by simp) _)
      have Hb4 := Lib.hid (show Below w.heap.size w ((((w4.setCell ⟨gr, 0, none⟩ (.string T)).setCell ⟨gr, 1, none⟩ (.int .i64 a4)).setCell ⟨gr, 2, none⟩ (.int .i64 e4)).setCell ⟨w.heap.size + 1, 4, none⟩ (.int .i64 n4)) from ((((Hb3.out.trans (hb4.mono Hb3.out.size)).setCell (by simp; omega) _).setCell (by simp; omega) _).setCell (by simp; omega) _).setCell (by simp) _)
      clear HA3 HX3 HR3 Hb3 hb4 ha4 hx4 H4
      go_wp2_with fail
      clear k0 k1 k2 g0 g1 g2 m0 m1 m2 m3 m4 m5 f0 f1 f2 f3 f4 f5
      obtain ⟨k0, k1, k2, g0, g1, g2⟩ := Box.three HA4.out
      generalize ((((w4.setCell ⟨gr, 0, none⟩ (.string T)).setCell ⟨gr, 1, none⟩ (.int .i64 a4)).setCell ⟨gr, 2, none⟩ (.int .i64 e4)).setCell ⟨w.heap.size + 1, 4, none⟩ (.int .i64 n4)) = v4 at *
      refine (H5.out _).mono ?_
      rintro e w5 ⟨rfl, hb5⟩
      have ha5 := HA4.out.under hb5
      have hx5 := HX4.out.under hb5
      obtain ⟨k0, k1, k2, g0, g1, g2⟩ := Box.three ha5
      obtain ⟨⟨m0, m1, m2, m3, m4, m5⟩, ⟨f0, f1, f2, f3, f4, f5⟩⟩ := Tk.Box.six hx5
      have HA5 := Lib.hid (show Box ((((w5.setCell ⟨gr, 0, none⟩ (.string T)).setCell ⟨gr, 1, none⟩ (.int .i64 a5)).setCell ⟨gr, 2, none⟩ (.int .i64 e5)).setCell ⟨w.heap.size + 1, 5, none⟩ (.int .i64 n5)) gr 78 #[.string T, .int .i64 a5, .int .i64 e5] from (((ha5.set 0 (.string T)).set 1 (.int .i64 a5)).set 2 (.int .i64 e5)).far (by simp; omega) _)
      have HX5 := Lib.hid (show Box ((((w5.setCell ⟨gr, 0, none⟩ (.string T)).setCell ⟨gr, 1, none⟩ (.int .i64 a5)).setCell ⟨gr, 2, none⟩ (.int .i64 e5)).setCell ⟨w.heap.size + 1, 5, none⟩ (.int .i64 n5)) (w.heap.size + 1) 47 #[.int .i64 (gen : Nat), .int .i64 (n1 : Nat), .int .i64 (n2 : Nat), .int .i64 (n3 : Nat), .int .i64 (n4 : Nat), .int .i64 (n5 : Nat)] from (((hx5.far (p := ⟨gr, 0, none⟩) (by simp; omega) _).far (p := ⟨gr, 1, none⟩) (by simp; omega) _).far (p := ⟨gr, 2, none⟩) (by simp; omega) _).set 5 (.int .i64 n5))
      have HR5 := Lib.hid (show Box ((((w5.setCell ⟨gr, 0, none⟩ (.string T)).setCell ⟨gr, 1, none⟩ (.int .i64 a5)).setCell ⟨gr, 2, none⟩ (.int .i64 e5)).setCell ⟨w.heap.size + 1, 5, none⟩ (.int .i64 n5)) w.heap.size 47 #[.int .i64 0, .int .i64 0, .int .i64 0, .int .i64 0, .int .i64 0, .int .i64 0] from ((((HR4.out.under hb5).far (p := ⟨gr, 0, none⟩) (by simp; omega) _).far (p := ⟨gr, 1, none⟩) (by simp; omega) _).far (p := ⟨gr, 2, none⟩) (by simp; omega) _).far (by simp) _)
      have Hb5 := Lib.hid (show Below w.heap.size w ((((w5.setCell ⟨gr, 0, none⟩ (.string T)).setCell ⟨gr, 1, none⟩ (.int .i64 a5)).setCell ⟨gr, 2, none⟩ (.int .i64 e5)).setCell ⟨w.heap.size + 1, 5, none⟩ (.int .i64 n5)) from ((((Hb4.out.trans (hb5.mono Hb4.out.size)).setCell (by simp; omega) _).setCell (by simp; omega) _).setCell (by simp; omega) _).setCell (by simp) _)
      clear HA4 HX4 HR4 Hb4 hb5 ha5 hx5 H5
      go_upto_region 14 with fail
      clear k0 k1 k2 g0 g1 g2 m0 m1 m2 m3 m4 m5 f0 f1 f2 f3 f4 f5
      obtain ⟨k0, k1, k2, g0, g1, g2⟩ := Box.three HA5.out
      generalize ((((w5.setCell ⟨gr, 0, none⟩ (.string T)).setCell ⟨gr, 1, none⟩ (.int .i64 a5)).setCell ⟨gr, 2, none⟩ (.int .i64 e5)).setCell ⟨w.heap.size + 1, 5, none⟩ (.int .i64 n5)) = v5 at *
      obtain ⟨⟨m0, m1, m2, m3, m4, m5⟩, ⟨f0, f1, f2, f3, f4, f5⟩⟩ := Tk.Box.six HX5.out
      obtain ⟨⟨r0, r1, r2, r3, r4, r5⟩, ⟨p0, p1, p2, p3, p4, p5⟩⟩ := Tk.Box.six HR5.out
      clear g0 g1 g2 f0 f1 f2 f3 f4 f5
      by_cases he : e5 = 0
      · subst he
        by_cases hok : Ok (readR gen n1 n2 n3 n4 n5)
        · have HIs := Lib.hid (fun w => is_yes _ w hok)
          have HPu := Lib.hid (fun w => rput_yes _ w hok)
          simp only [rtV, readR] at HIs HPu
          go_wp2_with fail
          refine (HIs.out _).mono ?_
          rintro e w6 ⟨rfl, hb6⟩
          have HX6 := Lib.hid (HX5.out.under hb6)
          have HR6 := Lib.hid (HR5.out.under hb6)
          have Hb6 := Lib.hid (Hb5.out.trans (hb6.mono Hb5.out.size))
          clear k0 k1 k2 m0 m1 m2 m3 m4 m5 r0 r1 r2 r3 r4 r5 p0 p1 p2 p3 p4 p5 hb6
          obtain ⟨⟨m0, m1, m2, m3, m4, m5⟩, ⟨f0, f1, f2, f3, f4, f5⟩⟩ := Tk.Box.six HX6.out
          clear f0 f1 f2 f3 f4 f5
          go_wp2_with fail
          refine (HPu.out _).mono ?_
          rintro e w7 ⟨rfl, hb7⟩
          have HX7 := Lib.hid (HX6.out.under hb7)
          have HR7 := Lib.hid (HR6.out.under hb7)
          have Hb7 := Lib.hid (Hb6.out.trans (hb7.mono Hb6.out.size))
          clear m0 m1 m2 m3 m4 m5 hb7
          obtain ⟨⟨m0, m1, m2, m3, m4, m5⟩, ⟨f0, f1, f2, f3, f4, f5⟩⟩ := Tk.Box.six HX7.out
          obtain ⟨⟨r0, r1, r2, r3, r4, r5⟩, ⟨p0, p1, p2, p3, p4, p5⟩⟩ := Tk.Box.six HR7.out
          clear f0 f1 f2 f3 f4 f5
          have hstr : (str (rec9 ⟨gen, n1, n2, n3, n4, n5⟩)).toList = rec9 ⟨gen, n1, n2, n3, n4, n5⟩ := by rw [ByteArray.toList_eq, str_list]
          by_cases heq : rec9 (readR gen n1 n2 n3 n4 n5) = l
          · have hcmp : ((str (rec9 ⟨gen, n1, n2, n3, n4, n5⟩)).toList == S.toList) = true := by
              rw [hstr, HSt.out, beq_iff_eq]
              exact heq
            have Hc := Lib.hid (show (0 : Nat) = 0 ∧ Ok (readR gen n1 n2 n3 n4 n5) ∧ rec9 (readR gen n1 n2 n3 n4 n5) = l from ⟨rfl, hok, heq⟩)
            clear hstr heq hok HIs HPu
            generalize str (rec9 ⟨gen, n1, n2, n3, n4, n5⟩) = RC at *
            go_wp2_with fail
            refine bodyPost_ret (v := .tuple #[.agg (rtV (readR gen n1 n2 n3 n4 n5)), .bool true]) (by simp [results, Tryd.results35, go_sem, snone, rtV, zeroR, r0, r1, r2, r3, r4, r5, m0, m1, m2, m3, m4, m5, readR]) rfl (HQ.out _ _ ?_ (.inl ⟨Hc.out, rfl⟩))
            exact below_set6 Hb7.out (Nat.le_refl _)
          · have hcmp : ((str (rec9 ⟨gen, n1, n2, n3, n4, n5⟩)).toList == S.toList) = false := by
              rw [hstr, HSt.out, beq_eq_false_iff_ne]
              exact heq
            have Hc := Lib.hid (show ¬ ((0 : Nat) = 0 ∧ Ok (readR gen n1 n2 n3 n4 n5) ∧ rec9 (readR gen n1 n2 n3 n4 n5) = l) from fun h => heq h.2.2)
            clear hstr heq hok HIs HPu
            generalize str (rec9 ⟨gen, n1, n2, n3, n4, n5⟩) = RC at *
            go_wp2_with fail
            refine bodyPost_ret (v := snone) (by simp [results, Tryd.results35, go_sem, snone, rtV, zeroR, r0, r1, r2, r3, r4, r5]) rfl (HQ.out _ _ ?_ (.inr ⟨Hc.out, rfl⟩))
            exact below_set6 Hb7.out (Nat.le_refl _)
        · have HIs := Lib.hid (fun w => is_no _ w hok)
          simp only [rtV, readR] at HIs
          have Hc := Lib.hid (show ¬ ((0 : Nat) = 0 ∧ Ok (readR gen n1 n2 n3 n4 n5) ∧ rec9 (readR gen n1 n2 n3 n4 n5) = l) from fun h => hok h.2.1)
          clear hok
          go_wp2_with fail
          refine (HIs.out _).mono ?_
          rintro e w6 ⟨rfl, hb6⟩
          have HR6 := Lib.hid (HR5.out.under hb6)
          have Hb6 := Lib.hid (Hb5.out.trans (hb6.mono Hb5.out.size))
          clear k0 k1 k2 m0 m1 m2 m3 m4 m5 r0 r1 r2 r3 r4 r5 p0 p1 p2 p3 p4 p5 hb6
          obtain ⟨⟨r0, r1, r2, r3, r4, r5⟩, ⟨p0, p1, p2, p3, p4, p5⟩⟩ := Tk.Box.six HR6.out
          go_wp2_with fail
          refine bodyPost_ret (v := snone) (by simp [results, Tryd.results35, go_sem, snone, rtV, zeroR, r0, r1, r2, r3, r4, r5]) rfl (HQ.out _ _ ?_ (.inr ⟨Hc.out, rfl⟩))
          exact below_set6 Hb6.out (Nat.le_refl _)
      · have hd : ((e5 : Int) != 0) = true := by simpa using he
        have Hc := Lib.hid (show ¬ (e5 = 0 ∧ Ok (readR gen n1 n2 n3 n4 n5) ∧ rec9 (readR gen n1 n2 n3 n4 n5) = l) from fun h => he h.1)
        clear he
        go_wp2_with fail
        refine bodyPost_ret (v := snone) (by simp [results, Tryd.results35, go_sem, snone, rtV, zeroR, r0, r1, r2, r3, r4, r5]) rfl (HQ.out _ _ ?_ (.inr ⟨Hc.out, rfl⟩))
        exact below_set6 Hb5.out (Nat.le_refl _)

end Go.Proofs.YtpgmbpjjefecdaaDoor.Sl
