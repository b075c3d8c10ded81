/- Layer 9, fourth part: a version's record: slot.Put. -/
import Derived.Test.YtpgmbpjjefecdaaDoorSl3
namespace Go.Proofs.YtpgmbpjjefecdaaDoor.Sl
open Go.RowKit Base Crc Txt Plain Pg
set_option linter.unusedVariables false

def nats (r : Rt) : List Nat := [r.p.toNat, r.m.toNat, r.c.toNat, r.n.toNat, r.t.toNat]
def outTo (r : Rt) (k : Nat) : List UInt8 := (86 :: six r.g.toNat) ++ ((nats r).take k).flatMap Nm.nput
/-- a version's record without its noughts -/
def inner9 (r : Rt) : List UInt8 := outTo r 5
def rec9 (r : Rt) : List UInt8 := closed (inner9 r ++ noughts (118 - (inner9 r).length)) ++ six r.g.toNat
theorem six_len (n : Nat) : (six n).length = 6 := Nm.be_len 6 n
theorem ok_nat {r : Rt} (h : Ok r) : ∀ x ∈ nats r, x ≤ 1048576 := by
  obtain ⟨g1, g2, c1, c2, n1, n2, t1, t2, p1, p2, m1, m2⟩ := h
  intro x hx
  simp [nats] at hx
  omega
theorem nput_short (n : Nat) (h : n ≤ 1048576) : (Nm.nput n).length ≤ 3 := by
  rw [Nm.nput_len]
  exact Nm.nsize_lt3 (by omega)
theorem flat_len (l : List Nat) (h : ∀ x ∈ l, x ≤ 1048576) : (l.flatMap Nm.nput).length ≤ 3 * l.length := by
  induction l with
  | nil => simp
  | cons a l ih =>
    rw [List.flatMap_cons, List.length_append, List.length_cons]
    have h1 := nput_short a (h a List.mem_cons_self)
    have h2 := ih (fun x hx => h x (List.mem_cons_of_mem _ hx))
    omega
theorem outTo_len {r : Rt} (h : Ok r) (k : Nat) : (outTo r k).length ≤ 22 := by
  unfold outTo
  rw [List.length_append, List.length_cons, six_len]
  have h1 := flat_len ((nats r).take k) (fun x hx => ok_nat h x (List.mem_of_mem_take hx))
  have h2 : ((nats r).take k).length ≤ 5 := by rw [List.length_take]; exact Nat.le_trans (Nat.min_le_right _ _) (by simp [nats])
  omega
theorem rec_len {r : Rt} (h : Ok r) : (rec9 r).length = 128 := by
  have h1 := outTo_len h 5
  unfold rec9 closed inner9
  rw [List.length_append, List.length_append, List.length_append, six_len, noughts_len]
  simp [tail4]
  omega

set_option maxRecDepth 100000 in
set_option maxHeartbeats 2000000 in
theorem put_yes (r : Rt) (w : World) (h : Ok r) :
    Calls Tryd.prog 29 #[.agg (rtV r)] w fun e w' => e = .returned (.tuple #[.string (str (rec9 r)), .int .i64 0]) ∧ Below w.heap.size w w' := by
  have HC := Lib.hid (fun w => check_yes r w h)
  have hlen := outTo_len h 5
  have hl5 := Lib.hid (fun k => outTo_len h k)
  have hnat := Lib.hid (ok_nat h)
  have HE := Lib.hid (fun w => end_any r.g.toNat w (by have := h.g2; omega))
  have hg0 : (r.g.toNat : Int) = r.g := by have := h.g1; omega
  have hp0 : (r.p.toNat : Int) = r.p := by have := h.p1; have := pcount_bd r.c h.c2; have := pcount_bd r.n h.n2; omega
  have hm0 : (r.m.toNat : Int) = r.m := by have := h.m1; omega
  have hc0 : (r.c.toNat : Int) = r.c := by have := h.c1; omega
  have hn0 : (r.n.toNat : Int) = r.n := by have := h.n1; omega
  have ht0 : (r.t.toNat : Int) = r.t := by have := h.t1; omega
  rw [hg0] at HE
  have HPN := Lib.hid (show ∀ z : Int, ∀ x : Nat, (x : Int) = z → x ≤ 1048576 → ∀ w, Calls Tryd.prog 48 #[.int .i64 z] w fun e w' => e = .returned (.string (str (Nm.nput x))) ∧ Below w.heap.size w w' by
    intro z x hx hb w
    subst hx
    exact putnum_any x w (by omega))
  have Hp0 := Lib.hid hp0
  have Hm0 := Lib.hid hm0
  have Hc0 := Lib.hid hc0
  have Hn0 := Lib.hid hn0
  have Ht0 := Lib.hid ht0
  have Hrec := Lib.hid (show rec9 r = closed (outTo r 5 ++ noughts (118 - (outTo r 5).length)) ++ six r.g.toNat from rfl)
  have Hout0 := Lib.hid (show str [byt (86 : Int).toNat] ++ str (six r.g.toNat) = str (outTo r 0) by rw [str_app]; unfold outTo; simp [byt])
  have Hstep := Lib.hid (show ∀ k x, (nats r)[k]? = some x → str (outTo r k) ++ str (Nm.nput x) = str (outTo r (k + 1)) by
    intro k x hx
    rw [str_app]
    unfold outTo
    have hk : k < (nats r).length := by
      rcases Nat.lt_or_ge k (nats r).length with hh | hh
      · exact hh
      · rw [List.getElem?_eq_none hh] at hx; cases hx
    rw [List.take_succ_eq_append_getElem hk]
    rw [List.getElem?_eq_getElem hk] at hx
    injection hx with hx
    rw [hx, List.flatMap_append, List.append_assoc]
    simp)
  have hnx := Lib.hid (show (nats r)[0]? = some r.p.toNat ∧ (nats r)[1]? = some r.m.toNat ∧ (nats r)[2]? = some r.c.toNat ∧ (nats r)[3]? = some r.n.toNat ∧ (nats r)[4]? = some r.t.toNat from ⟨rfl, rfl, rfl, rfl, rfl⟩)
  have hcv := fun W => conv_one W (86 : Int) (by omega) (by omega)
  have hz1 : (str [byt (86 : Int).toNat]).size ≤ 1 := Nat.le_refl _
  have hz2 : (str (six r.g.toNat)).size ≤ 6 := by rw [str_size, six_len]; exact Nat.le_refl _
  clear hg0 hp0 hm0 hc0 hn0 ht0 h
  generalize hX : str (six r.g.toNat) = X at *
  have HX := Lib.hid hX
  clear hX
  generalize str [byt (86 : Int).toNat] = Y at *
  obtain ⟨g, p, m, c, n, t⟩ := r
  simp only [rtV] at *
  go_enter Tryd.func29, Tryd.ntmps29
  go_wp2_with fail
  refine (HC.out _).mono ?_
  rintro e w1 ⟨rfl, hb1⟩
  have hb01 : Below w.heap.size w w1 := ((Below.refl _ _).alloc (Nat.le_refl _) _).trans (hb1.mono (by simp))
  have hB1 := Lib.hid ((Box.new w 47 #[.int .i64 g, .int .i64 p, .int .i64 m, .int .i64 c, .int .i64 n, .int .i64 t]).under hb1)
  obtain ⟨⟨c0, c1, c2, c3, c4, c5⟩, ⟨f0, f1, f2, f3, f4, f5⟩⟩ := Tk.Box.six hB1.out
  clear hb1
  go_wp2_with fail
  refine (HE.out _).mono ?_
  rintro e w2 ⟨rfl, hb2⟩
  obtain ⟨⟨k0, k1, k2, k3, k4, k5⟩, ⟨e0, e1, e2, e3, e4, e5⟩⟩ := Tk.Box.six (hB1.out.under hb2)
  have hb02 := Lib.hid (hb01.trans (hb2.mono hb01.size))
  have hsz2 : w.heap.size < w2.heap.size := by have := (hB1.out.under hb2).lt; exact this
  clear hb2 hb01 c0 c1 c2 c3 c4 c5 f0 f1 f2 f3 f4 f5
  go_wp2_with fail
  have Hb4 := Lib.hid (hb02.out.alloc (Nat.le_of_lt hsz2) (.cells #[.int .u8 86] 5))
  go_loopw [6, 32] (fun v6 v32 wr => ∃ k : Nat, k ≤ 5 ∧ v32 = .int .i64 (k : Nat) ∧ v6 = .string (str (outTo ⟨g, p, m, c, n, t⟩ k)) ∧ Below w.heap.size w wr) (fun _ v32 _ => 5 - (intOf v32).toNat)
  case atStart => exact ⟨0, by omega, rfl, by rw [Hout0.out], Hb4.out⟩
  case round =>
    clear k0 k1 k2 k3 k4 k5 e0 e1 e2 e3 e4 e5 hcv hz1
    obtain ⟨k, hk, rfl, rfl, hbe⟩ := hrel
    have hk5 : k = 0 ∨ k = 1 ∨ k = 2 ∨ k = 3 ∨ k = 4 ∨ k = 5 := by omega
    clear hk
    rcases hk5 with rfl | rfl | rfl | rfl | rfl | rfl
    · have hix : ∀ W, (Instr.index 70 (.agg #[.int .i64 p, .int .i64 m, .int .i64 c, .int .i64 n, .int .i64 t]) (.int .i64 0)).run Tryd.prog W = .ok (.int .i64 p) W := fun _ => by kernel_rfl
      have HP := Lib.hid (HPN.out p p.toNat Hp0.out (hnat.out _ (by simp [nats])))
      have Hcat := Lib.hid (Hstep.out 0 p.toNat hnx.out.1)
      have hq1 : (str (outTo ⟨g, p, m, c, n, t⟩ 0)).size ≤ 22 := hl5.out 0
      have hq2 : (str (Nm.nput p.toNat)).size ≤ 3 := nput_short _ (hnat.out _ (by simp [nats]))
      generalize str (outTo ⟨g, p, m, c, n, t⟩ 0) = O at *
      generalize str (Nm.nput p.toNat) = Z at *
      go_wp2_with fail
      refine (HP.out _).mono ?_
      rintro e w5 ⟨rfl, hb5⟩
      go_wp2_with fail
      go_roundw
      case rel => exact ⟨1, by omega, rfl, by rw [Hcat.out], hbe.trans (hb5.mono hbe.size)⟩
      case measure => simp [intOf]
    · have hix : ∀ W, (Instr.index 70 (.agg #[.int .i64 p, .int .i64 m, .int .i64 c, .int .i64 n, .int .i64 t]) (.int .i64 1)).run Tryd.prog W = .ok (.int .i64 m) W := fun _ => by kernel_rfl
      have HP := Lib.hid (HPN.out m m.toNat Hm0.out (hnat.out _ (by simp [nats])))
      have Hcat := Lib.hid (Hstep.out 1 m.toNat hnx.out.2.1)
      have hq1 : (str (outTo ⟨g, p, m, c, n, t⟩ 1)).size ≤ 22 := hl5.out 1
      have hq2 : (str (Nm.nput m.toNat)).size ≤ 3 := nput_short _ (hnat.out _ (by simp [nats]))
      generalize str (outTo ⟨g, p, m, c, n, t⟩ 1) = O at *
      generalize str (Nm.nput m.toNat) = Z at *
      go_wp2_with fail
      refine (HP.out _).mono ?_
      rintro e w5 ⟨rfl, hb5⟩
      go_wp2_with fail
      go_roundw
      case rel => exact ⟨2, by omega, rfl, by rw [Hcat.out], hbe.trans (hb5.mono hbe.size)⟩
      case measure => simp [intOf]
    · have hix : ∀ W, (Instr.index 70 (.agg #[.int .i64 p, .int .i64 m, .int .i64 c, .int .i64 n, .int .i64 t]) (.int .i64 2)).run Tryd.prog W = .ok (.int .i64 c) W := fun _ => by kernel_rfl
      have HP := Lib.hid (HPN.out c c.toNat Hc0.out (hnat.out _ (by simp [nats])))
      have Hcat := Lib.hid (Hstep.out 2 c.toNat hnx.out.2.2.1)
      have hq1 : (str (outTo ⟨g, p, m, c, n, t⟩ 2)).size ≤ 22 := hl5.out 2
      have hq2 : (str (Nm.nput c.toNat)).size ≤ 3 := nput_short _ (hnat.out _ (by simp [nats]))
      generalize str (outTo ⟨g, p, m, c, n, t⟩ 2) = O at *
      generalize str (Nm.nput c.toNat) = Z at *
      go_wp2_with fail
      refine (HP.out _).mono ?_
      rintro e w5 ⟨rfl, hb5⟩
      go_wp2_with fail
      go_roundw
      case rel => exact ⟨3, by omega, rfl, by rw [Hcat.out], hbe.trans (hb5.mono hbe.size)⟩
      case measure => simp [intOf]
    · have hix : ∀ W, (Instr.index 70 (.agg #[.int .i64 p, .int .i64 m, .int .i64 c, .int .i64 n, .int .i64 t]) (.int .i64 3)).run Tryd.prog W = .ok (.int .i64 n) W := fun _ => by kernel_rfl
      have HP := Lib.hid (HPN.out n n.toNat Hn0.out (hnat.out _ (by simp [nats])))
      have Hcat := Lib.hid (Hstep.out 3 n.toNat hnx.out.2.2.2.1)
      have hq1 : (str (outTo ⟨g, p, m, c, n, t⟩ 3)).size ≤ 22 := hl5.out 3
      have hq2 : (str (Nm.nput n.toNat)).size ≤ 3 := nput_short _ (hnat.out _ (by simp [nats]))
      generalize str (outTo ⟨g, p, m, c, n, t⟩ 3) = O at *
      generalize str (Nm.nput n.toNat) = Z at *
      go_wp2_with fail
      refine (HP.out _).mono ?_
      rintro e w5 ⟨rfl, hb5⟩
      go_wp2_with fail
      go_roundw
      case rel => exact ⟨4, by omega, rfl, by rw [Hcat.out], hbe.trans (hb5.mono hbe.size)⟩
      case measure => simp [intOf]
    · have hix : ∀ W, (Instr.index 70 (.agg #[.int .i64 p, .int .i64 m, .int .i64 c, .int .i64 n, .int .i64 t]) (.int .i64 4)).run Tryd.prog W = .ok (.int .i64 t) W := fun _ => by kernel_rfl
      have HP := Lib.hid (HPN.out t t.toNat Ht0.out (hnat.out _ (by simp [nats])))
      have Hcat := Lib.hid (Hstep.out 4 t.toNat hnx.out.2.2.2.2)
      have hq1 : (str (outTo ⟨g, p, m, c, n, t⟩ 4)).size ≤ 22 := hl5.out 4
      have hq2 : (str (Nm.nput t.toNat)).size ≤ 3 := nput_short _ (hnat.out _ (by simp [nats]))
      generalize str (outTo ⟨g, p, m, c, n, t⟩ 4) = O at *
      generalize str (Nm.nput t.toNat) = Z at *
      go_wp2_with fail
      refine (HP.out _).mono ?_
      rintro e w5 ⟨rfl, hb5⟩
      go_wp2_with fail
      go_roundw
      case rel => exact ⟨5, by omega, rfl, by rw [Hcat.out], hbe.trans (hb5.mono hbe.size)⟩
      case measure => simp [intOf]
    · have hq1 : (str (outTo ⟨g, p, m, c, n, t⟩ 5)).size = (outTo ⟨g, p, m, c, n, t⟩ 5).length := rfl
      have hfin : (str (closed (str (outTo ⟨g, p, m, c, n, t⟩ 5) ++ str (noughts (118 - (outTo ⟨g, p, m, c, n, t⟩ 5).length))).data.toList)) ++ X = str (rec9 ⟨g, p, m, c, n, t⟩) := by
        rw [str_app, str_list, ← HX.out, str_app, Hrec.out]
      have Hfin := Lib.hid hfin
      have hq2 : (str (noughts (118 - (outTo ⟨g, p, m, c, n, t⟩ 5).length))).size ≤ 118 := by rw [str_size, noughts_len]; omega
      have hq3 : (str (outTo ⟨g, p, m, c, n, t⟩ 5) ++ str (noughts (118 - (outTo ⟨g, p, m, c, n, t⟩ 5).length))).size ≤ 118 := by rw [ByteArray.size_append, str_size, str_size, noughts_len]; omega
      have hq4 : (str (closed (str (outTo ⟨g, p, m, c, n, t⟩ 5) ++ str (noughts (118 - (outTo ⟨g, p, m, c, n, t⟩ 5).length))).data.toList)).size ≤ 122 := by
        rw [str_size]
        unfold closed
        rw [List.length_append]
        have : (str (outTo ⟨g, p, m, c, n, t⟩ 5) ++ str (noughts (118 - (outTo ⟨g, p, m, c, n, t⟩ 5).length))).data.toList.length ≤ 118 := by simpa using hq3
        simp only [tail4, List.length_cons, List.length_nil]
        omega
      have hrep : (⟨(Lib.repeatL (⟨#[0]⟩ : ByteArray).data.toList (118 - (outTo ⟨g, p, m, c, n, t⟩ 5).length)).toArray⟩ : ByteArray) = str (noughts (118 - (outTo ⟨g, p, m, c, n, t⟩ 5).length)) := congrArg str (repeat_noughts _)
      have HR := Lib.hid (fun w => Tryd.strings_Repeat ⟨#[0]⟩ (118 - (outTo ⟨g, p, m, c, n, t⟩ 5).length) w (by omega) (by show 1 * (118 - (outTo ⟨g, p, m, c, n, t⟩ 5).length) ≤ _; omega))
      rw [hrep] at HR
      rw [show ((118 - (outTo ⟨g, p, m, c, n, t⟩ 5).length : Nat) : Int) = 118 - ((outTo ⟨g, p, m, c, n, t⟩ 5).length : Int) by omega] at HR
      have HCl := Lib.hid (fun w => close_any (str (outTo ⟨g, p, m, c, n, t⟩ 5) ++ str (noughts (118 - (outTo ⟨g, p, m, c, n, t⟩ 5).length))) w (by omega))
      clear hfin hrep
      generalize str (noughts (118 - (outTo ⟨g, p, m, c, n, t⟩ 5).length)) = Z at *
      generalize (outTo ⟨g, p, m, c, n, t⟩ 5).length = L at *
      generalize str (outTo ⟨g, p, m, c, n, t⟩ 5) = O at *
      generalize str (closed (O ++ Z).data.toList) = V at *
      go_wp2_with fail
      refine (HR.out _).mono ?_
      rintro e w5 ⟨rfl, hb5⟩
      go_wp2_with fail
      refine (HCl.out _).mono ?_
      rintro e w6 ⟨rfl, hb6⟩
      go_wp2_with fail
      go_ret2
      have q1 := hbe.trans (hb5.mono hbe.size)
      exact ⟨by rw [← Hfin.out]; rfl, q1.trans (hb6.mono q1.size)⟩

set_option maxRecDepth 100000 in
theorem put_no (r : Rt) (w : World) (h : ¬ Ok r) :
    Calls Tryd.prog 29 #[.agg (rtV r)] w fun e w' => e = .returned (.tuple #[.string ⟨#[]⟩, .int .i64 2]) ∧ Below w.heap.size w w' := by
  have HC := Lib.hid (fun w => check_no r w h)
  clear h
  obtain ⟨g, p, m, c, n, t⟩ := r
  simp only [rtV] at *
  go_enter Tryd.func29, Tryd.ntmps29
  go_wp2_with fail
  refine (HC.out _).mono ?_
  rintro e w1 ⟨rfl, hb1⟩
  go_wp2_with fail
  go_ret2
  exact ⟨rfl, ((Below.refl _ _).alloc (Nat.le_refl _) _).trans (hb1.mono (by simp))⟩

end Go.Proofs.YtpgmbpjjefecdaaDoor.Sl
