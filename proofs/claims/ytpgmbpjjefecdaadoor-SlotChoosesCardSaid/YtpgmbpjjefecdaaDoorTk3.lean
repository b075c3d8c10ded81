/- Layer 9, contracts: the function that reads a record's numbers. -/
import Derived.Test.YtpgmbpjjefecdaaDoorTk2
import Derived.Test.YtpgmbpjjefecdaaDoorPg3
namespace Go.Proofs.YtpgmbpjjefecdaaDoor.Tk
open Go.RowKit Base Crc Txt Plain
set_option linter.unusedVariables false

/-- the five numbers of a record, and where the reading is then -/
def five (l : List UInt8) : Option ((Nat × Nat × Nat × Nat × Nat) × Nat) :=
  match numOk l 0 2047 with
  | none => none
  | some (p, a1) => match numOk l a1 2047 with
    | none => none
    | some (m, a2) => match numOk l a2 1048576 with
      | none => none
      | some (c, a3) => match numOk l a3 1048576 with
        | none => none
        | some (n, a4) => match numOk l a4 1048576 with
          | none => none
          | some (t, a5) => some ((p, m, c, n, t), a5)
def body? (l : List UInt8) : Option (Nat × Nat × Nat × Nat × Nat) := match five l with
  | none => none
  | some (x, a) => if l.drop a = Pg.noughts (l.length - a) then some x else none

abbrev rootV (x : Nat × Nat × Nat × Nat × Nat) : Array Value := #[.int .i64 0, .int .i64 (x.1 : Nat), .int .i64 (x.2.1 : Nat), .int .i64 (x.2.2.1 : Nat), .int .i64 (x.2.2.2.1 : Nat), .int .i64 (x.2.2.2.2 : Nat)]
/-- what the reading leaves -/
def ReadOut (g gx : Nat) (l : List UInt8) (w : World) (e : Ending) (w' : World) : Prop :=
  Turn (fun k => k = g ∨ k = gx) w w' ∧ ((∃ x, body? l = some x ∧ e = .returned (.tuple #[]) ∧ Rd w' g l l.length ∧ Box w' gx 47 (rootV x)) ∨
    (body? l = none ∧ ∃ y b x, y ≠ 0 ∧ e = .panicked [{ v := fault y, recovered := false }] ∧ Rd w' g l b ∧ Box w' gx 47 (rootV x)))

theorem Box.six {w : World} {g : Nat} {t : TypeId} {a b c d e f : Value} (h : Box w g t #[a, b, c, d, e, f]) :
    (w.cell? ⟨g, 0, none⟩ = some a ∧ w.cell? ⟨g, 1, none⟩ = some b ∧ w.cell? ⟨g, 2, none⟩ = some c ∧ w.cell? ⟨g, 3, none⟩ = some d ∧ w.cell? ⟨g, 4, none⟩ = some e ∧ w.cell? ⟨g, 5, none⟩ = some f) ∧
    (w.frozen? ⟨g, 0, none⟩ = false ∧ w.frozen? ⟨g, 1, none⟩ = false ∧ w.frozen? ⟨g, 2, none⟩ = false ∧ w.frozen? ⟨g, 3, none⟩ = false ∧ w.frozen? ⟨g, 4, none⟩ = false ∧ w.frozen? ⟨g, 5, none⟩ = false) :=
  ⟨⟨h.cell 0, h.cell 1, h.cell 2, h.cell 3, h.cell 4, h.cell 5⟩, ⟨h.free 0, h.free 1, h.free 2, h.free 3, h.free 4, h.free 5⟩⟩

set_option maxRecDepth 100000 in
set_option maxHeartbeats 2000000 in
theorem read_any (g gx : Nat) (l : List UInt8) (w : World) (h : Rd w g l 0) (hl : l.length ≤ 1000000) (hx : Box w gx 47 (rootV (0, 0, 0, 0, 0))) (hne : g ≠ gx) :
    Calls Tryd.prog 50 #[.pointer (some ⟨g, 0, none⟩), .pointer (some ⟨gx, 0, none⟩)] w (ReadOut g gx l w) := by
  have hmf : ∀ (fn : Fn) (first cap : Array Value) (w : World), (Instr.makeFunc fn first cap).run Tryd.prog w = .ok (.func fn first cap) w := fun _ _ _ _ => rfl
  have H2 := Lib.hid (show ∀ a W, Rd W g l a → a ≤ l.length → Calls Tryd.prog 51 #[.pointer (some ⟨g, 0, none⟩), .int .i64 2047] W (NmOut g l a 2047 W) from fun a W hW ha => num_any g l a 2047 W hW ha hl (by omega))
  have H1 := Lib.hid (show ∀ a W, Rd W g l a → a ≤ l.length → Calls Tryd.prog 51 #[.pointer (some ⟨g, 0, none⟩), .int .i64 1048576] W (NmOut g l a 1048576 W) from fun a W hW ha => num_any g l a 1048576 W hW ha hl (by omega))
  have hQ : ∀ e w', Turn (fun k => k = g ∨ k = gx) w w' → ((∃ x, body? l = some x ∧ e = .returned (.tuple #[]) ∧ Rd w' g l l.length ∧ Box w' gx 47 (rootV x)) ∨
    (body? l = none ∧ ∃ y b x, y ≠ 0 ∧ e = .panicked [{ v := fault y, recovered := false }] ∧ Rd w' g l b ∧ Box w' gx 47 (rootV x))) → ReadOut g gx l w e w' := fun e w' h1 h2 => ⟨h1, h2⟩
  have HQ := Lib.hid hQ
  have Hb0 := Lib.hid (show body? l = match five l with
    | none => none
    | some (x, a) => if l.drop a = Pg.noughts (l.length - a) then some x else none from rfl)
  clear hQ
  generalize hQ : ReadOut g gx l w = Q at *
  clear hQ
  have Hne := Lib.hid hne
  have R0 := Lib.hid h
  have X0 := Lib.hid hx
  have T0 := Lib.hid (Turn.refl (fun k => k = g ∨ k = gx) w)
  have l0 : 0 ≤ l.length := Nat.zero_le _
  clear h hx hne
  go_enter Tryd.func50, Tryd.ntmps50
  go_wp2_with fail
  refine (H2.out 0 _ R0.out l0).mono ?_
  rintro e w1 ⟨ht1, ⟨p, a1, h1, rfl, r1⟩ | ⟨h1, y, b, hy, rfl, r1⟩⟩
  rotate_left
  · have hq := Lib.hid (HQ.out (.panicked [{ v := fault y, recovered := false }]) w1 (T0.out.trans (ht1.more (fun k hk => .inl hk))) (.inr ⟨by
      rw [Hb0.out]
      have : five l = none := by
        unfold five
        simp only [h1]
      rw [this], y, b, _, hy, rfl, r1, X0.out.turn ht1 (fun e => Hne.out e.symm)⟩))
    clear ht1 h1 r1
    go_wp2_with fail
    exact ⟨rfl, hq.out⟩
  have e1 := Lib.hid h1
  have R1 := Lib.hid r1
  have l1 := (numOk_le l0 h1).1
  have n1 := (numOk_le l0 h1).2
  have X1 := Lib.hid (X0.out.turn ht1 (fun e => Hne.out e.symm))
  have T1 := Lib.hid (T0.out.trans (ht1.more (fun k hk => .inl hk)))
  clear ht1 h1 r1
  go_wp2_with fail
  refine (H2.out a1 _ R1.out l1).mono ?_
  rintro e w2 ⟨ht2, ⟨m, a2, h2, rfl, r2⟩ | ⟨h2, y, b, hy, rfl, r2⟩⟩
  rotate_left
  · have hq := Lib.hid (HQ.out (.panicked [{ v := fault y, recovered := false }]) w2 (T1.out.trans (ht2.more (fun k hk => .inl hk))) (.inr ⟨by
      rw [Hb0.out]
      have : five l = none := by
        unfold five
        simp only [e1.out, h2]
      rw [this], y, b, _, hy, rfl, r2, X1.out.turn ht2 (fun e => Hne.out e.symm)⟩))
    clear ht2 h2 r2
    go_wp2_with fail
    exact ⟨rfl, hq.out⟩
  have e2 := Lib.hid h2
  have R2 := Lib.hid r2
  have l2 := (numOk_le l1 h2).1
  have n2 := (numOk_le l1 h2).2
  have X2 := Lib.hid (X1.out.turn ht2 (fun e => Hne.out e.symm))
  have T2 := Lib.hid (T1.out.trans (ht2.more (fun k hk => .inl hk)))
  clear ht2 h2 r2
  go_wp2_with fail
  refine (H1.out a2 _ R2.out l2).mono ?_
  rintro e w3 ⟨ht3, ⟨c, a3, h3, rfl, r3⟩ | ⟨h3, y, b, hy, rfl, r3⟩⟩
  rotate_left
  · have hq := Lib.hid (HQ.out (.panicked [{ v := fault y, recovered := false }]) w3 (T2.out.trans (ht3.more (fun k hk => .inl hk))) (.inr ⟨by
      rw [Hb0.out]
      have : five l = none := by
        unfold five
        simp only [e1.out, e2.out, h3]
      rw [this], y, b, _, hy, rfl, r3, X2.out.turn ht3 (fun e => Hne.out e.symm)⟩))
    clear ht3 h3 r3
    go_wp2_with fail
    exact ⟨rfl, hq.out⟩
  have e3 := Lib.hid h3
  have R3 := Lib.hid r3
  have l3 := (numOk_le l2 h3).1
  have n3 := (numOk_le l2 h3).2
  have X3 := Lib.hid (X2.out.turn ht3 (fun e => Hne.out e.symm))
  have T3 := Lib.hid (T2.out.trans (ht3.more (fun k hk => .inl hk)))
  clear ht3 h3 r3
  go_wp2_with fail
  refine (H1.out a3 _ R3.out l3).mono ?_
  rintro e w4 ⟨ht4, ⟨n, a4, h4, rfl, r4⟩ | ⟨h4, y, b, hy, rfl, r4⟩⟩
  rotate_left
  · have hq := Lib.hid (HQ.out (.panicked [{ v := fault y, recovered := false }]) w4 (T3.out.trans (ht4.more (fun k hk => .inl hk))) (.inr ⟨by
      rw [Hb0.out]
      have : five l = none := by
        unfold five
        simp only [e1.out, e2.out, e3.out, h4]
      rw [this], y, b, _, hy, rfl, r4, X3.out.turn ht4 (fun e => Hne.out e.symm)⟩))
    clear ht4 h4 r4
    go_wp2_with fail
    exact ⟨rfl, hq.out⟩
  have e4 := Lib.hid h4
  have R4 := Lib.hid r4
  have l4 := (numOk_le l3 h4).1
  have n4 := (numOk_le l3 h4).2
  have X4 := Lib.hid (X3.out.turn ht4 (fun e => Hne.out e.symm))
  have T4 := Lib.hid (T3.out.trans (ht4.more (fun k hk => .inl hk)))
  clear ht4 h4 r4
  go_wp2_with fail
  refine (H1.out a4 _ R4.out l4).mono ?_
  rintro e w5 ⟨ht5, ⟨t, a5, h5, rfl, r5⟩ | ⟨h5, y, b, hy, rfl, r5⟩⟩
  rotate_left
  · have hq := Lib.hid (HQ.out (.panicked [{ v := fault y, recovered := false }]) w5 (T4.out.trans (ht5.more (fun k hk => .inl hk))) (.inr ⟨by
      rw [Hb0.out]
      have : five l = none := by
        unfold five
        simp only [e1.out, e2.out, e3.out, e4.out, h5]
      rw [this], y, b, _, hy, rfl, r5, X4.out.turn ht5 (fun e => Hne.out e.symm)⟩))
    clear ht5 h5 r5
    go_wp2_with fail
    exact ⟨rfl, hq.out⟩
  have e5 := Lib.hid h5
  have R5 := Lib.hid r5
  have l5 := (numOk_le l4 h5).1
  have n5 := (numOk_le l4 h5).2
  have X5 := Lib.hid (X4.out.turn ht5 (fun e => Hne.out e.symm))
  have T5 := Lib.hid (T4.out.trans (ht5.more (fun k hk => .inl hk)))
  clear ht5 h5 r5
  have Hfive := Lib.hid (show five l = some ((p, m, c, n, t), a5) by
    unfold five
    simp only [e1.out, e2.out, e3.out, e4.out, e5.out])
  obtain ⟨⟨c0, c1, c2, c3, c4, c5⟩, ⟨f0, f1, f2, f3, f4, f5⟩⟩ := Box.six X5.out
  go_wp2_with fail
  have R6 : Rd ((((((w5.setCell ⟨gx, 0, none⟩ (.int .i64 0)).setCell ⟨gx, 1, none⟩ (.int .i64 (p : Nat))).setCell ⟨gx, 2, none⟩ (.int .i64 (m : Nat))).setCell ⟨gx, 3, none⟩ (.int .i64 (c : Nat))).setCell ⟨gx, 4, none⟩ (.int .i64 (n : Nat))).setCell ⟨gx, 5, none⟩ (.int .i64 (t : Nat))) g l a5 :=
    (((((Box.far R5.out (p := ⟨gx, 0, none⟩) Hne.out _).far (p := ⟨gx, 1, none⟩) Hne.out _).far (p := ⟨gx, 2, none⟩) Hne.out _).far (p := ⟨gx, 3, none⟩) Hne.out _).far (p := ⟨gx, 4, none⟩) Hne.out _).far (p := ⟨gx, 5, none⟩) Hne.out _
  have X6 : Box ((((((w5.setCell ⟨gx, 0, none⟩ (.int .i64 0)).setCell ⟨gx, 1, none⟩ (.int .i64 (p : Nat))).setCell ⟨gx, 2, none⟩ (.int .i64 (m : Nat))).setCell ⟨gx, 3, none⟩ (.int .i64 (c : Nat))).setCell ⟨gx, 4, none⟩ (.int .i64 (n : Nat))).setCell ⟨gx, 5, none⟩ (.int .i64 (t : Nat))) gx 47 (rootV (p, m, c, n, t)) := by
    have := (((((X5.out.set 0 (.int .i64 0)).set 1 (.int .i64 (p : Nat))).set 2 (.int .i64 (m : Nat))).set 3 (.int .i64 (c : Nat))).set 4 (.int .i64 (n : Nat))).set 5 (.int .i64 (t : Nat))
    exact this
  have T6 : Turn (fun k => k = g ∨ k = gx) w ((((((w5.setCell ⟨gx, 0, none⟩ (.int .i64 0)).setCell ⟨gx, 1, none⟩ (.int .i64 (p : Nat))).setCell ⟨gx, 2, none⟩ (.int .i64 (m : Nat))).setCell ⟨gx, 3, none⟩ (.int .i64 (c : Nat))).setCell ⟨gx, 4, none⟩ (.int .i64 (n : Nat))).setCell ⟨gx, 5, none⟩ (.int .i64 (t : Nat))) :=
    (((((T5.out.trans (.set _ _ _ (.inr rfl))).trans (.set _ _ _ (.inr rfl))).trans (.set _ _ _ (.inr rfl))).trans (.set _ _ _ (.inr rfl))).trans (.set _ _ _ (.inr rfl))).trans (.set _ _ _ (.inr rfl))
  have HR6 := Lib.hid R6
  have HX6 := Lib.hid X6
  have HT6 := Lib.hid T6
  clear R6 X6 T6 c0 c1 c2 c3 c4 c5 f0 f1 f2 f3 f4 f5
  generalize (((((w5.setCell ⟨gx, 0, none⟩ (.int .i64 0)).setCell ⟨gx, 1, none⟩ (.int .i64 (p : Nat))).setCell ⟨gx, 2, none⟩ (.int .i64 (m : Nat))).setCell ⟨gx, 3, none⟩ (.int .i64 (c : Nat))).setCell ⟨gx, 4, none⟩ (.int .i64 (n : Nat))).setCell ⟨gx, 5, none⟩ (.int .i64 (t : Nat)) = w6 at *
  refine (left_any g l a5 w6 HR6.out l5 hl).mono ?_
  rintro e w7 ⟨rfl, nq, rfl⟩
  have HR7 := Lib.hid (HR6.out.drewN nq)
  have HX7 := Lib.hid (HX6.out.drewN nq)
  have HT7 := Lib.hid (HT6.out.drewN nq)
  generalize w6.drewN nq = w7 at *
  have HFx := Lib.hid (fix_rest g l a5 w7 HR7.out l5 hl)
  have hds : (str (l.drop a5)).size ≤ 1000000 := by rw [str_size, List.length_drop]; omega
  have HTr := Lib.hid (fun w => Tryd.strings_Trim_one (str (l.drop a5)) 0 (by decide) w (by omega))
  rw [show (str (l.drop a5)).data.toList = l.drop a5 from rfl] at HTr
  have htr := Lib.hid (Pg.trim_noughts (l.drop a5))
  rw [List.length_drop] at htr
  have Hbd := Lib.hid (show body? l = if l.drop a5 = Pg.noughts (l.length - a5) then some (p, m, c, n, t) else none by rw [Hb0.out, Hfive.out])
  clear hds
  generalize str (l.drop a5) = D at *
  generalize l.length - a5 = dd at *
  go_wp2_with fail
  refine HFx.out.mono ?_
  rintro e w8 ⟨rfl, ht8, hr8⟩
  have HR8 := Lib.hid hr8
  have HX8 := Lib.hid (HX7.out.turn ht8 (fun e => Hne.out e.symm))
  have HT8 := Lib.hid (HT7.out.trans (ht8.more (fun k hk => .inl hk)))
  clear ht8 hr8
  go_wp2_with fail
  refine (HTr.out _).mono ?_
  rintro e w9 ⟨rfl, hw9⟩
  have h9 : Rd w9 g l l.length ∧ Box w9 gx 47 (rootV (p, m, c, n, t)) ∧ Turn (fun k => k = g ∨ k = gx) w w9 := by
    rcases hw9 with rfl | rfl
    · exact ⟨HR8.out, HX8.out, HT8.out⟩
    · exact ⟨HR8.out, HX8.out, HT8.out.drew⟩
  have HR9 := Lib.hid h9.1
  have HX9 := Lib.hid h9.2.1
  have HT9 := Lib.hid h9.2.2
  clear hw9 h9
  by_cases hz : Lib.trimB (l.drop a5) 0 = []
  · have hb := Hbd.out
    rw [if_pos (htr.out.1 hz)] at hb
    have HB := Lib.hid hb
    rw [hz]
    clear hz hb
    go_wp2_with fail
    refine (want_yes g l l.length 3 w9 HR9.out).mono ?_
    rintro e w' ⟨rfl, rfl⟩
    go_wp2_with fail
    go_end0
    exact HQ.out _ _ HT9.out (.inl ⟨_, HB.out, rfl, HR9.out, HX9.out⟩)
  · have hb := Hbd.out
    rw [if_neg (fun hh => hz (htr.out.2 hh))] at hb
    have HB := Lib.hid hb
    obtain ⟨x, r, hT⟩ := List.exists_cons_of_ne_nil hz
    rw [hT]
    clear hz hb hT
    go_wp2_with fail
    refine (want_no g l l.length w9 HR9.out).mono ?_
    rintro e w' ⟨rfl, rfl⟩
    go_wp2_with fail
    exact ⟨rfl, HQ.out _ _ HT9.out (.inr ⟨HB.out, 3, _, _, by decide, rfl, HR9.out, HX9.out⟩)⟩

end Go.Proofs.YtpgmbpjjefecdaaDoor.Tk
