/- Layer 4, contracts: a reader's calls. -/
import Derived.Test.YtpgmbpjjefecdaaDoorNm4
import Derived.Test.YtpgmbpjjefecdaaDoorTurn
import Derived.Deep.RegionHeld3
namespace Go.Proofs.YtpgmbpjjefecdaaDoor.Tk
open Go.RowKit Base Crc Txt Plain
set_option linter.unusedVariables false

/-- a reading that goes on: its bytes, and how many were read -/
def Rd (w : World) (g : Nat) (l : List UInt8) (at_ : Nat) : Prop := Box w g 108 #[.string (str l), .int .i64 (at_ : Nat), .bool true]
def fault (x : Int) : Value := .iface 110 (.agg #[.int .i64 x])
theorem Rd.cells {w : World} {g : Nat} {l : List UInt8} {a : Nat} (h : Rd w g l a) : w.cell? ⟨g, 0, none⟩ = some (.string (str l)) ∧ w.cell? ⟨g, 1, none⟩ = some (.int .i64 (a : Nat)) ∧ w.cell? ⟨g, 2, none⟩ = some (.bool true) ∧ w.frozen? ⟨g, 0, none⟩ = false ∧ w.frozen? ⟨g, 1, none⟩ = false ∧ w.frozen? ⟨g, 2, none⟩ = false := Box.three h
theorem Rd.under {w w' : World} {g : Nat} {l : List UInt8} {a : Nat} (h : Rd w g l a) (hb : Below w.heap.size w w') : Rd w' g l a := Box.under h hb
theorem Rd.drewN {w : World} {g : Nat} {l : List UInt8} {a : Nat} (h : Rd w g l a) (n : Nat) : Rd (w.drewN n) g l a := h
theorem Rd.go {w : World} {g : Nat} {l : List UInt8} {a : Nat} (h : Rd w g l a) (b : Nat) : Rd (w.setCell ⟨g, 1, none⟩ (.int .i64 (b : Nat))) g l b := Box.set h 1 _

theorem fail_any (r : Value) (x : Int) (w : World) :
    Calls Tryd.prog 80 #[r, .int .i64 x] w fun e w' => e = .panicked [{ v := fault x, recovered := false }] ∧ w = w' := by
  go_enter Tryd.func80, Tryd.ntmps80
  go_wp2_with fail
  exact ⟨rfl, rfl, rfl⟩

theorem on_any (g : Nat) (l : List UInt8) (a : Nat) (w : World) (h : Rd w g l a) :
    Calls Tryd.prog 78 #[.pointer (some ⟨g, 0, none⟩)] w fun e w' => e = .returned (.bool true) ∧ w = w' := by
  obtain ⟨c0, c1, c2, f0, f1, f2⟩ := Rd.cells h
  clear h
  go_enter Tryd.func78, Tryd.ntmps78
  go_wp2_with fail
  go_ret
  exact ⟨rfl, rfl⟩

set_option maxRecDepth 100000 in
set_option maxHeartbeats 1000000 in
theorem left_any (g : Nat) (l : List UInt8) (a : Nat) (w : World) (h : Rd w g l a) (ha : a ≤ l.length) (hl : l.length ≤ 1000000) :
    Calls Tryd.prog 54 #[.pointer (some ⟨g, 0, none⟩)] w fun e w' => e = .returned (.int .i64 ((l.length - a : Nat) : Int)) ∧ ∃ n, w' = w.drewN n := by
  obtain ⟨c0, c1, c2, f0, f1, f2⟩ := Rd.cells h
  have HO := Lib.hid (on_any g l a w h)
  have hsz : (str l).size = l.length := rfl
  have hw1 : IntKind.i64.wrap ((l.length : Int) - (a : Int)) = ((l.length - a : Nat) : Int) := by rw [IntWalk.i64_in _ (by omega)]; omega
  rw [← hsz] at hw1 ⊢
  have Hsz := Lib.hid hsz
  clear h hsz
  generalize str l = S at *
  generalize hD : S.size - a = D at *
  clear hD
  go_enter Tryd.func54, Tryd.ntmps54
  go_wp2_with fail
  refine HO.out.mono ?_
  rintro e w' ⟨rfl, rfl⟩
  go_wp2_with fail
  go_quiet (fail)
  go_wp2_with fail
  go_ret
  exact ⟨rfl, _, rfl⟩

/-- Number read, or the reading ended -/
def NumOut (g : Nat) (l : List UInt8) (a : Nat) (w : World) (e : Ending) (w' : World) : Prop :=
  Turn (· = g) w w' ∧ ((∃ n z, Nm.ntake (l.drop a) = some (n, z) ∧ e = .returned (.int .u64 (n : Nat)) ∧ Rd w' g l (a + z)) ∨ (Nm.ntake (l.drop a) = none ∧ e = .panicked [{ v := fault 3, recovered := false }] ∧ Rd w' g l a))

set_option maxRecDepth 100000 in
set_option maxHeartbeats 1000000 in
theorem number_any (g : Nat) (l : List UInt8) (a : Nat) (w : World) (h : Rd w g l a) (ha : a ≤ l.length) (hl : l.length ≤ 1000000) :
    Calls Tryd.prog 79 #[.pointer (some ⟨g, 0, none⟩)] w (NumOut g l a w) := by
  obtain ⟨c0, c1, c2, f0, f1, f2⟩ := Rd.cells h
  have hgw : g < w.heap.size := Box.lt h
  have H := Lib.hid h
  have hsl : ∀ W, (Instr.slice 9 (.string (str l)) (some (.int .i64 (a : Int))) none none).run Tryd.prog W = .ok (.string (str (l.drop a))) W := cut_from l a a rfl ha
  have hds : (str (l.drop a)).size ≤ 1000000 := by rw [str_size, List.length_drop]; omega
  have HQ := Lib.hid (show ∀ e w', Turn (· = g) w w' → ((∃ n z, Nm.ntake (l.drop a) = some (n, z) ∧ e = .returned (.int .u64 (n : Nat)) ∧ Rd w' g l (a + z)) ∨ (Nm.ntake (l.drop a) = none ∧ e = .panicked [{ v := fault 3, recovered := false }] ∧ Rd w' g l a)) → NumOut g l a w e w' from fun e w' h1 h2 => ⟨h1, h2⟩)
  generalize hQ : NumOut g l a w = Q at *
  clear hQ h
  rcases hnt : Nm.ntake (l.drop a) with _ | ⟨n, z⟩
  · have HT := Lib.hid (fun w => Nm.take_no (str (l.drop a)) w hds (by rw [str_list]; exact hnt))
    unfold Nm.tnone at HT
    have Hnt := Lib.hid hnt
    clear hnt
    generalize str (l.drop a) = D at *
    have HF := Lib.hid (fun w => fail_any (.pointer (some ⟨g, 0, none⟩)) 3 w)
    go_enter Tryd.func79, Tryd.ntmps79
    go_wp2_with fail
    go_region_held3 (fun w' => w'.cell? ⟨g, 0, none⟩ = some (.string (str l)) ∧ w'.cell? ⟨g, 1, none⟩ = some (.int .i64 (a : Int)) ∧ Below w.heap.size w w')
      (first
        | exact ⟨c0, c1, (Below.refl _ _).drew⟩
        | exact ⟨(hb1.cell (p := ⟨g, 0, none⟩) hgw).trans c0, (hb1.cell (p := ⟨g, 1, none⟩) hgw).trans c1, hb1⟩)
      ((go_at_call 96; refine (HT.out _).mono ?_; rintro e w1 ⟨rfl, hb0⟩; have hb1 : Below w.heap.size w w1 := (Below.refl _ _).drew.trans (hb0.mono (Nat.le_refl _)); clear hb0))
    go_wp2_with fail
    refine (HF.out _).mono ?_
    rintro e w' ⟨rfl, rfl⟩
    go_wp2_with fail
    exact ⟨rfl, HQ.out _ _ (.below hb1) (.inr ⟨Hnt.out, rfl, H.out.under hb1⟩)⟩
  · have HT := Lib.hid (fun w => Nm.take_yes (str (l.drop a)) n z w hds (by rw [str_list]; exact hnt))
    have hz : z ≤ 9 := by
      unfold Nm.ntake at hnt
      split at hnt
      · cases hnt
      · split at hnt
        · cases hnt
        · split at hnt
          · injection hnt with hnt
            injection hnt with _ e2
            rw [← e2]
            have := Nm.ones_bd ((l.drop a).getD 0 0).toNat
            omega
          · cases hnt
    have Hnt := Lib.hid hnt
    clear hnt
    generalize str (l.drop a) = D at *
    go_enter Tryd.func79, Tryd.ntmps79
    go_wp2_with fail
    go_region_held3 (fun w' => w'.cell? ⟨g, 0, none⟩ = some (.string (str l)) ∧ w'.cell? ⟨g, 1, none⟩ = some (.int .i64 (a : Int)) ∧ Below w.heap.size w w')
      (first
        | exact ⟨c0, c1, (Below.refl _ _).drew⟩
        | exact ⟨(hb1.cell (p := ⟨g, 0, none⟩) hgw).trans c0, (hb1.cell (p := ⟨g, 1, none⟩) hgw).trans c1, hb1⟩)
      ((go_at_call 96; refine (HT.out _).mono ?_; rintro e w1 ⟨rfl, hb0⟩; have hb1 : Below w.heap.size w w1 := (Below.refl _ _).drew.trans (hb0.mono (Nat.le_refl _)); clear hb0))
    obtain ⟨k0, k1, k2, e0, e1, e2⟩ := (H.out.under hb1).cells
    have Hb1 := Lib.hid hb1
    go_wp2_with fail
    have hgo := (H.out.under Hb1.out).go (a + z)
    rw [show ((a + z : Nat) : Int) = (a : Int) + (z : Int) by omega] at hgo
    exact HQ.out _ _ ((Turn.below Hb1.out).trans (.set _ _ _ rfl)) (.inl ⟨n, z, Hnt.out, rfl, hgo⟩)

end Go.Proofs.YtpgmbpjjefecdaaDoor.Tk
