/- Layer 4, contracts: Num, Fix, Want. -/
import Derived.Test.YtpgmbpjjefecdaaDoorTk1
namespace Go.Proofs.YtpgmbpjjefecdaaDoor.Tk
open Go.RowKit Base Crc Txt Plain
set_option linter.unusedVariables false

/-- a number that is not above another one, and where the reading is then -/
def numOk (l : List UInt8) (a most : Nat) : Option (Nat × Nat) := match Nm.ntake (l.drop a) with
  | some (n, z) => if n ≤ most then some (n, a + z) else none
  | none => none
theorem ntake_le {l : List UInt8} {n z : Nat} (h : Nm.ntake l = some (n, z)) : z ≤ l.length ∧ 1 ≤ z := by
  unfold Nm.ntake at h
  split at h
  · cases h
  · split at h
    · cases h
    · split at h
      · injection h with h
        injection h with _ e2
        subst e2
        omega
      · cases h
theorem numOk_le {l : List UInt8} {a most n b : Nat} (ha : a ≤ l.length) (h : numOk l a most = some (n, b)) : b ≤ l.length ∧ n ≤ most := by
  unfold numOk at h
  split at h
  · rename_i n' z hz
    split at h
    · injection h with h
      injection h with e1 e2
      subst e1 e2
      have := (ntake_le hz).1
      rw [List.length_drop] at this
      exact ⟨by omega, by assumption⟩
    · cases h
  · cases h
def NmOut (g : Nat) (l : List UInt8) (a most : Nat) (w : World) (e : Ending) (w' : World) : Prop :=
  Turn (· = g) w w' ∧ ((∃ n b, numOk l a most = some (n, b) ∧ e = .returned (.int .i64 (n : Nat)) ∧ Rd w' g l b) ∨ (numOk l a most = none ∧ ∃ x b, x ≠ 0 ∧ e = .panicked [{ v := fault x, recovered := false }] ∧ Rd w' g l b))

set_option maxRecDepth 100000 in
set_option maxHeartbeats 1000000 in
theorem num_any (g : Nat) (l : List UInt8) (a most : Nat) (w : World) (h : Rd w g l a) (ha : a ≤ l.length) (hl : l.length ≤ 1000000) (hm : most ≤ 2000000) :
    Calls Tryd.prog 51 #[.pointer (some ⟨g, 0, none⟩), .int .i64 (most : Nat)] w (NmOut g l a most w) := by
  have HO := Lib.hid (on_any g l a w h)
  have HN := Lib.hid (number_any g l a w h ha hl)
  have HQ := Lib.hid (show ∀ e w', Turn (· = g) w w' → ((∃ n b, numOk l a most = some (n, b) ∧ e = .returned (.int .i64 (n : Nat)) ∧ Rd w' g l b) ∨ (numOk l a most = none ∧ ∃ x b, x ≠ 0 ∧ e = .panicked [{ v := fault x, recovered := false }] ∧ Rd w' g l b)) → NmOut g l a most w e w' from fun e w' h1 h2 => ⟨h1, h2⟩)
  generalize hQ : NmOut g l a most w = Q at *
  have Hok := Lib.hid (show numOk l a most = match Nm.ntake (l.drop a) with
    | some (n, z) => if n ≤ most then some (n, a + z) else none
    | none => none from rfl)
  clear hQ h
  go_enter Tryd.func51, Tryd.ntmps51
  go_wp2_with fail
  refine HO.out.mono ?_
  rintro e w' ⟨rfl, rfl⟩
  go_wp2_with fail
  refine HN.out.mono ?_
  rintro e w1 ⟨ht, ⟨n, z, h1, rfl, h3⟩ | ⟨h1, rfl, h3⟩⟩
  · have Ht := Lib.hid ht
    have H3 := Lib.hid h3
    have H1 := Lib.hid h1
    clear ht h3 h1
    by_cases hle : n ≤ most
    · have hleI : ¬ (most : Int) < (n : Int) := by omega
      go_wp2_with fail
      exact HQ.out _ _ Ht.out (.inl ⟨n, a + z, by rw [Hok.out, H1.out]; exact if_pos hle, rfl, H3.out⟩)
    · have hleI : (most : Int) < (n : Int) := by omega
      go_wp2_with fail
      refine (fail_any _ _ _).mono ?_
      rintro e w' ⟨rfl, rfl⟩
      go_wp2_with fail
      exact ⟨rfl, HQ.out _ _ Ht.out (.inr ⟨by rw [Hok.out, H1.out]; exact if_neg hle, 5, _, by decide, rfl, H3.out⟩)⟩
  · have hq := Lib.hid (HQ.out (.panicked [{ v := fault 3, recovered := false }]) w1 ht (.inr ⟨by rw [Hok.out, h1], 3, a, by decide, rfl, h3⟩))
    clear ht h3 h1
    go_wp2_with fail
    exact ⟨rfl, hq.out⟩

set_option maxRecDepth 100000 in
set_option maxHeartbeats 1000000 in
theorem fix_rest (g : Nat) (l : List UInt8) (a : Nat) (w : World) (h : Rd w g l a) (ha : a ≤ l.length) (hl : l.length ≤ 1000000) :
    Calls Tryd.prog 53 #[.pointer (some ⟨g, 0, none⟩), .int .i64 ((l.length - a : Nat) : Int)] w fun e w' => e = .returned (.string (str (l.drop a))) ∧ Turn (· = g) w w' ∧ Rd w' g l l.length := by
  obtain ⟨c0, c1, c2, f0, f1, f2⟩ := Rd.cells h
  have HO := Lib.hid (on_any g l a w h)
  have H := Lib.hid h
  obtain ⟨d, hd⟩ : ∃ d, d = l.length - a := ⟨_, rfl⟩
  rw [← hd]
  have hsl : ∀ W, (Instr.slice 9 (.string (str l)) (some (.int .i64 (a : Int))) (some (.int .i64 ((a : Int) + (d : Int)))) none).run Tryd.prog W = .ok (.string (str (l.drop a))) W := by
    intro W
    rw [cut_mid l a l.length a _ rfl (by omega) ha (Nat.le_refl _) W, List.take_of_length_le (by rw [List.length_drop]; exact Nat.le_refl _)]
  have hw1 : IntKind.i64.wrap (((str l).size : Int) - (a : Int)) = (d : Int) := by
    show IntKind.i64.wrap ((l.length : Int) - (a : Int)) = (d : Int)
    rw [IntWalk.i64_in _ (by omega)]
    omega
  have hw2 : IntKind.i64.wrap ((a : Int) + (d : Int)) = (a : Int) + (d : Int) := IntWalk.i64_in _ (by omega)
  have d1 : decide ((d : Int) < 0) = false := by simp
  have d2 : decide ((d : Int) < (d : Int)) = false := by simp
  have d2' : decide (d < d) = false := by simp
  have Hgo := Lib.hid (show ∀ W, Rd W g l a → Rd (W.setCell ⟨g, 1, none⟩ (.int .i64 ((a : Int) + (d : Int)))) g l l.length by
    intro W hW
    have := hW.go l.length
    rw [show ((l.length : Nat) : Int) = (a : Int) + (d : Int) by omega] at this
    exact this)
  have hdb : d ≤ 1000000 := by omega
  have hab : a ≤ 1000000 := by omega
  clear h hd
  generalize str (l.drop a) = D at *
  go_enter Tryd.func53, Tryd.ntmps53
  go_wp2_with fail
  refine HO.out.mono ?_
  rintro e w' ⟨rfl, rfl⟩
  go_wp2_with fail
  go_quiet (fail)
  have hq := Lib.hid (H.out.drewN nq)
  have ht := Lib.hid ((Turn.refl (· = g) w).drewN nq)
  obtain ⟨k0, k1, k2, e0, e1, e2⟩ := (H.out.drewN nq).cells
  clear hw1 d1 d2 d2' c0 c1 c2 f0 f1 f2
  generalize w.drewN nq = wq at *
  go_wp2_with fail
  go_quiet (fail)
  have hq2 := Lib.hid (hq.out.drewN nq)
  have ht2 := Lib.hid (ht.out.drewN nq)
  obtain ⟨m0, m1, m2, n0, n1, n2⟩ := (hq.out.drewN nq).cells
  clear hw2 k0 k1 k2 e0 e1 e2 hsl
  generalize wq.drewN nq = wz at *
  go_wp2_with fail
  go_ret
  exact ⟨rfl, ht2.out.trans (.set _ _ _ rfl), Hgo.out _ hq2.out⟩

theorem want_yes (g : Nat) (l : List UInt8) (a : Nat) (x : Int) (w : World) (h : Rd w g l a) :
    Calls Tryd.prog 52 #[.pointer (some ⟨g, 0, none⟩), .bool true, .int .i64 x] w fun e w' => e = .returned (.tuple #[]) ∧ w = w' := by
  have HO := Lib.hid (on_any g l a w h)
  clear h
  go_enter Tryd.func52, Tryd.ntmps52
  go_wp2_with fail
  refine HO.out.mono ?_
  rintro e w' ⟨rfl, rfl⟩
  go_wp2_with fail
  go_end0
  exact ⟨rfl, rfl⟩
theorem want_no (g : Nat) (l : List UInt8) (a : Nat) (w : World) (h : Rd w g l a) :
    Calls Tryd.prog 52 #[.pointer (some ⟨g, 0, none⟩), .bool false, .int .i64 3] w fun e w' => e = .panicked [{ v := fault 3, recovered := false }] ∧ w = w' := by
  have HO := Lib.hid (on_any g l a w h)
  clear h
  go_enter Tryd.func52, Tryd.ntmps52
  go_wp2_with fail
  refine HO.out.mono ?_
  rintro e w' ⟨rfl, rfl⟩
  go_wp2_with fail
  refine (fail_any _ _ _).mono ?_
  rintro e w' ⟨rfl, rfl⟩
  go_wp2_with fail
  exact ⟨rfl, rfl, rfl⟩

end Go.Proofs.YtpgmbpjjefecdaaDoor.Tk
