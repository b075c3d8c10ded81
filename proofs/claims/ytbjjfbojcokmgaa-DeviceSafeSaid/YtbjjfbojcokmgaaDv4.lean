/- Layer 7: what a sector shows: Read. -/
import Derived.Test.YtbjjfbojcokmgaaDv3
namespace Go.Proofs.Ytbjjfbojcokmgaa.Dv
open Go.RowKit Base
set_option linter.unusedVariables false
set_option linter.unusedSimpArgs false

/-- what a sector shows -/
def shown (sec : List ByteArray) (puts : List (Nat × ByteArray)) (i : Nat) : ByteArray := puts.foldl (fun a p => if p.1 = i then p.2 else a) (sec.getD i ByteArray.empty)
theorem fold_none (l : List (Nat × ByteArray)) (i : Nat) (a : ByteArray) (h : ∀ p ∈ l, p.1 ≠ i) : l.foldl (fun a p => if p.1 = i then p.2 else a) a = a := by
  induction l generalizing a with
  | nil => rfl
  | cons p l ih =>
    rw [List.foldl_cons, if_neg (h p List.mem_cons_self)]
    exact ih a (fun q hq => h q (List.mem_cons_of_mem _ hq))
theorem shown_none (sec : List ByteArray) (puts : List (Nat × ByteArray)) (i : Nat) (h : ∀ p ∈ puts, p.1 ≠ i) : shown sec puts i = sec.getD i ByteArray.empty := fold_none puts i _ h
theorem shown_at (sec : List ByteArray) (puts : List (Nat × ByteArray)) (i j : Nat) (hj : j < puts.length) (he : puts[j].1 = i) (h : ∀ p ∈ puts.drop (j + 1), p.1 ≠ i) : shown sec puts i = puts[j].2 := by
  unfold shown
  have e : puts = puts.take j ++ (puts[j] :: puts.drop (j + 1)) := by
    rw [← List.drop_eq_getElem_cons hj, List.take_append_drop]
  generalize hq : puts[j] = q at *
  rw [e, List.foldl_append, List.foldl_cons, if_pos he]
  exact fold_none _ i _ h

theorem DevAt.form {w : World} {B : Nat} {F : Nat → Prop} {d gs c : Nat} {pv : Value} {s : Dv} (h : DevAt w B F d gs c pv s) :
    ∃ A cp, pv = .slice A s.puts.length cp ∧ ∀ k (hk : k < s.puts.length), ∃ gp, A = some ⟨gp, 0, none⟩ ∧ w.cell? ⟨gp, k * 2, none⟩ = some (.int .i64 (s.puts[k].1 : Nat)) ∧ w.cell? ⟨gp, k * 2 + 1, none⟩ = some (.string s.puts[k].2) := by
  have ho := h.puts
  rcases ho.2 with ⟨e, h0⟩ | ⟨gp, cap, cur, e, _⟩
  · refine ⟨none, 0, by rw [e, h0], fun k hk => by omega⟩
  · subst e
    refine ⟨some ⟨gp, 0, none⟩, cap, rfl, fun k hk => ⟨gp, rfl, ?_, ?_⟩⟩
    · rw [ho.cellAt _ (by omega)]
      exact (putV_at _ k hk).1
    · rw [ho.cellAt _ (by omega)]
      exact (putV_at _ k hk).2
theorem DevAt.secAt {w : World} {B : Nat} {F : Nat → Prop} {d gs c : Nat} {pv : Value} {s : Dv} (h : DevAt w B F d gs c pv s) (i : Nat) (hi : i < s.sec.length) : w.cell? ⟨gs, i, none⟩ = some (.string (s.sec.getD i ByteArray.empty)) := by
  rw [h.sec.cellAt i (by omega), List.getElem?_map, List.getD_eq_getElem?_getD, List.getElem?_eq_getElem hi]
  rfl

def readD (s : Dv) : Dv := { s with reads := s.reads + 1 }
theorem DevAt.readd {w : World} {B : Nat} {F : Nat → Prop} {d gs c : Nat} {pv : Value} {s : Dv} (h : DevAt w B F d gs c pv s) (hr : s.reads < 1000000) :
    DevAt (w.setCell ⟨d, 3, none⟩ (.int .i64 ((s.reads : Int) + 1))) B F d gs c pv (readD s) ∧ Turn (· = d) w (w.setCell ⟨d, 3, none⟩ (.int .i64 ((s.reads : Int) + 1))) := by
  have ht : Turn (· = d) w (w.setCell ⟨d, 3, none⟩ (.int .i64 ((s.reads : Int) + 1))) := Turn.cell (Turn.refl _ w) _ _
  have hg := h.good
  refine ⟨h.fields ht ?_ rfl rfl ⟨hg.lo, hg.hi, hg.sec, hg.at_, hg.data, hg.puts, hg.fuse, by show s.reads + 1 ≤ _; omega, hg.steps⟩, ht⟩
  exact h.box.set 3 (.int .i64 ((s.reads : Int) + 1))

set_option maxHeartbeats 400000 in
theorem read_yes {w : World} {B : Nat} {F : Nat → Prop} {d gs c : Nat} {pv : Value} {s : Dv} (h : DevAt w B F d gs c pv s) (ho : s.off = false) (hr : s.reads < 1000000) (i : Nat) (hi : i < s.sec.length) :
    Calls Try.prog 26 #[.pointer (some ⟨d, 0, none⟩), .int .i64 i] w fun e w' => e = .returned (.tuple #[.string (shown s.sec s.puts i), .int .i64 0]) ∧ DevAt w' B F d gs c pv (readD s) ∧ Turn (· = d) w w' := by
  have hlo := h.good.lo
  have hhi := h.good.hi
  have hpn := h.good.puts
  have hb := h.box
  rw [ho] at hb
  have HR := Lib.hid (ready_yes d _ _ c pv _ _ _ w hb (by omega) (by omega) (i : Int) (by omega) (by omega))
  obtain ⟨h1, ht⟩ := h.readd hr
  obtain ⟨⟨k0, k1, k2, k3, k4, k5⟩, ⟨f0, f1, f2, f3, f4, f5⟩⟩ := Box.six hb
  have H1 := Lib.hid h1
  have Ht := Lib.hid ht
  clear h h1 ht hb
  go_enter Try.func26, Try.ntmps26
  go_wp2_with fail
  refine HR.out.mono ?_
  rintro e w' ⟨rfl, rfl⟩
  go_upto_region 5 with fail
  generalize w.setCell ⟨d, 3, none⟩ (.int .i64 ((s.reads : Int) + 1)) = w1 at *
  clear k0 k1 k2 k3 k4 k5 f0 f1 f2 f3 f4 f5
  obtain ⟨⟨k0, k1, k2, k3, k4, k5⟩, ⟨f0, f1, f2, f3, f4, f5⟩⟩ := Box.six H1.out.box
  obtain ⟨A, cp, rfl, hcells⟩ := H1.out.form
  have HC := Lib.hid hcells
  have hsec := H1.out.secAt i hi
  clear hcells k2 k3 k4 k5 f0 f1 f2 f3 f4 f5 ho
  simp only [readD] at *
  go_wp2_with fail
  go_loop [7] (fun v7 => ∃ (z : Int) (k : Nat), k ≤ s.puts.length ∧ v7 = .int .i64 z ∧ z = (k : Int) - 1 ∧ ∀ p ∈ s.puts.drop k, p.1 ≠ i) (fun v7 => (intOf v7 + 1).toNat)
  case atStart => exact ⟨_, s.puts.length, Nat.le_refl _, rfl, rfl, by simp⟩
  case round =>
    obtain ⟨z, k, hk, rfl, hz, hnone⟩ := hrel
    by_cases hk0 : k = 0
    · subst hk0
      obtain rfl : z = -1 := by omega
      have Hs := Lib.hid (show shown s.sec s.puts i = s.sec.getD i ByteArray.empty from shown_none _ _ _ (by simpa using hnone))
      clear hnone HC hz hk
      generalize s.sec.getD i ByteArray.empty = sv at *
      go_wp2_with fail
      go_ret2
      exact ⟨by rw [Hs.out]; rfl, H1.out, Ht.out⟩
    · obtain ⟨j, rfl⟩ : ∃ j, k = j + 1 := ⟨k - 1, by omega⟩
      obtain rfl : z = (j : Int) := by omega
      have hj : j < s.puts.length := by omega
      obtain ⟨gp, rfl, c0, c1⟩ := HC.out j hj
      have hjI : (j : Int) < (s.puts.length : Int) := by omega
      have hj0 : (0 : Int) ≤ (j : Int) := by omega
      by_cases he : s.puts[j].1 = i
      · have Hs := Lib.hid (shown_at s.sec s.puts i j hj he hnone)
        have hb : ((s.puts[j].1 : Int) == (i : Int)) = true := by rw [beq_iff_eq]; omega
        clear hnone HC hz hk hk0 he
        generalize s.puts[j].1 = x at *
        generalize s.puts[j].2 = y at *
        go_wp2_with fail
        go_ret2
        exact ⟨by rw [Hs.out]; rfl, H1.out, Ht.out⟩
      · have hb : ((s.puts[j].1 : Int) == (i : Int)) = false := by rw [beq_eq_false_iff_ne]; omega
        have Hn := Lib.hid (show ∀ p ∈ s.puts.drop j, p.1 ≠ i by
          intro p hp
          rw [List.drop_eq_getElem_cons hj] at hp
          rcases List.mem_cons.1 hp with rfl | hp
          · exact he
          · exact hnone p hp)
        clear hnone HC hz hk hk0 he
        generalize s.puts[j].1 = x at *
        generalize s.puts[j].2 = y at *
        go_wp2_with fail
        go_round
        case rel => exact ⟨_, j, by omega, rfl, rfl, Hn.out⟩
        case measure => simp [intOf]

end Go.Proofs.Ytbjjfbojcokmgaa.Dv
