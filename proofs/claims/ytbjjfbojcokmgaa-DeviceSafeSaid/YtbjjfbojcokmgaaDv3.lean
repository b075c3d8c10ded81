/- Layer 7: a step, the fuse, the boot, a write laid down. -/
import Derived.Test.YtbjjfbojcokmgaaDv2
namespace Go.Proofs.Ytbjjfbojcokmgaa.Dv
open Go.RowKit Base
set_option linter.unusedVariables false
set_option linter.unusedSimpArgs false

/-- a step; false: the power goes -/
def stepD (s : Dv) : Dv := if s.fuse = 1 then { s with fuse := 0, off := true } else { s with fuse := s.fuse - 1, steps := s.steps + 1 }
theorem Turn.put {p : Nat → Prop} {a b : World} (h : Turn p a b) (q : Addr) (v : Value) (hp : p q.block) : Turn p a (b.setCell q v) := h.trans (Turn.set b q v hp)
theorem Turn.cell {d : Nat} {a b : World} (h : Turn (· = d) a b) (i : Nat) (v : Value) : Turn (· = d) a (b.setCell ⟨d, i, none⟩ v) := Turn.put h ⟨d, i, none⟩ v rfl
theorem DevAt.fields {w w' : World} {B : Nat} {F : Nat → Prop} {d gs c : Nat} {pv : Value} {s s' : Dv} (h : DevAt w B F d gs c pv s) (ht : Turn (· = d) w w')
    (hbox : Box w' d 56 #[.slice (some ⟨gs, 0, none⟩) s'.sec.length c, pv, .int .i64 s'.fuse, .int .i64 s'.reads, .int .i64 s'.steps, .bool s'.off])
    (hs : s'.sec = s.sec) (hp : s'.puts = s.puts) (hg : Good s') : DevAt w' B F d gs c pv s' := by
  refine ⟨hbox, ?_, ?_, h.dg, h.pd, h.pg, h.fd, h.fg, h.fp, fun k hk => ⟨(h.own k hk).1, Nat.lt_of_lt_of_le (h.own k hk).2 ht.size⟩, hg⟩
  · rw [hs]
    exact own_turn h.sec ht (fun k hk => by simp [Value.ownBlock] at hk; subst hk; exact fun e => h.dg e.symm)
  · rw [hp]
    exact own_turn h.puts ht (fun k hk e => h.pd (by rw [hk, e]))
/-- the writes are forgotten, and fields turned -/
theorem DevAt.bare {w w' : World} {B : Nat} {F : Nat → Prop} {d gs c : Nat} {pv : Value} {s s' : Dv} (h : DevAt w B F d gs c pv s) (ht : Turn (· = d) w w')
    (hbox : Box w' d 56 #[.slice (some ⟨gs, 0, none⟩) s'.sec.length c, .slice none 0 0, .int .i64 s'.fuse, .int .i64 s'.reads, .int .i64 s'.steps, .bool s'.off])
    (hs : s'.sec = s.sec) (hp : s'.puts = []) (hg : Good s') : DevAt w' B F d gs c (.slice none 0 0) s' := by
  refine ⟨hbox, ?_, ?_, h.dg, by simp [Value.ownBlock], by simp [Value.ownBlock], h.fd, h.fg, fun k hk => by simp [Value.ownBlock] at hk, fun k hk => ⟨(h.own k hk).1, Nat.lt_of_lt_of_le (h.own k hk).2 ht.size⟩, hg⟩
  · rw [hs]
    exact own_turn h.sec ht (fun k hk => by simp [Value.ownBlock] at hk; subst hk; exact fun e => h.dg e.symm)
  · rw [hp]
    exact ⟨rfl, .inl ⟨rfl, rfl⟩⟩

set_option maxHeartbeats 400000 in
theorem step_down {w : World} {B : Nat} {F : Nat → Prop} {d gs c : Nat} {pv : Value} {s : Dv} (h : DevAt w B F d gs c pv s) (hf : s.fuse = 1) :
    Calls Try.prog 33 #[.pointer (some ⟨d, 0, none⟩)] w fun e w' => e = .returned (.int .i64 8) ∧ DevAt w' B F d gs c pv (stepD s) ∧ Turn (· = d) w w' := by
  have hb := h.box
  rw [hf] at hb
  obtain ⟨⟨k0, k1, k2, k3, k4, k5⟩, ⟨f0, f1, f2, f3, f4, f5⟩⟩ := Box.six hb
  have Hb := Lib.hid hb
  have H := Lib.hid h
  have Hf := Lib.hid hf
  clear hb h hf
  go_enter Try.func33, Try.ntmps33
  go_wp2_with fail
  go_ret
  have ht : Turn (· = d) w ((w.setCell ⟨d, 5, none⟩ (.bool true)).setCell ⟨d, 2, none⟩ (.int .i64 0)) := Turn.cell (Turn.cell (Turn.refl _ w) _ _) _ _
  have hg := H.out.good
  refine ⟨rfl, H.out.fields ht ?_ ?_ ?_ ?_, ht⟩
  · unfold stepD
    rw [if_pos Hf.out]
    exact (Hb.out.set 5 (.bool true)).set 2 (.int .i64 0)
  · unfold stepD; rw [if_pos Hf.out]
  · unfold stepD; rw [if_pos Hf.out]
  · unfold stepD; rw [if_pos Hf.out]; exact ⟨hg.lo, hg.hi, hg.sec, hg.at_, hg.data, hg.puts, Nat.zero_le _, hg.reads, hg.steps⟩
set_option maxHeartbeats 400000 in
theorem step_go {w : World} {B : Nat} {F : Nat → Prop} {d gs c : Nat} {pv : Value} {s : Dv} (h : DevAt w B F d gs c pv s) (hf : s.fuse ≠ 1) (hs : s.steps < 1000000) :
    Calls Try.prog 33 #[.pointer (some ⟨d, 0, none⟩)] w fun e w' => e = .returned (.int .i64 0) ∧ DevAt w' B F d gs c pv (stepD s) ∧ Turn (· = d) w w' := by
  obtain ⟨⟨k0, k1, k2, k3, k4, k5⟩, ⟨f0, f1, f2, f3, f4, f5⟩⟩ := Box.six h.box
  have H := Lib.hid h
  have Hf := Lib.hid hf
  have hd : ((s.fuse : Int) == 1) = false := by rw [beq_eq_false_iff_ne]; omega
  have hmx : max ((s.fuse : Int) - 1) 0 = ((s.fuse - 1 : Nat) : Int) := by omega
  have hb := h.good.fuse
  clear h hf
  have hg := H.out.good
  have hfs : ¬ s.fuse = 1 := Hf.out
  have hgg : Good (stepD s) := by
    unfold stepD
    rw [if_neg hfs]
    have := hg.fuse
    exact ⟨hg.lo, hg.hi, hg.sec, hg.at_, hg.data, hg.puts, by show s.fuse - 1 ≤ _; omega, hg.reads, by show s.steps + 1 ≤ _; omega⟩
  have key := Lib.hid (show ∀ x : Int, x = ((s.fuse - 1 : Nat) : Int) → DevAt ((w.setCell ⟨d, 2, none⟩ (.int .i64 x)).setCell ⟨d, 4, none⟩ (.int .i64 ((s.steps : Int) + 1))) B F d gs c pv (stepD s) ∧ Turn (· = d) w ((w.setCell ⟨d, 2, none⟩ (.int .i64 x)).setCell ⟨d, 4, none⟩ (.int .i64 ((s.steps : Int) + 1))) by
    rintro x rfl
    have ht : Turn (· = d) w ((w.setCell ⟨d, 2, none⟩ (.int .i64 ((s.fuse - 1 : Nat) : Int))).setCell ⟨d, 4, none⟩ (.int .i64 ((s.steps : Int) + 1))) := Turn.cell (Turn.cell (Turn.refl _ w) _ _) _ _
    refine ⟨H.out.fields ht ?_ ?_ ?_ hgg, ht⟩
    · unfold stepD
      rw [if_neg hfs]
      exact (H.out.box.set 2 (.int .i64 ((s.fuse - 1 : Nat) : Int))).set 4 (.int .i64 ((s.steps : Int) + 1))
    · unfold stepD; rw [if_neg hfs]
    · unfold stepD; rw [if_neg hfs])
  clear hg hgg hmx
  generalize stepD s = s' at *
  generalize s.fuse = q at *
  generalize s.steps = r at *
  go_enter Try.func33, Try.ntmps33
  go_wp2_with fail
  all_goals
    go_ret
    exact ⟨rfl, key.out _ (by omega)⟩

/-- Boot -/
def bootD (s : Dv) : Dv := { s with puts := [], off := false, fuse := 0 }
set_option maxHeartbeats 400000 in
theorem boot_yes {w : World} {B : Nat} {F : Nat → Prop} {d gs c : Nat} {pv : Value} {s : Dv} (h : DevAt w B F d gs c pv s) :
    Calls Try.prog 28 #[.pointer (some ⟨d, 0, none⟩)] w fun e w' => e = .returned (.int .i64 0) ∧ DevAt w' B F d gs c (.slice none 0 0) (bootD s) ∧ Turn (· = d) w w' := by
  have HT := Lib.hid (there_yes d _ _ c pv _ _ _ _ w h.box (by have := h.good.lo; omega) (by have := h.good.hi; omega))
  obtain ⟨⟨k0, k1, k2, k3, k4, k5⟩, ⟨f0, f1, f2, f3, f4, f5⟩⟩ := Box.six h.box
  have H := Lib.hid h
  clear h
  go_enter Try.func28, Try.ntmps28
  go_wp2_with fail
  refine HT.out.mono ?_
  rintro e w' ⟨rfl, rfl⟩
  go_wp2_with fail
  go_ret
  have ht : Turn (· = d) w (((w.setCell ⟨d, 1, none⟩ (.slice none 0 0)).setCell ⟨d, 5, none⟩ (.bool false)).setCell ⟨d, 2, none⟩ (.int .i64 0)) := Turn.cell (Turn.cell (Turn.cell (Turn.refl _ w) _ _) _ _) _ _
  have hg := H.out.good
  refine ⟨rfl, H.out.bare ht ?_ rfl rfl ?_, ht⟩
  · exact ((H.out.box.set 1 (.slice none 0 0)).set 5 (.bool false)).set 2 (.int .i64 0)
  · exact ⟨hg.lo, hg.hi, hg.sec, (fun p hp => by cases hp), (fun p hp => by cases hp), Nat.zero_le _, Nat.zero_le _, hg.reads, hg.steps⟩

set_option maxHeartbeats 400000 in
theorem fuse_off {w : World} {B : Nat} {F : Nat → Prop} {d gs c : Nat} {pv : Value} {s : Dv} (h : DevAt w B F d gs c pv s) (ho : s.off = true) (n : Int) :
    Calls Try.prog 27 #[.pointer (some ⟨d, 0, none⟩), .int .i64 n] w fun e w' => e = .returned (.int .i64 8) ∧ w = w' := by
  have HT := Lib.hid (there_yes d _ _ c pv _ _ _ _ w h.box (by have := h.good.lo; omega) (by have := h.good.hi; omega))
  have hb := h.box
  rw [ho] at hb
  obtain ⟨⟨k0, k1, k2, k3, k4, k5⟩, ⟨f0, f1, f2, f3, f4, f5⟩⟩ := Box.six hb
  clear h hb ho
  go_enter Try.func27, Try.ntmps27
  go_wp2_with fail
  refine HT.out.mono ?_
  rintro e w' ⟨rfl, rfl⟩
  go_wp2_with fail
  go_ret
  exact ⟨rfl, rfl⟩
set_option maxHeartbeats 400000 in
theorem fuse_neg {w : World} {B : Nat} {F : Nat → Prop} {d gs c : Nat} {pv : Value} {s : Dv} (h : DevAt w B F d gs c pv s) (ho : s.off = false) (n : Int) (hn : n < 0) :
    Calls Try.prog 27 #[.pointer (some ⟨d, 0, none⟩), .int .i64 n] w fun e w' => e = .returned (.int .i64 2) ∧ w = w' := by
  have HT := Lib.hid (there_yes d _ _ c pv _ _ _ _ w h.box (by have := h.good.lo; omega) (by have := h.good.hi; omega))
  have hb := h.box
  rw [ho] at hb
  obtain ⟨⟨k0, k1, k2, k3, k4, k5⟩, ⟨f0, f1, f2, f3, f4, f5⟩⟩ := Box.six hb
  clear h hb ho
  go_enter Try.func27, Try.ntmps27
  go_wp2_with fail
  refine HT.out.mono ?_
  rintro e w' ⟨rfl, rfl⟩
  go_wp2_with fail
  go_ret
  exact ⟨rfl, rfl⟩
set_option maxHeartbeats 400000 in
theorem fuse_set {w : World} {B : Nat} {F : Nat → Prop} {d gs c : Nat} {pv : Value} {s : Dv} (h : DevAt w B F d gs c pv s) (ho : s.off = false) (n : Nat) (hn : n ≤ 9223372036854775807) :
    Calls Try.prog 27 #[.pointer (some ⟨d, 0, none⟩), .int .i64 n] w fun e w' => e = .returned (.int .i64 0) ∧ DevAt w' B F d gs c pv { s with fuse := n } ∧ Turn (· = d) w w' := by
  have HT := Lib.hid (there_yes d _ _ c pv _ _ _ _ w h.box (by have := h.good.lo; omega) (by have := h.good.hi; omega))
  have hb := h.box
  rw [ho] at hb
  obtain ⟨⟨k0, k1, k2, k3, k4, k5⟩, ⟨f0, f1, f2, f3, f4, f5⟩⟩ := Box.six hb
  have H := Lib.hid h
  have Hn := Lib.hid hn
  have hneg : decide ((n : Int) < 0) = false := by simp
  clear h hb ho hn
  go_enter Try.func27, Try.ntmps27
  go_wp2_with fail
  refine HT.out.mono ?_
  rintro e w' ⟨rfl, rfl⟩
  go_wp2_with fail
  go_ret
  have ht : Turn (· = d) w (w.setCell ⟨d, 2, none⟩ (.int .i64 n)) := Turn.cell (Turn.refl _ w) _ _
  have hg := H.out.good
  refine ⟨rfl, H.out.fields ht ?_ rfl rfl ?_, ht⟩
  · exact H.out.box.set 2 (.int .i64 n)
  · exact ⟨hg.lo, hg.hi, hg.sec, hg.at_, hg.data, hg.puts, Hn.out, hg.reads, hg.steps⟩

end Go.Proofs.Ytbjjfbojcokmgaa.Dv
