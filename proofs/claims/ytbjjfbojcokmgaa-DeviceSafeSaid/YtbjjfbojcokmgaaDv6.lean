/- Layer 7: a write laid down; Sync. -/
import Derived.Test.YtbjjfbojcokmgaaDv5
namespace Go.Proofs.Ytbjjfbojcokmgaa.Dv
open Go.RowKit Base
set_option linter.unusedVariables false
set_option linter.unusedSimpArgs false

theorem DevAt.laid {w : World} {B : Nat} {F : Nat → Prop} {d gs c : Nat} {pv : Value} {s : Dv} (h : DevAt w B F d gs c pv s) (i : Nat) (x : ByteArray) (hx : x.size = 128) :
    DevAt (w.setCell ⟨gs, i, none⟩ (.string x)) B F d gs c pv { s with sec := s.sec.set i x } ∧ Turn (· = gs) w (w.setCell ⟨gs, i, none⟩ (.string x)) := by
  have ht : Turn (· = gs) w (w.setCell ⟨gs, i, none⟩ (.string x)) := Turn.cell (Turn.refl _ w) _ _
  have hs := (h.sec.stored i (.string x)).1
  have hg := h.good
  have hl : (s.sec.set i x).length = s.sec.length := List.length_set
  refine ⟨⟨?_, ?_, own_turn h.puts ht (fun k hk e => h.pg (by rw [hk, e])), h.dg, h.pd, h.pg, h.fd, h.fg, h.fp, fun k hk => ⟨(h.own k hk).1, Nat.lt_of_lt_of_le (h.own k hk).2 ht.size⟩, ?_⟩, ht⟩
  · show Box _ _ _ #[.slice _ (s.sec.set i x).length c, pv, _, _, _, _]
    rw [hl]
    exact h.box.turn ht h.dg
  · show World.ownsRow _ _ _ _ (.slice _ (s.sec.set i x).length c) (s.sec.set i x).length ((s.sec.set i x).map .string)
    rw [hl, List.map_set]
    exact hs
  · refine ⟨by show 16 ≤ (s.sec.set i x).length; rw [hl]; exact hg.lo, by show (s.sec.set i x).length ≤ _; rw [hl]; exact hg.hi, fun y hy => ?_, fun p hp => by show p.1 < (s.sec.set i x).length; rw [hl]; exact hg.at_ p hp, hg.data, hg.puts, hg.fuse, hg.reads, hg.steps⟩
    rcases List.mem_or_eq_of_mem_set hy with hy | hy
    · exact hg.sec y hy
    · rw [hy]; exact hx

set_option maxHeartbeats 400000 in
theorem lay_any {w : World} {B : Nat} {F : Nat → Prop} {d gs c : Nat} {pv : Value} {s : Dv} (h : DevAt w B F d gs c pv s) (i : Nat) (x : ByteArray) (hi : i < s.sec.length) (hx : x.size = 128) :
    Calls Try.prog 34 #[.pointer (some ⟨d, 0, none⟩), .agg #[.int .i64 i, .string x]] w fun e w' => e = .returned (.tuple #[]) ∧ DevAt w' B F d gs c pv { s with sec := s.sec.set i x } ∧ Turn (· = gs) w w' := by
  have H := Lib.hid (h.laid i x hx)
  obtain ⟨⟨k0, k1, k2, k3, k4, k5⟩, ⟨f0, f1, f2, f3, f4, f5⟩⟩ := Box.six h.box
  have hsec := h.secAt i hi
  have hfr := h.sec.frozenAt i
  have hdl : d < w.heap.size := h.box.lt
  have hgl : gs < w.heap.size := (h.own gs h.fg).2
  have hiI : (i : Int) < (s.sec.length : Int) := by omega
  have hi0 : (0 : Int) ≤ (i : Int) := by omega
  have hne := h.dg
  clear h
  generalize s.sec.getD i ByteArray.empty = sv at *
  go_enter Try.func34, Try.ntmps34
  go_wp2_with fail
  go_region
  go_end0
  obtain ⟨h1, t1⟩ := H.out
  have hb := (Below.refl _ (w.setCell ⟨gs, i, none⟩ (.string x))).alloc (Nat.le_refl _) (.cells #[.int .i64 i, .string x] 65)
  exact ⟨rfl, (h1.below hb).below (Below.refl _ _).drew, (t1.trans (.below hb)).drew⟩

/-- writes laid down -/
def layAll (sec : List ByteArray) (puts : List (Nat × ByteArray)) : List ByteArray := puts.foldl (fun a p => a.set p.1 p.2) sec
theorem layAll_snoc (sec : List ByteArray) (puts : List (Nat × ByteArray)) (k : Nat) (hk : k < puts.length) : layAll sec (puts.take (k + 1)) = (layAll sec (puts.take k)).set puts[k].1 puts[k].2 := by
  unfold layAll
  rw [List.take_succ_eq_append_getElem hk, List.foldl_append]
  rfl
theorem layAll_len (sec : List ByteArray) (puts : List (Nat × ByteArray)) : (layAll sec puts).length = sec.length := by
  unfold layAll
  induction puts generalizing sec with
  | nil => rfl
  | cons p l ih => rw [List.foldl_cons, ih, List.length_set]
def syncD (s : Dv) : Dv := { stepD s with sec := layAll s.sec s.puts, puts := [] }

set_option maxHeartbeats 400000 in
theorem sync_no {w : World} {B : Nat} {F : Nat → Prop} {d gs c : Nat} {pv : Value} {s : Dv} (h : DevAt w B F d gs c pv s) (ho : s.off = true) :
    Calls Try.prog 12 #[.pointer (some ⟨d, 0, none⟩)] w fun e w' => e = .returned (.int .i64 8) ∧ w = w' := by
  have HR := Lib.hid (ready_off d _ _ c pv _ _ _ w (h.box0 ho) h.n0 h.n1 0)
  clear h ho
  go_enter Try.func12, Try.ntmps12
  go_wp2_with fail
  refine HR.out.mono ?_
  rintro e w' ⟨rfl, rfl⟩
  go_wp2_with fail
  go_ret
  exact ⟨rfl, rfl⟩
set_option maxHeartbeats 400000 in
theorem sync_down {w : World} {B : Nat} {F : Nat → Prop} {d gs c : Nat} {pv : Value} {s : Dv} (h : DevAt w B F d gs c pv s) (ho : s.off = false) (hf : s.fuse = 1) :
    Calls Try.prog 12 #[.pointer (some ⟨d, 0, none⟩)] w fun e w' => e = .returned (.int .i64 8) ∧ DevAt w' B F d gs c pv (stepD s) ∧ Turn (· = d) w w' := by
  have HR := Lib.hid (ready_yes d _ _ c pv _ _ _ w (h.box0 ho) h.n0 h.n1 0 (by omega) (by have := h.n0; omega))
  have HS := Lib.hid (step_down h hf)
  clear h hf ho
  go_enter Try.func12, Try.ntmps12
  go_wp2_with fail
  refine HR.out.mono ?_
  rintro e w' ⟨rfl, rfl⟩
  go_wp2_with fail
  refine HS.out.mono ?_
  rintro e w1 ⟨rfl, h1, ht⟩
  have H1 := Lib.hid h1
  have Ht := Lib.hid ht
  clear h1 ht
  go_wp2_with fail
  go_ret
  exact ⟨rfl, H1.out, Ht.out⟩

theorem DevAt.synced {w w1 w2 : World} {B : Nat} {F : Nat → Prop} {d gs c : Nat} {pv : Value} {s : Dv} (h : DevAt w2 B F d gs c pv { s with sec := layAll s.sec (s.puts.take s.puts.length) }) (t1 : Turn (· = d) w w1) (t2 : Turn (· = gs) w1 w2) :
    DevAt (w2.setCell ⟨d, 1, none⟩ (.slice none 0 0)) B F d gs c (.slice none 0 0) { s with sec := layAll s.sec s.puts, puts := [] } ∧ Turn F w (w2.setCell ⟨d, 1, none⟩ (.slice none 0 0)) := by
  rw [List.take_length] at h
  have ht : Turn (· = d) w2 (w2.setCell ⟨d, 1, none⟩ (.slice none 0 0)) := Turn.cell (Turn.refl _ w2) _ _
  have hg := h.good
  refine ⟨h.bare ht (h.box.set 1 (.slice none 0 0)) rfl rfl ⟨hg.lo, hg.hi, hg.sec, (fun p hp => by cases hp), (fun p hp => by cases hp), Nat.zero_le _, hg.fuse, hg.reads, hg.steps⟩, ?_⟩
  exact ((t1.more (fun k hk => hk ▸ h.fd)).trans (t2.more (fun k hk => hk ▸ h.fg))).trans (ht.more (fun k hk => hk ▸ h.fd))
set_option maxHeartbeats 1000000 in
theorem sync_yes {w : World} {B : Nat} {F : Nat → Prop} {d gs c : Nat} {pv : Value} {s : Dv} (h : DevAt w B F d gs c pv s) (ho : s.off = false) (hf : s.fuse ≠ 1) (hst : s.steps < 1000000) :
    Calls Try.prog 12 #[.pointer (some ⟨d, 0, none⟩)] w fun e w' => e = .returned (.int .i64 0) ∧ DevAt w' B F d gs c (.slice none 0 0) (syncD s) ∧ Turn F w w' := by
  have HR := Lib.hid (ready_yes d _ _ c pv _ _ _ w (h.box0 ho) h.n0 h.n1 0 (by omega) (by have := h.n0; omega))
  have HS := Lib.hid (step_go h hf hst)
  have Hs := Lib.hid (show syncD s = { stepD s with sec := layAll (stepD s).sec (stepD s).puts, puts := [] } by unfold syncD; rw [stepD_go hf])
  rw [Hs.out]
  clear h hf ho hst Hs
  generalize stepD s = s1 at *
  go_enter Try.func12, Try.ntmps12
  go_wp2_with fail
  refine HR.out.mono ?_
  rintro e w' ⟨rfl, rfl⟩
  go_wp2_with fail
  refine HS.out.mono ?_
  rintro e w1 ⟨rfl, h1, ht⟩
  obtain ⟨⟨k0, k1, k2, k3, k4, k5⟩, ⟨f0, f1, f2, f3, f4, f5⟩⟩ := Box.six h1.box
  obtain ⟨A, cp, rfl, _⟩ := h1.form
  have H1 := Lib.hid h1
  have Ht := Lib.hid ht
  have Hpn := Lib.hid h1.good.puts
  clear h1 ht k0 k2 k3 k4 k5 f0 f1 f2 f3 f4 f5 HR HS
  go_wp2_with fail
  go_loopw [6, 22] (fun _ v22 wr => ∃ k : Nat, k ≤ s1.puts.length ∧ v22 = .int .i64 (k : Nat) ∧ DevAt wr B F d gs c (.slice A s1.puts.length cp) { s1 with sec := layAll s1.sec (s1.puts.take k) } ∧ Turn (· = gs) w1 wr) (fun _ v22 _ => s1.puts.length - (intOf v22).toNat)
  case atStart => exact ⟨0, Nat.zero_le _, rfl, H1.out, Turn.refl _ _⟩
  case round =>
    obtain ⟨k, hk, rfl, hd, htr⟩ := hrel
    by_cases hlt : k < s1.puts.length
    · obtain ⟨A2, cp2, e2, hcells⟩ := hd.form
      injection e2 with e2 _ e3
      subst e2 e3
      obtain ⟨gp, rfl, c0, c1⟩ := hcells k hlt
      have hkI : (k : Int) < (s1.puts.length : Int) := by omega
      have hk0 : (0 : Int) ≤ (k : Int) := by omega
      have hb0 := (Below.refl wr.heap.size wr).alloc (Nat.le_refl _) (.cells #[.int .i64 (s1.puts[k].1 : Nat), .string s1.puts[k].2] 65)
      have HL := Lib.hid (lay_any (hd.below hb0) s1.puts[k].1 s1.puts[k].2 (hd.good.at_ _ (List.getElem_mem _)) (hd.good.data _ (List.getElem_mem _)))
      have Hsn := Lib.hid (layAll_snoc s1.sec s1.puts k hlt)
      have Htr := Lib.hid (htr.trans (.below hb0))
      have hpn := Hpn.out
      clear hd htr hcells hb0
      simp only at *
      generalize s1.puts[k].1 = x at *
      generalize s1.puts[k].2 = y at *
      go_wp2_with fail
      refine HL.out.mono ?_
      rintro e w2 ⟨rfl, h2, t2⟩
      have H2 := Lib.hid h2
      have T2 := Lib.hid (Htr.out.trans t2)
      clear h2 t2
      go_wp2_with fail
      refine ⟨⟨k + 1, by omega, rfl, ?_, T2.out⟩, by simp [intOf]; omega⟩
      rw [Hsn.out]
      exact H2.out
    · have hke : k = s1.puts.length := by omega
      subst hke
      have Hd := Lib.hid hd
      obtain ⟨⟨k0, k1, k2, k3, k4, k5⟩, ⟨f0, f1, f2, f3, f4, f5⟩⟩ := Box.six hd.box
      have Key := Lib.hid (hd.synced Ht.out htr)
      clear hd htr k0 k2 k3 k4 k5 f0 f2 f3 f4 f5
      go_wp2_with fail
      go_ret
      exact ⟨rfl, Key.out⟩

end Go.Proofs.Ytbjjfbojcokmgaa.Dv
