/- DevicePlays, walked. -/
import Derived.Test.YtbjjfbojcokmgaaPl11
import Derived.Deep.RegionLaw
namespace Go.Proofs.Ytbjjfbojcokmgaa.devicePlays
open Go.RowKit Base Dv
set_option linter.unusedVariables false
set_option linter.unusedSimpArgs false

section
variable (A : Option Addr) (c : Nat) (l : List Ac) (w : World)
set_option maxRecDepth 100000 in
set_option maxHeartbeats 1000000 in
theorem plays_big (n : Int) (hn : 40 < n) :
    Calls Try.prog 4 #[.int .i64 n, .slice A l.length c] w fun e w' => e = .returned (.bool true) ∧ Below w.heap.size w w' := by
  have HW := Lib.hid Dv.awake_any
  have hd : decide (40 < n) = true := by simpa using hn
  clear hn
  go_enter Try.func4, Try.ntmps4
  go_wp2_with fail
  refine (HW.out _).mono ?_
  rintro e w2 ⟨rfl, hb2⟩
  go_wp2_with fail
  go_ret
  exact ⟨rfl, hb2⟩
set_option maxRecDepth 100000 in
set_option maxHeartbeats 1000000 in
theorem plays_many (n : Int) (hn : n ≤ 40) (H : Calls Try.prog 7 #[.slice A l.length c] w fun e w' => e = .returned (.bool false) ∧ Below w.heap.size w w') :
    Calls Try.prog 4 #[.int .i64 n, .slice A l.length c] w fun e w' => e = .returned (.bool true) ∧ Below w.heap.size w w' := by
  have HW := Lib.hid Dv.awake_any
  have HF := Lib.hid H
  have hd : decide (40 < n) = false := by simp; omega
  clear hn H
  go_enter Try.func4, Try.ntmps4
  go_wp2_with fail
  refine HF.out.mono ?_
  rintro e w1 ⟨rfl, hb1⟩
  have Hb1 := Lib.hid hb1
  clear hb1
  go_wp2_with fail
  refine (HW.out _).mono ?_
  rintro e w2 ⟨rfl, hb2⟩
  go_wp2_with fail
  go_ret
  exact ⟨rfl, Hb1.out.trans (hb2.mono Hb1.out.size)⟩
set_option maxRecDepth 100000 in
set_option maxHeartbeats 1000000 in
theorem plays_small (n : Int) (hn : n < 16) (H : Calls Try.prog 7 #[.slice A l.length c] w fun e w' => e = .returned (.bool true) ∧ Below w.heap.size w w') :
    Calls Try.prog 4 #[.int .i64 n, .slice A l.length c] w fun e w' => e = .returned (.bool true) ∧ Below w.heap.size w w' := by
  have HW := Lib.hid Dv.awake_any
  have HF := Lib.hid H
  have HN := Lib.hid (fun w => new_no n w (by omega))
  have hd : decide (40 < n) = false := by simp; omega
  have hd2 : decide (n < 16) = true := by simpa using hn
  clear hn H
  go_enter Try.func4, Try.ntmps4
  go_wp2_with fail
  refine HF.out.mono ?_
  rintro e w1 ⟨rfl, hb1⟩
  have Hb1 := Lib.hid hb1
  clear hb1
  go_wp2_with fail
  refine (HN.out _).mono ?_
  rintro e w' ⟨rfl, rfl⟩
  go_wp2_with fail
  refine (HW.out _).mono ?_
  rintro e w2 ⟨rfl, hb2⟩
  go_wp2_with fail
  go_ret
  exact ⟨rfl, Hb1.out.trans (hb2.mono Hb1.out.size)⟩
/-- what holds at each round of the acts -/
def Inv (B d gs n g : Nat) (w : World) (j : Nat) (wr : World) : Prop := ∃ (s : Dv) (F : Nat → Prop) (pv : Value) (A1 A1' : Option Addr) (c1 c1' : Nat), DevAt wr B F d gs n pv s ∧ Box wr g 44 #[.slice A1 n c1, .slice A1' s.puts.length c1', .bool s.off, .int .i64 s.fuse, .int .i64 s.reads, .int .i64 s.steps] ∧ Free wr (FX F (· = g)) A1 (s.sec.map .string) ∧ Free wr (FX F (· = g)) A1' (putV s.puts) ∧ ¬ F g ∧ s.sec.length = n ∧ s.reads ≤ j ∧ s.steps ≤ j ∧ s.puts.length ≤ j ∧ Below w.heap.size w wr
theorem inv_start {B d gs n g : Nat} {w w2 wr : World} {F : Nat → Prop} {pv : Value} {A5 : Option Addr} {c5 : Nat} (hd : DevAt w2 B F d gs n pv (newD n)) (hg : g = w2.heap.size) (hbx : Box wr g 44 #[.slice A5 n c5, .slice none 0 0, .bool false, .int .i64 0, .int .i64 0, .int .i64 0])
    (hown : wr.ownsRow (g + 1) 9 1 (.slice A5 n c5) n (List.replicate n (.string nought))) (hb : Below w.heap.size w w2) (hb2 : Below w2.heap.size w2 wr) : Inv B d gs n g w 0 wr := by
  subst hg
  refine ⟨newD n, F, pv, A5, none, c5, 0, hd.below hb2, hbx, ?_, Free.nil _ _ _, fun h => Nat.lt_irrefl _ (hd.own _ h).2, List.length_replicate, Nat.le_refl _, Nat.le_refl _, Nat.le_refl _, hb.trans (hb2.mono hb.size)⟩
  have e : (newD n).sec.map Value.string = List.replicate n (.string nought) := by show (List.replicate n nought).map _ = _; rw [List.map_replicate]
  rw [e]
  refine Free.own hown (fun k hk => ?_)
  rcases hk with hk | hk
  · have := (hd.own k hk).2
    omega
  · omega
theorem keepP {g : Nat} {a b c d e : Value} {W4 v w' : World} (hb : Below v.heap.size v w')
    (h : v.cell? ⟨g, 0, none⟩ = some a ∧ v.cell? ⟨g, 1, none⟩ = some b ∧ v.cell? ⟨g, 2, none⟩ = some c ∧ v.cell? ⟨g, 4, none⟩ = some d ∧ v.cell? ⟨g, 5, none⟩ = some e ∧ Below W4.heap.size W4 v) :
    w'.cell? ⟨g, 0, none⟩ = some a ∧ w'.cell? ⟨g, 1, none⟩ = some b ∧ w'.cell? ⟨g, 2, none⟩ = some c ∧ w'.cell? ⟨g, 4, none⟩ = some d ∧ w'.cell? ⟨g, 5, none⟩ = some e ∧ Below W4.heap.size W4 w' := by
  obtain ⟨h0, h1, h2, h3, h4, h5⟩ := h
  exact ⟨cell_keep hb h0, cell_keep hb h1, cell_keep hb h2, cell_keep hb h3, cell_keep hb h4, h5.trans (hb.mono h5.size)⟩
set_option maxRecDepth 100000 in
set_option maxHeartbeats 4000000 in
theorem plays_yes (n : Nat) (h1 : 16 ≤ n) (h2 : n ≤ 40) (hl : l.length ≤ 40) (hr : Row w w.heap.size A (actV l)) (ha : ∀ a ∈ l, AcOk w a ∧ a.data.size ≤ 8000 ∧ a.keep.length ≤ 8000) (H : Calls Try.prog 7 #[.slice A l.length c] w fun e w' => e = .returned (.bool true) ∧ Below w.heap.size w w') :
    Calls Try.prog 4 #[.int .i64 (n : Int), .slice A l.length c] w fun e w' => e = .returned (.bool true) ∧ Below w.heap.size w w' := by
  have HW := Lib.hid Dv.awake_any
  have HF := Lib.hid H
  have HN := Lib.hid (fun w => new_yes n w h1 (by omega))
  have HNo := Lib.hid noughts_any
  have hd : decide ((40 : Int) < (n : Int)) = false := by simp; omega
  have hd2 : decide ((n : Int) < 16) = false := by simp; omega
  have Hr := Lib.hid hr
  have Ha := Lib.hid ha
  have HI := Lib.hid (fun B d gs g w2 wr F pv A5 c5 => inv_start (B := B) (d := d) (gs := gs) (n := n) (g := g) (w := w) (w2 := w2) (wr := wr) (F := F) (pv := pv) (A5 := A5) (c5 := c5))
  have Hrep := Lib.hid (fun k => List.replicate_succ' (n := k) (a := Value.string nought))
  obtain ⟨i0, ti0, tz0, tz1, tz2⟩ := info_parts info_string
  generalize hM : l.length = m at *
  have Hm := Lib.hid hM
  clear hM hr ha H
  go_enter Try.func4, Try.ntmps4
  go_wp2_with fail
  refine HF.out.mono ?_
  rintro e w1 ⟨rfl, hb1⟩
  have Hb1 := Lib.hid hb1
  clear hb1
  go_wp2_with fail
  refine (HN.out _).mono ?_
  rintro e w2 ⟨d, gs, rfl, hdv, hb2⟩
  have Hdv := Lib.hid hdv
  have Hb2 := Lib.hid (Hb1.out.trans (hb2.mono Hb1.out.size))
  have HwB := Lib.hid Hb1.out.size
  clear hdv hb2 HF HN
  generalize nought = nt at *
  go_upto_region 9 with fail
  have hb3 : Below w2.heap.size w2 (w2.alloc (.cells #[.slice none 0 0, .slice none 0 0, .bool false, .int .i64 0, .int .i64 0, .int .i64 0] 44)) := (Below.refl _ _).alloc (Nat.le_refl _) _
  have Hb3 := Lib.hid hb3
  have HB3 := Lib.hid (Box.new w2 44 #[.slice none 0 0, .slice none 0 0, .bool false, .int .i64 0, .int .i64 0, .int .i64 0])
  clear hb3
  generalize w2.alloc (.cells #[.slice none 0 0, .slice none 0 0, .bool false, .int .i64 0, .int .i64 0, .int .i64 0] 44) = w3 at *
  go_wp2_with fail
  go_loopw [44] (fun v44 wr => ∃ (k : Nat) (A5 : Option Addr) (c5 : Nat), k ≤ n ∧ v44 = .int .i64 (k : Nat) ∧ Box wr w2.heap.size 44 #[.slice A5 k c5, .slice none 0 0, .bool false, .int .i64 0, .int .i64 0, .int .i64 0] ∧ wr.ownsRow (w2.heap.size + 1) 9 1 (.slice A5 k c5) k (List.replicate k (.string nt)) ∧ Below w2.heap.size w2 wr) (fun v44 _ => n - (intOf v44).toNat)
  case atStart => exact ⟨0, none, 0, Nat.zero_le _, rfl, HB3.out, ⟨rfl, .inl ⟨rfl, rfl⟩⟩, Hb3.out⟩
  case round =>
    obtain ⟨k, A5, c5, hk, rfl, hbx, hown, hbe⟩ := hrel
    have Hbx := Lib.hid hbx
    have Hown := Lib.hid hown
    have Hbe := Lib.hid hbe
    clear hbx hown hbe
    by_cases hkn : k < n
    · obtain ⟨⟨k0, k1, k2, k3, k4, k5⟩, ⟨j0, j1, j2, j3, j4, j5⟩⟩ := Box.six Hbx.out
      have Hrk := Lib.hid (Hrep.out k)
      have hkI : (k : Int) < (n : Int) := by omega
      have hgl : w2.heap.size < wr.heap.size := Hbx.out.lt
      clear k1 k2 k3 k4 k5 j1 j2 j3 j4 j5
      go_wp2_with fail
      go_region_law (first
        | (go_simp; go_at_call 15; refine (HNo.out _).mono ?_; rintro e wn ⟨rfl, hbn⟩; have HBn := Lib.hid (Box.under (w := wr.drew) Hbx.out hbn); have HOn := Lib.hid (own_turn (w := wr.drew) (p := fun _ => False) Hown.out (.below hbn) (fun _ _ h => h)); have Hen := Lib.hid (Hbe.out.drew.trans (hbn.mono Hbe.out.size)); have Hsn := Lib.hid (show w2.heap.size + 1 ≤ wn.heap.size from HBn.out.lt); obtain ⟨⟨q0, _, _, _, _, _⟩, ⟨f0, _, _, _, _, _⟩⟩ := Box.six HBn.out; have q0a : (wn.alloc (.cells #[.string nt] 9)).cell? ⟨w2.heap.size, 0, none⟩ = some (.slice A5 k c5) := (HBn.out.alloc _).cell 0; clear hbn)
        | (refine step_append1 rfl (.tmp 48) (.tmp 50) 35 rfl (w2.heap.size + 1) 9 i0 (.string ByteArray.empty) 16 Try.underlying35 ti0 tz0 tz1 tz2 rfl wn (.string nt) rfl (.slice A5 k c5) k (List.replicate k (.string nt)) rfl HOn.out rfl (by omega) (by decide) Hsn.out ?_; intro v' w5 hown5 happ5; obtain ⟨A6, c6, hf6⟩ := own_form hown5; subst hf6; have HB5 := Lib.hid (happ5.box HBn.out HOn.out (by omega)); have H5 := Lib.hid (happ5.below Hen.out HOn.out (by omega) (by have := Hsn.out; omega)); have HO5 := Lib.hid hown5; clear hown5 happ5; obtain ⟨⟨r0, _, _, _, _, _⟩, ⟨s0, _, _, _, _, _⟩⟩ := Box.six HB5.out))
      all_goals
        go_wp2_with fail
        refine ⟨⟨k + 1, A6, c6, by omega, rfl, HB5.out.set 0 _, ?_, H5.out.setCell (Nat.le_refl _) _⟩, by simp [intOf]; omega⟩
        rw [Hrk.out]
        exact own_turn HO5.out (Turn.cell (Turn.refl _ _) _ _) (fun j hj e => by have := (HO5.out.lt j hj).1; omega)
    · have hke : n = k := by omega
      subst hke
      have HInv := Lib.hid (HI.out _ d gs _ w2 wr _ _ A5 c5 Hdv.out rfl Hbx.out Hown.out Hb2.out Hbe.out)
      clear Hbx Hown Hbe HI Hdv Hb3 HB3 ti0 tz0 tz1 tz2 Hrep HNo
      go_wp2_with fail
      go_loopw [9, 10, 11, 57] (fun _ _ _ v57 wr => ∃ j : Nat, j ≤ m ∧ v57 = .int .i64 (j : Nat) ∧ Inv w1.heap.size d gs n w2.heap.size w j wr) (fun _ _ _ v57 _ => m - (intOf v57).toNat)
      case atStart => exact ⟨0, Nat.zero_le _, rfl, HInv.out⟩
      case round =>
        obtain ⟨j, hj, rfl, hinv⟩ := hrel
        clear HInv
        by_cases hjm : j < m
        · obtain ⟨s, F, pv, A1, A1', c1, c1', hdv, hbx, hf1, hf2, hFg, hsl, l1, l2, l3, hbe⟩ := hinv
          have hjl : j < l.length := by rw [Hm.out]; exact hjm
          obtain ⟨⟨_, _, hrow, hat⟩, hda, hkl⟩ := Ha.out _ (List.getElem_mem hjl)
          have hgl := hbx.lt
          have HDo := Lib.hid (show ∀ W, Below wr.heap.size wr W → Calls Try.prog 16 #[.pointer (some ⟨d, 0, none⟩), .agg #[.slice A1 n c1, .slice A1' s.puts.length c1', .bool s.off, .int .i64 s.fuse, .int .i64 s.reads, .int .i64 s.steps], .agg #[.int .i64 (l[j]'hjl).kind, .int .i64 (l[j]'hjl).at_, .int .i64 (l[j]'hjl).torn, .string (l[j]'hjl).data, .bool (l[j]'hjl).raw, .slice (l[j]'hjl).A (l[j]'hjl).keep.length (l[j]'hjl).c]] W (DoesX w1.heap.size F (· = w2.heap.size) d gs n n (actD s (l[j]'hjl)) W) from fun W hW => does_x (hdv.below hW) hsl (hf1.below hW) (hf2.below hW) (fun k hk => by have := hW.size; omega) (by omega) (by omega) (by omega) (l[j]'hjl) (by omega) (by omega) hat ((hrow.below (hbe.trans (hW.mono hbe.size))).more HwB.out))
          have hls := less_act s (l[j]'hjl)
          have Hls := Lib.hid (show (actD s (l[j]'hjl)).sec.length = n ∧ (actD s (l[j]'hjl)).reads ≤ j + 1 ∧ (actD s (l[j]'hjl)).steps ≤ j + 1 ∧ (actD s (l[j]'hjl)).puts.length ≤ j + 1 by obtain ⟨q1, q2, q3, q4⟩ := hls; exact ⟨by omega, by omega, by omega, by omega⟩)
          obtain ⟨b, off, rfl, hb, a0, a1, a2, a3, a4, a5⟩ := Row.acts ((Hr.out.below hbe).more hbe.size) j hjl
          have HFg := Lib.hid hFg
          have HFB := Lib.hid (show ∀ k, F k → w1.heap.size ≤ k from fun k hk => (hdv.own k hk).1)
          have Hbx := Lib.hid hbx
          have Hbe := Lib.hid hbe
          clear hat hda hkl hrow hls l1 l2 l3 hsl hf1 hf2 hFg hdv hbx hbe
          generalize actD s (l[j]'hjl) = s1 at *
          generalize (l[j]'hjl).kind = x0 at *
          generalize (l[j]'hjl).at_ = x1 at *
          generalize (l[j]'hjl).torn = x2 at *
          generalize (l[j]'hjl).data = x3 at *
          generalize (l[j]'hjl).raw = x4 at *
          generalize (l[j]'hjl).A = x5 at *
          generalize (l[j]'hjl).keep.length = x6 at *
          generalize (l[j]'hjl).c = x7 at *
          generalize s.puts.length = m0 at *
          generalize s.off = o0 at *
          generalize s.fuse = f0 at *
          generalize s.reads = r0 at *
          generalize s.steps = t0 at *
          have hi0 : (0 : Int) ≤ (j : Int) := by omega
          have hi1 : (j : Int) < (m : Int) := by omega
          have hbA := (Below.refl wr.heap.size wr).alloc (Nat.le_refl _) (.cells #[.int .i64 x0, .int .i64 x1, .int .i64 x2, .string x3, .bool x4, .slice x5 x6 x7] 31)
          have HBq1 := Lib.hid (Hbx.out.under hbA)
          have HBa1 := Lib.hid (Box.new wr 31 #[.int .i64 x0, .int .i64 x1, .int .i64 x2, .string x3, .bool x4, .slice x5 x6 x7])
          have HDo1 := Lib.hid (HDo.out _ hbA)
          have Hbe1 := Lib.hid (Hbe.out.trans (hbA.mono Hbe.out.size))
          clear hbA HDo
          go_upto_region 16 with fail
          clear a0 a1 a2 a3 a4 a5
          generalize wr.alloc (.cells #[.int .i64 x0, .int .i64 x1, .int .i64 x2, .string x3, .bool x4, .slice x5 x6 x7] 31) = W1 at *
          obtain ⟨⟨k0, k1, k2, k3, k4, k5⟩, _⟩ := Box.six HBq1.out
          obtain ⟨⟨a0, a1, a2, a3, a4, a5⟩, _⟩ := Box.six HBa1.out
          go_wp2_with fail
          refine HDo1.out.mono ?_
          rintro e W2 ⟨F', pv', A2, A2', c2, c2', rfl, hd2, g1, g2, ht2, hF2⟩
          have hgW1 : w2.heap.size < W1.heap.size := HBq1.out.lt
          have HBq2 := Lib.hid (HBq1.out.turn ht2 HFg.out)
          have Hbe2 := Lib.hid (Hbe1.out.trans (ht2.toBelow (fun k hk => Nat.le_trans HwB.out (HFB.out k hk)) Hbe1.out.size))
          have HFg' := Lib.hid (show ¬ F' w2.heap.size from fun h => (hF2 _ h).elim HFg.out (fun h => by omega))
          have hb3 := (Below.refl W2.heap.size W2).alloc (Nat.le_refl _) (.cells #[.slice A2 n c2, .slice A2' s1.puts.length c2', .bool s1.off, .int .i64 s1.fuse, .int .i64 s1.reads, .int .i64 s1.steps] 44)
          have HBq3 := Lib.hid (HBq2.out.under hb3)
          have HBn3 := Lib.hid (Box.new W2 44 #[.slice A2 n c2, .slice A2' s1.puts.length c2', .bool s1.off, .int .i64 s1.fuse, .int .i64 s1.reads, .int .i64 s1.steps])
          have Hd3 := Lib.hid (hd2.below hb3)
          have Hg1 := Lib.hid (g1.below hb3)
          have Hg2 := Lib.hid (g2.below hb3)
          have Hbe3 := Lib.hid (Hbe2.out.trans (hb3.mono Hbe2.out.size))
          clear k0 k1 k2 k3 k4 k5 a0 a1 a2 a3 a4 a5 HBq1 HBa1 HBq2 HDo1 Hbe1 Hbe2 hd2 g1 g2 ht2 hF2 hb3
          go_upto_region 17 with fail
          generalize W2.alloc (.cells #[.slice A2 n c2, .slice A2' s1.puts.length c2', .bool s1.off, .int .i64 s1.fuse, .int .i64 s1.reads, .int .i64 s1.steps] 44) = W3 at *
          obtain ⟨⟨k0, k1, k2, k3, k4, k5⟩, ⟨j0, j1, j2, j3, j4, j5⟩⟩ := Box.six HBq3.out
          obtain ⟨⟨a0, a1, a2, a3, a4, a5⟩, _⟩ := Box.six HBn3.out
          have T4 := Lib.hid (show Turn (· = w2.heap.size) W3 ((((((W3.setCell ⟨w2.heap.size, 0, none⟩ (.slice A2 n c2)).setCell ⟨w2.heap.size, 1, none⟩ (.slice A2' s1.puts.length c2')).setCell ⟨w2.heap.size, 2, none⟩ (.bool s1.off)).setCell ⟨w2.heap.size, 3, none⟩ (.int .i64 s1.fuse)).setCell ⟨w2.heap.size, 4, none⟩ (.int .i64 s1.reads)).setCell ⟨w2.heap.size, 5, none⟩ (.int .i64 s1.steps)) from Turn.cell (Turn.cell (Turn.cell (Turn.cell (Turn.cell (Turn.cell (Turn.refl _ _) _ _) _ _) _ _) _ _) _ _) _ _)
          have HBq4 := Lib.hid (Box.six_set (v0 := .slice A2 n c2) (v1 := .slice A2' s1.puts.length c2') (v2 := .bool s1.off) (v3 := .int .i64 s1.fuse) (v4 := .int .i64 s1.reads) (v5 := .int .i64 s1.steps) HBq3.out)
          go_upto_region 18 with fail
          clear k0 k1 k2 k3 k4 k5 j0 j1 j2 j3 j4 j5 a0 a1 a2 a3 a4 a5
          generalize (((((W3.setCell ⟨w2.heap.size, 0, none⟩ (.slice A2 n c2)).setCell ⟨w2.heap.size, 1, none⟩ (.slice A2' s1.puts.length c2')).setCell ⟨w2.heap.size, 2, none⟩ (.bool s1.off)).setCell ⟨w2.heap.size, 3, none⟩ (.int .i64 s1.fuse)).setCell ⟨w2.heap.size, 4, none⟩ (.int .i64 s1.reads)).setCell ⟨w2.heap.size, 5, none⟩ (.int .i64 s1.steps) = W4 at *
          have hd4 := Hd3.out.turn T4.out (fun k hk e => HFg'.out (e ▸ hk))
          have hg1 := Hg1.out.turn T4.out (fun k hk => Or.inr hk)
          have hg2 := Hg2.out.turn T4.out (fun k hk => Or.inr hk)
          have hsl1 := Hls.out.1
          have HNext := Lib.hid (show ∀ W, Below W4.heap.size W4 W → Inv w1.heap.size d gs n w2.heap.size w (j + 1) W from fun W hW => ⟨s1, F', pv', A2, A2', c2, c2', hd4.below hW, HBq4.out.under hW, hg1.below hW, hg2.below hW, HFg'.out, Hls.out.1, Hls.out.2.1, Hls.out.2.2.1, Hls.out.2.2.2, (Hbe3.out.trans (T4.out.toBelow (fun k hk => by have := Hb2.out.size; omega) Hbe3.out.size)).trans (hW.mono (Nat.le_trans Hbe3.out.size T4.out.size))⟩)
          have HSz := Lib.hid (show ∀ W, Below W4.heap.size W4 W → Calls Try.prog 13 #[.pointer (some ⟨d, 0, none⟩)] W fun e w' => ∃ B1 e1 B2 e2, e = .returned (.agg #[.slice B1 n e1, .slice B2 s1.puts.length e2]) ∧ Row w' w'.heap.size B1 (s1.sec.map .string) ∧ Row w' w'.heap.size B2 (putV s1.puts) ∧ Below W.heap.size W w' from fun W hW => by
            refine (seize_yes (hd4.below hW)).mono ?_
            rintro e w' ⟨v1, v2, rfl, o1, o2, hb⟩
            obtain ⟨B1, e1, rfl⟩ := own_form2 o1
            obtain ⟨B2, e2, rfl⟩ := own_form2 o2
            exact ⟨B1, e1, B2, e2, by rw [hsl1], row_of_own2 o1, row_of_own2 o2, hb⟩)
          have HSm := Lib.hid (show ∀ W B1 e1 B2 e2, Below W4.heap.size W4 W → Row W W.heap.size B1 (s1.sec.map .string) → Row W W.heap.size B2 (putV s1.puts) → Calls Try.prog 17 #[.agg #[.slice B1 n e1, .slice B2 s1.puts.length e2], .agg #[.slice A2 n c2, .slice A2' s1.puts.length c2']] W fun e w' => e = .returned (.bool true) ∧ Below W.heap.size W w' from fun W B1 e1 B2 e2 hW r1 r2 => by
            have h1 := (hg1.below hW).row
            have h2 := (hg2.below hW).row
            rw [putV_I] at r2 h2
            have hln : (toI s1.puts).length = s1.puts.length := by unfold toI; simp
            have := same_yes B1 A2 B2 A2' e1 c2 e2 c2' s1.sec (toI s1.puts) W (by rw [hsl1]; omega) (by rw [hln]; exact hd4.good.puts) r1 h1 r2 h2
            rw [hln, hsl1] at this
            exact this)
          have HOf := Lib.hid (show ∀ W, Below W4.heap.size W4 W → Calls Try.prog 18 #[.pointer (some ⟨d, 0, none⟩)] W fun e w' => e = .returned (.bool s1.off) ∧ W = w' from fun W hW => off_yes d _ _ n pv' _ _ _ _ W (hd4.below hW).box hd4.n0 hd4.n1)
          have HRe := Lib.hid (show ∀ W, Below W4.heap.size W4 W → Calls Try.prog 19 #[.pointer (some ⟨d, 0, none⟩)] W fun e w' => e = .returned (.int .i64 s1.reads) ∧ W = w' from fun W hW => reads_yes d _ _ n pv' _ _ _ _ W (hd4.below hW).box hd4.n0 hd4.n1)
          have HSt := Lib.hid (show ∀ W, Below W4.heap.size W4 W → Calls Try.prog 20 #[.pointer (some ⟨d, 0, none⟩)] W fun e w' => e = .returned (.int .i64 s1.steps) ∧ W = w' from fun W hW => steps_yes d _ _ n pv' _ _ _ _ W (hd4.below hW).box hd4.n0 hd4.n1)
          have HSi := Lib.hid (show ∀ W, Below W4.heap.size W4 W → Calls Try.prog 21 #[.pointer (some ⟨d, 0, none⟩)] W fun e w' => e = .returned (.int .i64 n) ∧ W = w' from fun W hW => by
            have := size_yes d _ _ n pv' _ _ _ _ W (hd4.below hW).box hd4.n0 hd4.n1
            rw [hsl1] at this
            exact this)
          clear hd4 hg1 hg2 hsl1 Hd3 Hg1 Hg2 T4 HBq3 HBn3 Hls
          generalize s1.puts.length = m1 at *
          generalize s1.off = o1 at *
          generalize s1.fuse = f1 at *
          generalize s1.reads = r1 at *
          generalize s1.steps = t1 at *
          obtain ⟨⟨k0, k1, k2, k3, k4, k5⟩, _⟩ := Box.six HBq4.out
          have u1 : (o1 != o1) = false := by simp
          have u2 : ((r1 : Int) != (r1 : Int)) = false := by simp
          have u3 : ((t1 : Int) != (t1 : Int)) = false := by simp
          have u4 : ((n : Int) != (n : Int)) = false := by simp
          go_wp2_with fail
          go_region_held3 (fun w' => w'.cell? ⟨w2.heap.size, 0, none⟩ = some (.slice A2 n c2) ∧ w'.cell? ⟨w2.heap.size, 1, none⟩ = some (.slice A2' m1 c2') ∧ w'.cell? ⟨w2.heap.size, 2, none⟩ = some (.bool o1) ∧ w'.cell? ⟨w2.heap.size, 4, none⟩ = some (.int .i64 r1) ∧ w'.cell? ⟨w2.heap.size, 5, none⟩ = some (.int .i64 t1) ∧ Below W4.heap.size W4 w')
            (first
              | exact ⟨k0, k1, k2, k4, k5, (Below.refl _ _).drew⟩
              | (go_split_ands; exact keepP hbx ⟨by assumption, by assumption, by assumption, by assumption, by assumption, by assumption⟩)
              | (go_split_ands; exact ⟨by assumption, by assumption, by assumption, by assumption, by assumption, by assumption⟩))
            (first
              | (go_at_call 13; go_split_ands; refine (HSz.out _ (by assumption)).mono ?_; rintro e wx ⟨B1, e1, B2, e2, rfl, rw1, rw2, hbx⟩)
              | (go_at_call 17; go_split_ands; refine (HSm.out _ _ _ _ _ (by assumption) (by assumption) (by assumption)).mono ?_; rintro e wx ⟨rfl, hbx⟩)
              | (go_at_call 18; go_split_ands; refine (HOf.out _ (by assumption)).mono ?_; rintro e wx ⟨rfl, rfl⟩)
              | (go_at_call 19; go_split_ands; refine (HRe.out _ (by assumption)).mono ?_; rintro e wx ⟨rfl, rfl⟩)
              | (go_at_call 20; go_split_ands; refine (HSt.out _ (by assumption)).mono ?_; rintro e wx ⟨rfl, rfl⟩)
              | (go_at_call 21; go_split_ands; refine (HSi.out _ (by assumption)).mono ?_; rintro e wx ⟨rfl, rfl⟩))
          rename_i hHeld
          obtain ⟨_, _, _, _, _, hbw⟩ := hHeld
          have Hbw := Lib.hid hbw
          clear hbw
          go_wp2_with fail
          exact ⟨⟨j + 1, by omega, rfl, HNext.out _ Hbw.out⟩, by simp [intOf]; omega⟩
        · have hje : m = j := by omega
          subst hje
          obtain ⟨s, F, pv, A1, A1', c1, c1', hdv, hbx, hf1, hf2, hFg, hsl, l1, l2, l3, hbe⟩ := hinv
          have Hbe := Lib.hid hbe
          clear hdv hbx hf1 hf2 hFg hsl l1 l2 l3 hbe
          go_wp2_with fail
          refine (HW.out _).mono ?_
          rintro e wz ⟨rfl, hbz⟩
          have Hbz := Lib.hid (Hbe.out.trans (hbz.mono Hbe.out.size))
          clear hbz
          go_wp2_with fail
          go_ret
          exact ⟨rfl, Hbz.out⟩
end

end Go.Proofs.Ytbjjfbojcokmgaa.devicePlays
