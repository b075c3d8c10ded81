/- Layer 7 of the document: Sync, where it is done. -/
import Derived.Test.YtbjjfbojcokmgaaPl5
namespace Go.Proofs.Ytbjjfbojcokmgaa.Dv
open Go.RowKit Base
set_option linter.unusedVariables false
set_option linter.unusedSimpArgs false

theorem rsync_end (F : Nat → Prop) {s : Dv} {w w4 W : World} {A1 : Option Addr} {c1 base : Nat} (hf : s.fuse ≠ 1) (hF : ∀ k, F k → k < w.heap.size) (hbase : w.heap.size + 2 ≤ base)
    (hown : w4.ownsRow base 9 1 (.slice A1 s.sec.length c1) s.sec.length ((layTo s.sec s.puts s.sec.length).map .string)) (hb4 : Below w.heap.size w w4) (hW : Turn (fun k => k = w.heap.size ∨ k = w.heap.size + 1) w4 W) :
    RetQ F (syncD s) 0 w (.returned (.tuple #[.agg #[.slice A1 s.sec.length c1, .slice none 0 0, .bool (stepD s).off, .int .i64 (stepD s).fuse, .int .i64 (stepD s).reads, .int .i64 (stepD s).steps], .int .i64 0])) W := by
  have hbW : Below w.heap.size w W := hb4.trans (hW.toBelow (fun k hk => by omega) hb4.size)
  have hsl : (syncD s).sec = layAll s.sec s.puts := rfl
  have hln : (syncD s).sec.length = s.sec.length := by rw [hsl, layAll_len]
  refine ⟨_, rfl, ⟨A1, none, c1, 0, ?_, ?_, Free.nil _ _ _⟩, hbW⟩
  · unfold qv
    rw [hln]
    rfl
  · rw [hsl, ← layTo_all]
    exact Free.own (own_turn hown hW (fun k hk e => by have := (hown.lt k hk).1; omega)) (fun k hk => by have := hF k hk; omega)
section
variable (A A' : Option Addr) (c c' : Nat) (s : Dv) (w : World)
set_option maxRecDepth 100000 in
set_option maxHeartbeats 2000000 in
theorem rsync_yes (F : Nat → Prop) (hg : Good s) (hF : ∀ k, F k → k < w.heap.size) (h1 : Free w F A (s.sec.map .string)) (h2 : Free w F A' (putV s.puts)) (ho : s.off = false) (hf : s.fuse ≠ 1) (hs : s.steps < 1000000) :
    Calls Try.prog 41 #[qv A A' c c' s] w (RetQ F (syncD s) 0 w) := by
  have HS := Lib.hid (fun w => rstep_any A A' c c' s w hg hs)
  rw [decide_eq_true hf] at HS
  have hsl : (stepD s).sec.length = s.sec.length := by unfold stepD; split <;> rfl
  have hpl : (stepD s).puts.length = s.puts.length := by unfold stepD; split <;> rfl
  have HE := Lib.hid (fun w4 W A1 c1 base => rsync_end F (s := s) (w := w) (w4 := w4) (W := W) (A1 := A1) (c1 := c1) (base := base) hf hF)
  have HSh := Lib.hid (show ∀ W k, k < s.sec.length → Below w.heap.size w W → Calls Try.prog 49 #[.agg #[.slice A s.sec.length c, .slice A' s.puts.length c'], .int .i64 (k : Nat)] W fun e w' => e = .returned (.string (shown s.sec s.puts k)) ∧ Below W.heap.size W w' from fun W k hk hW => rshown_any A A' c c' s.sec s.puts k W (by have := hg.hi; omega) hg.puts hk ((h1.row.below hW).more hW.size) ((h2.row.below hW).more hW.size))
  have Hst := Lib.hid (fun k => layTo_step s.sec s.puts k)
  have hn : s.sec.length ≤ 4096 := hg.hi
  have H00 := Lib.hid (show layTo s.sec s.puts 0 = [] from rfl)
  obtain ⟨i0, ti0, tz0, tz1, tz2⟩ := info_parts info_string
  generalize hQ : RetQ F (syncD s) 0 w = Q at *
  unfold qv at *
  simp only [hsl, hpl] at HS
  rw [ho] at *
  clear hg hf hsl hpl hs hQ hF h1 h2 ho
  generalize (stepD s).off = o' at *
  generalize (stepD s).fuse = f' at *
  generalize (stepD s).reads = r' at *
  generalize (stepD s).steps = t' at *
  generalize hLT : layTo s.sec s.puts = LT at *
  generalize hSH : shown s.sec s.puts = SH at *
  clear hLT hSH
  generalize s.sec.length = n at *
  generalize s.puts.length = m at *
  generalize s.fuse = f at *
  generalize s.reads = r at *
  generalize s.steps = t at *
  go_enter Try.func41, Try.ntmps41
  go_wp2_with fail
  refine (HS.out _).mono ?_
  rintro e w2 ⟨rfl, hb1⟩
  obtain ⟨B0, B1, hb⟩ := two_new hb1
  have Hb2 := Lib.hid hb
  obtain ⟨⟨k0, k1, k2, k3, k4, k5⟩, ⟨j0, j1, j2, j3, j4, j5⟩⟩ := Box.six B0
  have HB1 := Lib.hid B1
  have HB0 := Lib.hid B0
  clear B0 B1 hb hb1
  go_upto_region 6 with fail
  have C0 := Lib.hid ((((((HB0.out.set 0 (.slice A n c)).set 1 (.slice A' m c')).set 2 (.bool o')).set 3 (.int .i64 f')).set 4 (.int .i64 r')).set 5 (.int .i64 t'))
  have C1 := Lib.hid ((((((HB1.out.far (p := ⟨w.heap.size, 0, none⟩) (by simp) (.slice A n c)).far (p := ⟨w.heap.size, 1, none⟩) (by simp) (.slice A' m c')).far (p := ⟨w.heap.size, 2, none⟩) (by simp) (.bool o')).far (p := ⟨w.heap.size, 3, none⟩) (by simp) (.int .i64 f')).far (p := ⟨w.heap.size, 4, none⟩) (by simp) (.int .i64 r')).far (p := ⟨w.heap.size, 5, none⟩) (by simp) (.int .i64 t'))
  have Hb3 := Lib.hid (below_set6' (g := w.heap.size) (v0 := .slice A n c) (v1 := .slice A' m c') (v2 := .bool o') (v3 := .int .i64 f') (v4 := .int .i64 r') (v5 := .int .i64 t') Hb2.out (Nat.le_refl _))
  clear k0 k1 k2 k3 k4 k5 j0 j1 j2 j3 j4 j5
  generalize (((((w2.setCell ⟨w.heap.size, 0, none⟩ (.slice A n c)).setCell ⟨w.heap.size, 1, none⟩ (.slice A' m c')).setCell ⟨w.heap.size, 2, none⟩ (.bool o')).setCell ⟨w.heap.size, 3, none⟩ (.int .i64 f')).setCell ⟨w.heap.size, 4, none⟩ (.int .i64 r')).setCell ⟨w.heap.size, 5, none⟩ (.int .i64 t') = w3 at *
  have HC0 := Lib.hid (show Box w3 w.heap.size 44 #[.slice A n c, .slice A' m c', .bool o', .int .i64 f', .int .i64 r', .int .i64 t'] from C0.out)
  have hlt3 : w.heap.size + 2 ≤ w3.heap.size := by have := C1.out.lt; omega
  go_wp2_with fail
  go_loopw [5, 6] (fun v5 v6 wr => ∃ k : Nat, k ≤ n ∧ v6 = .int .i64 (k : Nat) ∧ wr.ownsRow w3.heap.size 9 1 v5 k ((LT k).map .string) ∧ Box wr w.heap.size 44 #[.slice A n c, .slice A' m c', .bool o', .int .i64 f', .int .i64 r', .int .i64 t'] ∧ Box wr (w.heap.size + 1) 44 #[.slice none 0 0, .slice none 0 0, .bool false, .int .i64 0, .int .i64 0, .int .i64 0] ∧ Below w.heap.size w wr ∧ w3.heap.size ≤ wr.heap.size) (fun _ v6 _ => n - (intOf v6).toNat)
  case atStart => exact ⟨0, Nat.zero_le _, rfl, by rw [H00.out]; exact ⟨rfl, .inl ⟨rfl, rfl⟩⟩, HC0.out, C1.out, Hb3.out, Nat.le_refl _⟩
  case round =>
    obtain ⟨k, hk, rfl, hown, hQ0, hQ1, hbe, hsz⟩ := hrel
    obtain ⟨A5, c5, rfl⟩ := own_form hown
    obtain ⟨⟨k0, k1, k2, k3, k4, k5⟩, ⟨j0, j1, j2, j3, j4, j5⟩⟩ := Box.six hQ0
    have Hown := Lib.hid hown
    have HQ0 := Lib.hid hQ0
    have HQ1 := Lib.hid hQ1
    have Hbe := Lib.hid hbe
    clear hown hQ0 hQ1 hbe
    by_cases hkn : k < n
    · have HC := Lib.hid (HSh.out wr k hkn Hbe.out)
      have Hk := Lib.hid (Hst.out k)
      clear j0 j1 j2 j3 j4 j5
      generalize SH k = sh at *
      go_wp2_with fail
      refine HC.out.mono ?_
      rintro e w4 ⟨rfl, hb4⟩
      have Hown4 := Lib.hid (own_turn (p := fun _ => False) Hown.out (.below hb4) (fun _ _ h => h))
      have HQ04 := Lib.hid (HQ0.out.under hb4)
      have HQ14 := Lib.hid (HQ1.out.under hb4)
      have Hbe4 := Lib.hid (Hbe.out.trans (hb4.mono Hbe.out.size))
      have hs4 : w3.heap.size ≤ w4.heap.size := Nat.le_trans hsz hb4.size
      have Hs4 := Lib.hid hs4
      clear hb4 k0 k1 k2 k3 k4 k5 hs4
      go_wp2_with (at_builtin; refine wpList_append1 rfl _ _ 35 rfl w3.heap.size 9 i0 (.string ByteArray.empty) 16 Try.underlying35 ti0 tz0 tz1 tz2 rfl w4 (.string sh) rfl (.slice A5 k c5) k ((LT k).map .string) rfl Hown4.out rfl (by omega) (by decide) Hs4.out ?_; intro v' w5 hown5 happ; have Hown5 := Lib.hid hown5; have Happ := Lib.hid happ; clear hown5 happ)
      refine ⟨⟨k + 1, by omega, rfl, ?_, Happ.out.box HQ04.out Hown4.out (by omega), Happ.out.box HQ14.out Hown4.out (by omega), Happ.out.below Hbe4.out Hown4.out (by omega) (Nat.le_trans (by omega) Hs4.out), Nat.le_trans Hs4.out Happ.out.grown.size⟩, by simp [intOf]; omega⟩
      rw [Hk.out, List.map_append]
      exact Hown5.out
    · have hke : k = n := by omega
      subst hke
      have KEY := Lib.hid (fun W hW => HE.out wr W A5 c5 w3.heap.size hlt3 Hown.out Hbe.out hW)
      have T6 := Lib.hid (show Turn (fun k => k = w.heap.size ∨ k = w.heap.size + 1) wr ((wr.setCell ⟨w.heap.size, 0, none⟩ (.slice A5 k c5)).setCell ⟨w.heap.size, 1, none⟩ (.slice none 0 0)) from Turn.put (Turn.put (Turn.refl _ _) _ _ (.inl rfl)) _ _ (.inl rfl))
      have G0 := Lib.hid (show Box ((wr.setCell ⟨w.heap.size, 0, none⟩ (.slice A5 k c5)).setCell ⟨w.heap.size, 1, none⟩ (.slice none 0 0)) w.heap.size 44 #[.slice A5 k c5, .slice none 0 0, .bool o', .int .i64 f', .int .i64 r', .int .i64 t'] from (HQ0.out.set 0 _).set 1 _)
      have G1 := Lib.hid ((HQ1.out.far (p := ⟨w.heap.size, 0, none⟩) (by simp) (.slice A5 k c5)).far (p := ⟨w.heap.size, 1, none⟩) (by simp) (.slice none 0 0))
      go_upto_region 12 with fail
      clear k0 k1 k2 k3 k4 k5 j0 j1 j2 j3 j4 j5
      generalize (wr.setCell ⟨w.heap.size, 0, none⟩ (.slice A5 k c5)).setCell ⟨w.heap.size, 1, none⟩ (.slice none 0 0) = w6 at *
      obtain ⟨⟨k0, k1, k2, k3, k4, k5⟩, _⟩ := Box.six G0.out
      obtain ⟨⟨m0, m1, m2, m3, m4, m5⟩, ⟨e0, e1, e2, e3, e4, e5⟩⟩ := Box.six G1.out
      go_wp2_with fail
      refine bodyPost_ret (v := .tuple #[.agg #[.slice A5 k c5, .slice none 0 0, .bool o', .int .i64 f', .int .i64 r', .int .i64 t'], .int .i64 0]) (by simp [results, Try.results41, go_sem, m0, m1, m2, m3, m4, m5]) rfl (KEY.out _ ?_)
      exact Turn.put (Turn.put (Turn.put (Turn.put (Turn.put (Turn.put T6.out _ _ (.inr rfl)) _ _ (.inr rfl)) _ _ (.inr rfl)) _ _ (.inr rfl)) _ _ (.inr rfl)) _ _ (.inr rfl)
end

end Go.Proofs.Ytbjjfbojcokmgaa.Dv
