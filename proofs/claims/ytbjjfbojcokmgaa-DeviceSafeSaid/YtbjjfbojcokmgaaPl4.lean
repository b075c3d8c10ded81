/- Layer 7 of the document: Write. -/
import Derived.Test.YtbjjfbojcokmgaaPl3
import Derived.Test.YtbjjfbojcokmgaaAppN
namespace Go.Proofs.Ytbjjfbojcokmgaa.Dv
open Go.RowKit Base
set_option linter.unusedVariables false
set_option linter.unusedSimpArgs false

theorem rstep_any (A A' : Option Addr) (c c' : Nat) (s : Dv) (w : World) (hg : Good s) (hs : s.steps < 1000000) :
    Calls Try.prog 50 #[qv A A' c c' s] w fun e w' => e = .returned (.tuple #[qv A A' c c' (stepD s), .bool (decide (s.fuse ≠ 1))]) ∧ Below w.heap.size w w' := by
  by_cases h1 : s.fuse = 1
  · have e1 : qv A A' c c' s = .agg #[.slice A s.sec.length c, .slice A' s.puts.length c', .bool s.off, .int .i64 1, .int .i64 s.reads, .int .i64 s.steps] := by unfold qv; rw [h1]; rfl
    have e2 : qv A A' c c' (stepD s) = .agg #[.slice A s.sec.length c, .slice A' s.puts.length c', .bool true, .int .i64 0, .int .i64 s.reads, .int .i64 s.steps] := by unfold qv stepD; rw [if_pos h1]; rfl
    rw [e1, e2, decide_eq_false (by simpa using h1)]
    exact rstep_down A A' _ c _ c' s.off 0 s.reads s.steps w
  · rw [decide_eq_true h1]
    by_cases h0 : s.fuse = 0
    · have e1 : qv A A' c c' s = .agg #[.slice A s.sec.length c, .slice A' s.puts.length c', .bool s.off, .int .i64 0, .int .i64 s.reads, .int .i64 s.steps] := by unfold qv; rw [h0]; rfl
      have e2 : qv A A' c c' (stepD s) = .agg #[.slice A s.sec.length c, .slice A' s.puts.length c', .bool s.off, .int .i64 0, .int .i64 s.reads, .int .i64 ((s.steps : Int) + 1)] := by rw [stepD_go h1]; unfold qv; rw [h0]; rfl
      rw [e1, e2]
      exact rstep_zero A A' _ c _ c' s.off 0 s.reads s.steps w hs
    · have e2 : qv A A' c c' (stepD s) = .agg #[.slice A s.sec.length c, .slice A' s.puts.length c', .bool s.off, .int .i64 ((s.fuse : Int) - 1), .int .i64 s.reads, .int .i64 ((s.steps : Int) + 1)] := by
        rw [stepD_go h1]
        unfold qv
        show Value.agg #[_, _, _, .int .i64 ((s.fuse - 1 : Nat) : Int), _, .int .i64 ((s.steps + 1 : Nat) : Int)] = _
        rw [show ((s.fuse - 1 : Nat) : Int) = (s.fuse : Int) - 1 by omega]
        rfl
      rw [e2]
      exact rstep_more A A' _ c _ c' s.off s.fuse s.reads s.steps w (by omega) hg.fuse hs

/-- how the document's calls that hand a device and a number back end -/
def RetQ (F : Nat → Prop) (s : Dv) (n : Int) (w : World) (e : Ending) (w' : World) : Prop := ∃ v, e = .returned (.tuple #[v, .int .i64 n]) ∧ Qat w' F v s ∧ Below w.heap.size w w'
section
variable (A A' : Option Addr) (c c' : Nat) (s : Dv) (w : World)
set_option maxRecDepth 100000 in
set_option maxHeartbeats 1000000 in
theorem rwrite_no (hg : Good s) (i : Int) (x : ByteArray) (hi : readyD s i ≠ 0) :
    Calls Try.prog 40 #[qv A A' c c' s, .int .i64 i, .string x] w fun e w' => e = .returned (.tuple #[qv A A' c c' s, .int .i64 (readyD s i)]) ∧ Below w.heap.size w w' := by
  have HR := Lib.hid (fun w => rready_any A A' c c' s w hg i)
  unfold qv at *
  generalize readyD s i = q at *
  have hq : (q != 0) = true := by rw [bne_iff_ne]; exact hi
  clear hi hg
  generalize s.sec.length = n at *
  generalize s.puts.length = m at *
  generalize s.off = o at *
  generalize s.fuse = f at *
  generalize s.reads = r at *
  generalize s.steps = t at *
  go_enter Try.func40, Try.ntmps40
  go_wp2_with fail
  refine (HR.out _).mono ?_
  rintro e w1 ⟨rfl, hb1⟩
  obtain ⟨B0, B1, hb⟩ := two_new hb1
  have Hb := Lib.hid hb
  obtain ⟨⟨k0, k1, k2, k3, k4, k5⟩, _⟩ := Box.six B0
  obtain ⟨⟨m0, m1, m2, m3, m4, m5⟩, ⟨e0, e1, e2, e3, e4, e5⟩⟩ := Box.six B1
  clear B0 B1 hb hb1
  go_wp2_with fail
  refine bodyPost_ret (v := .tuple #[.agg #[.slice A n c, .slice A' m c', .bool o, .int .i64 f, .int .i64 r, .int .i64 t], .int .i64 q]) (by simp [results, Try.results40, go_sem, m0, m1, m2, m3, m4, m5]) rfl ⟨rfl, ?_⟩
  exact below_set6' Hb.out (by omega)
set_option maxRecDepth 100000 in
set_option maxHeartbeats 1000000 in
theorem rwrite_size (hg : Good s) (i : Int) (x : ByteArray) (hi : readyD s i = 0) (hm : x.size ≤ maxLen) (hx : x.size ≠ 128) :
    Calls Try.prog 40 #[qv A A' c c' s, .int .i64 i, .string x] w fun e w' => e = .returned (.tuple #[qv A A' c c' s, .int .i64 2]) ∧ Below w.heap.size w w' := by
  have HR := Lib.hid (fun w => rready_any A A' c c' s w hg i)
  rw [hi] at HR
  unfold qv at *
  unfold maxLen at hm
  have hd : ((x.size : Int) != 128) = true := by rw [bne_iff_ne]; omega
  clear hi hg hx
  generalize s.sec.length = n at *
  generalize s.puts.length = m at *
  generalize s.off = o at *
  generalize s.fuse = f at *
  generalize s.reads = r at *
  generalize s.steps = t at *
  go_enter Try.func40, Try.ntmps40
  go_wp2_with fail
  refine (HR.out _).mono ?_
  rintro e w1 ⟨rfl, hb1⟩
  obtain ⟨B0, B1, hb⟩ := two_new hb1
  have Hb := Lib.hid hb
  obtain ⟨⟨k0, k1, k2, k3, k4, k5⟩, _⟩ := Box.six B0
  obtain ⟨⟨m0, m1, m2, m3, m4, m5⟩, ⟨e0, e1, e2, e3, e4, e5⟩⟩ := Box.six B1
  clear B0 B1 hb hb1
  go_wp2_with fail
  refine bodyPost_ret (v := .tuple #[.agg #[.slice A n c, .slice A' m c', .bool o, .int .i64 f, .int .i64 r, .int .i64 t], .int .i64 2]) (by simp [results, Try.results40, go_sem, m0, m1, m2, m3, m4, m5]) rfl ⟨rfl, ?_⟩
  exact below_set6' Hb.out (by omega)
set_option maxRecDepth 100000 in
set_option maxHeartbeats 1000000 in
theorem rwrite_down (hg : Good s) (i : Int) (x : ByteArray) (hi : readyD s i = 0) (hx : x.size = 128) (hf : s.fuse = 1) (hs : s.steps < 1000000) :
    Calls Try.prog 40 #[qv A A' c c' s, .int .i64 i, .string x] w fun e w' => e = .returned (.tuple #[qv A A' c c' (stepD s), .int .i64 8]) ∧ Below w.heap.size w w' := by
  have HR := Lib.hid (fun w => rready_any A A' c c' s w hg i)
  rw [hi] at HR
  have HS := Lib.hid (fun w => rstep_any A A' c c' s w hg hs)
  rw [decide_eq_false (by simpa using hf)] at HS
  have hsl : (stepD s).sec.length = s.sec.length := by unfold stepD; split <;> rfl
  have hpl : (stepD s).puts.length = s.puts.length := by unfold stepD; split <;> rfl
  unfold qv at *
  simp only [hsl, hpl] at HS ⊢
  clear hi hg hf hsl hpl hs
  generalize (stepD s).off = o' at *
  generalize (stepD s).fuse = f' at *
  generalize (stepD s).reads = r' at *
  generalize (stepD s).steps = t' at *
  generalize s.sec.length = n at *
  generalize s.puts.length = m at *
  generalize s.off = o at *
  generalize s.fuse = f at *
  generalize s.reads = r at *
  generalize s.steps = t at *
  go_enter Try.func40, Try.ntmps40
  go_wp2_with fail
  refine (HR.out _).mono ?_
  rintro e w1 ⟨rfl, hb1⟩
  obtain ⟨B0, B1, hb⟩ := two_new hb1
  have Hb := Lib.hid hb
  obtain ⟨⟨k0, k1, k2, k3, k4, k5⟩, _⟩ := Box.six B0
  have HB0 := Lib.hid B0
  have HB1 := Lib.hid B1
  clear B0 B1 hb hb1
  go_wp2_with fail
  refine (HS.out _).mono ?_
  rintro e w2 ⟨rfl, hb2⟩
  have Hb2 := Lib.hid (Hb.out.trans (hb2.mono Hb.out.size))
  have B0 := HB0.out.under hb2
  have B1 := HB1.out.under hb2
  clear k0 k1 k2 k3 k4 k5 hb2 HB0 HB1
  obtain ⟨⟨k0, k1, k2, k3, k4, k5⟩, ⟨j0, j1, j2, j3, j4, j5⟩⟩ := Box.six B0
  obtain ⟨⟨m0, m1, m2, m3, m4, m5⟩, ⟨e0, e1, e2, e3, e4, e5⟩⟩ := Box.six B1
  clear B0 B1
  go_wp2_with fail
  refine bodyPost_ret (v := .tuple #[.agg #[.slice A n c, .slice A' m c', .bool o', .int .i64 f', .int .i64 r', .int .i64 t'], .int .i64 8]) (by simp [results, Try.results40, go_sem, m0, m1, m2, m3, m4, m5]) rfl ⟨rfl, ?_⟩
  exact below_set6' (below_set6' Hb2.out (Nat.le_refl _)) (by omega)
theorem rwrite_end (F : Nat → Prop) {s : Dv} {w w4 w5 : World} {A A1 : Option Addr} {c c1 i : Nat} {x : ByteArray} {v1 : Value} (hf : s.fuse ≠ 1) (hF : ∀ k, F k → k < w.heap.size) (h1 : Free w F A (s.sec.map .string)) (hb4 : Below w.heap.size w w4)
    (hown : w5.ownsRow w.heap.size 65 2 (.slice A1 (s.puts.length + 1) c1) (s.puts.length + 1) (putV s.puts ++ [.int .i64 (i : Nat), .string x])) (happ : App w4 w5 v1 (.slice A1 (s.puts.length + 1) c1)) (hv1 : ∀ k, v1.ownBlock = some k → w.heap.size + 2 ≤ k) (hw4 : w.heap.size + 2 ≤ w4.heap.size)
    (W : World) (hW : Turn (fun k => k = w.heap.size ∨ k = w.heap.size + 1) w5 W) :
    RetQ F (writeD s i x) 0 w (.returned (.tuple #[.agg #[.slice A s.sec.length c, .slice A1 (s.puts.length + 1) c1, .bool (stepD s).off, .int .i64 (stepD s).fuse, .int .i64 (stepD s).reads, .int .i64 (stepD s).steps], .int .i64 0])) W := by
  have hgr := happ.grown
  have hb5 : Below w.heap.size w w5 := hb4.trans ⟨hgr.os, hgr.tape, hgr.output, hgr.size, fun k hk => hgr.block k (by omega) (fun e => by have := hv1 k e.symm; omega)⟩
  have hbW : Below w.heap.size w W := hb5.trans (hW.toBelow (fun k hk => by omega) hb5.size)
  have hpl : (writeD s i x).puts.length = s.puts.length + 1 := by unfold writeD; simp
  have hsl : (writeD s i x).sec = s.sec := by unfold writeD; rw [stepD_go hf]
  have hput : (writeD s i x).puts = s.puts ++ [(i, x)] := rfl
  refine ⟨_, rfl, ⟨A, A1, c, c1, ?_, ?_, ?_⟩, hbW⟩
  · unfold qv
    rw [hpl, hsl]
    rfl
  · rw [hsl]
    exact h1.turn (p := fun _ => False) ⟨hbW.os, hbW.tape, hbW.output, hbW.size, fun k hk _ => hbW.block k hk⟩ (fun _ h => h.elim)
  · rw [hput, putV_app]
    have hbk : ∀ k, (Value.slice A1 (s.puts.length + 1) c1).ownBlock = some k → w.heap.size + 2 ≤ k := by
      intro k hk
      rcases happ.lies with e | ⟨j, e, hj⟩
      · rw [e] at hk
        exact hv1 k hk
      · rw [e] at hk
        injection hk with hk
        omega
    exact Free.own (own_turn hown hW (fun k hk e => by have := hbk k hk; omega)) hF
set_option maxRecDepth 100000 in
set_option maxHeartbeats 2000000 in
theorem rwrite_yes (F : Nat → Prop) (hg : Good s) (hF : ∀ k, F k → k < w.heap.size) (h1 : Free w F A (s.sec.map .string)) (h2 : Free w F A' (putV s.puts)) (i : Nat) (x : ByteArray) (ho : s.off = false) (hi : i < s.sec.length) (hx : x.size = 128) (hf : s.fuse ≠ 1) (hs : s.steps < 1000000) (hp : s.puts.length < 1000000) :
    Calls Try.prog 40 #[qv A A' c c' s, .int .i64 i, .string x] w (RetQ F (writeD s i x) 0 w) := by
  have hq : readyD s i = 0 := by unfold readyD; rw [if_neg (by rw [ho]; simp), if_neg (by omega)]
  have HR := Lib.hid (fun w => rready_any A A' c c' s w hg i)
  rw [hq] at HR
  have HS := Lib.hid (fun w => rstep_any A A' c c' s w hg hs)
  rw [decide_eq_true hf] at HS
  have hsl : (stepD s).sec.length = s.sec.length := by unfold stepD; split <;> rfl
  have hpl : (stepD s).puts.length = s.puts.length := by unfold stepD; split <;> rfl
  have HE := Lib.hid (fun w4 w5 A1 c1 v1 => rwrite_end F (s := s) (w := w) (w4 := w4) (w5 := w5) (A := A) (A1 := A1) (c := c) (c1 := c1) (i := i) (x := x) (v1 := v1) hf hF h1)
  have Hrow := Lib.hid (show ∀ W, Below w.heap.size w W → Row W W.heap.size A' (putV s.puts) from fun W hW => (h2.row.below hW).more hW.size)
  have Hpl := Lib.hid (putV_len s.puts)
  have Hpo := Lib.hid (putV_one s.puts)
  have Hp := Lib.hid hp
  obtain ⟨i0, ti0, tz0, tz1, tz2⟩ := info_parts info_put
  generalize hQ : RetQ F (writeD s i x) 0 w = Q at *
  unfold qv at *
  simp only [hsl, hpl] at HS
  clear hq hg hf hsl hpl hs hQ hF h1 h2 ho hi hp
  generalize (stepD s).off = o' at *
  generalize (stepD s).fuse = f' at *
  generalize (stepD s).reads = r' at *
  generalize (stepD s).steps = t' at *
  generalize s.sec.length = n at *
  generalize putV s.puts = pl at *
  generalize s.puts.length = m at *
  generalize s.off = o at *
  generalize s.fuse = f at *
  generalize s.reads = r at *
  generalize s.steps = t at *
  go_enter Try.func40, Try.ntmps40
  go_wp2_with fail
  refine (HR.out _).mono ?_
  rintro e w1 ⟨rfl, hb1⟩
  obtain ⟨B0, B1, hb⟩ := two_new hb1
  have Hb := Lib.hid hb
  obtain ⟨⟨k0, k1, k2, k3, k4, k5⟩, _⟩ := Box.six B0
  have HB0 := Lib.hid B0
  have HB1 := Lib.hid B1
  clear B0 B1 hb hb1
  go_wp2_with fail
  refine (HS.out _).mono ?_
  rintro e w2 ⟨rfl, hb2⟩
  have Hb2 := Lib.hid (Hb.out.trans (hb2.mono Hb.out.size))
  have B0 := HB0.out.under hb2
  have B1 := HB1.out.under hb2
  clear k0 k1 k2 k3 k4 k5 hb2 HB0 HB1
  obtain ⟨⟨k0, k1, k2, k3, k4, k5⟩, ⟨j0, j1, j2, j3, j4, j5⟩⟩ := Box.six B0
  have HB1 := Lib.hid B1
  have HB0 := Lib.hid B0
  clear B0 B1
  go_upto_region 9 with fail
  have C0 := Lib.hid ((((((HB0.out.set 0 (.slice A n c)).set 1 (.slice A' m c')).set 2 (.bool o')).set 3 (.int .i64 f')).set 4 (.int .i64 r')).set 5 (.int .i64 t'))
  have C1 := Lib.hid ((((((HB1.out.far (p := ⟨w.heap.size, 0, none⟩) (by simp) (.slice A n c)).far (p := ⟨w.heap.size, 1, none⟩) (by simp) (.slice A' m c')).far (p := ⟨w.heap.size, 2, none⟩) (by simp) (.bool o')).far (p := ⟨w.heap.size, 3, none⟩) (by simp) (.int .i64 f')).far (p := ⟨w.heap.size, 4, none⟩) (by simp) (.int .i64 r')).far (p := ⟨w.heap.size, 5, none⟩) (by simp) (.int .i64 t'))
  have Hb3 := Lib.hid (below_set6' (g := w.heap.size) (v0 := .slice A n c) (v1 := .slice A' m c') (v2 := .bool o') (v3 := .int .i64 f') (v4 := .int .i64 r') (v5 := .int .i64 t') Hb2.out (Nat.le_refl _))
  clear k0 k1 k2 k3 k4 k5 j0 j1 j2 j3 j4 j5
  generalize (((((w2.setCell ⟨w.heap.size, 0, none⟩ (.slice A n c)).setCell ⟨w.heap.size, 1, none⟩ (.slice A' m c')).setCell ⟨w.heap.size, 2, none⟩ (.bool o')).setCell ⟨w.heap.size, 3, none⟩ (.int .i64 f')).setCell ⟨w.heap.size, 4, none⟩ (.int .i64 r')).setCell ⟨w.heap.size, 5, none⟩ (.int .i64 t') = w3 at *
  have hC0 : Box w3 w.heap.size 44 #[.slice A n c, .slice A' m c', .bool o', .int .i64 f', .int .i64 r', .int .i64 t'] := C0.out
  have HC0 := Lib.hid hC0
  obtain ⟨⟨k0, k1, k2, k3, k4, k5⟩, _⟩ := Box.six hC0
  have hlt3 : w.heap.size + 1 < w3.heap.size := C1.out.lt
  have hlt3' : w.heap.size < w3.heap.size := by omega
  have Hb3a := Lib.hid (Hb3.out.alloc Hb3.out.size (.cells #[] 65))
  have Hown0 := Lib.hid (World.ownsRow_made (base := w.heap.size) (e := 65) (size := 2) w3 #[] 0 Hb3.out.size (Nat.zero_le _) (by simp))
  have Hba := Lib.hid (show w.heap.size ≤ (w3.alloc (.cells #[] 65)).heap.size by simp; omega)
  have Hm1 := Lib.hid (show 0 + m < 1048576 * 64 by have := Hp.out; omega)
  have Hm2 := Lib.hid (show m < 1048576 * 64 by have := Hp.out; omega)
  have KA := Lib.hid (show ∀ v1 w4, w4.ownsRow w.heap.size 65 2 v1 (0 + m) ([] ++ pl) → App (w3.alloc (.cells #[] 65)) w4 (.slice (some ⟨w3.heap.size, 0, none⟩) 0 0) v1 → w4.ownsRow w.heap.size 65 2 v1 m pl ∧ Box w4 w.heap.size 44 #[.slice A n c, .slice A' m c', .bool o', .int .i64 f', .int .i64 r', .int .i64 t'] ∧ Box w4 (w.heap.size + 1) 44 #[.slice none 0 0, .slice none 0 0, .bool false, .int .i64 0, .int .i64 0, .int .i64 0] ∧ Below w.heap.size w w4 ∧ (∀ k, v1.ownBlock = some k → w.heap.size + 2 ≤ k) ∧ w.heap.size + 2 ≤ w4.heap.size from fun v1 w4 ho ha => by
    rw [Nat.zero_add, List.nil_append] at ho
    have hgr := ha.grown
    have hz : (w3.alloc (.cells #[] 65)).heap.size = w3.heap.size + 1 := by simp
    have hs4 := hgr.size
    refine ⟨ho, (HC0.out.alloc _).grown hgr (by simp [Value.ownBlock]; omega), (C1.out.alloc _).grown hgr (by simp [Value.ownBlock]; omega), ?_, ?_, by omega⟩
    · exact Hb3a.out.trans ⟨hgr.os, hgr.tape, hgr.output, hgr.size, fun k hk => hgr.block k (by omega) (by simp [Value.ownBlock]; omega)⟩
    · intro k hk
      rcases ha.lies with e | ⟨j, e, hj⟩
      · rw [e] at hk
        simp [Value.ownBlock] at hk
        omega
      · rw [e] at hk
        injection hk with hk
        omega)
  clear hC0
  go_upto_region 10 with (first
    | (at_builtin; refine wpList_append_rows rfl (.tmp 29) (.tmp 32) 36 rfl w.heap.size 65 i0 (.agg #[.int .i64 0, .string ByteArray.empty]) 2 24 Try.underlying36 ti0 tz0 tz1 tz2 rfl (by decide) (w3.alloc (.cells #[] 65)) (.slice (some ⟨w3.heap.size, 0, none⟩) 0 0) 0 [] rfl Hown0.out A' m c' _ pl rfl Hpl.out (Hrow.out _ Hb3a.out) Hpo.out Hm1.out (by decide) Hba.out ?_; intro v1 w4 hown4 happ4; obtain ⟨hown4', hD0, hD1, hb4, hv4, hs4⟩ := KA.out v1 w4 hown4 happ4; obtain ⟨A1, c1, hf1⟩ := own_form2 hown4'; subst hf1; have Hown4 := Lib.hid hown4'; have HD0 := Lib.hid hD0; have HD1 := Lib.hid hD1; have Hb4 := Lib.hid hb4; have Hv4 := Lib.hid hv4; have Hs4 := Lib.hid hs4; clear hown4 happ4 hown4' hD0 hD1 hb4 hv4 hs4 k0 k1 k2 k3 k4 k5)
    | (at_builtin; refine wpList_append2 rfl (.tmp 33) (.tmp 37) 36 rfl w.heap.size 65 i0 (.agg #[.int .i64 0, .string ByteArray.empty]) 24 Try.underlying36 ti0 tz0 tz1 tz2 rfl w4 (.int .i64 (i : Nat)) (.string x) rfl rfl (.slice A1 m c1) m pl rfl Hown4.out rfl Hm2.out (by decide) Hb4.out.size ?_; intro v2 w5 hown5 happ5; obtain ⟨A2, c2, hf2⟩ := own_form2 hown5; subst hf2; have Hown5 := Lib.hid hown5; have Happ5 := Lib.hid happ5; have HE0 := Lib.hid (HD0.out.grown happ5.grown (fun e => by have := Hv4.out _ e.symm; omega)); have HE1 := Lib.hid (HD1.out.grown happ5.grown (fun e => by have := Hv4.out _ e.symm; omega)); clear hown5 happ5; obtain ⟨⟨k0, k1, k2, k3, k4, k5⟩, ⟨j0, j1, j2, j3, j4, j5⟩⟩ := Box.six HE0.out))
  have KEY := Lib.hid (fun W hW => HE.out w4 w5 A2 c2 (.slice A1 m c1) Hb4.out Hown5.out Happ5.out Hv4.out Hs4.out W hW)
  have T6 := Lib.hid (show Turn (fun k => k = w.heap.size ∨ k = w.heap.size + 1) w5 (w5.setCell ⟨w.heap.size, 1, none⟩ (.slice A2 (m + 1) c2)) from Turn.put (Turn.refl _ _) _ _ (.inl rfl))
  have G0 := Lib.hid (show Box (w5.setCell ⟨w.heap.size, 1, none⟩ (.slice A2 (m + 1) c2)) w.heap.size 44 #[.slice A n c, .slice A2 (m + 1) c2, .bool o', .int .i64 f', .int .i64 r', .int .i64 t'] from HE0.out.set 1 _)
  have G1 := Lib.hid (HE1.out.far (p := ⟨w.heap.size, 1, none⟩) (by simp) (.slice A2 (m + 1) c2))
  clear k0 k1 k2 k3 k4 k5 j0 j1 j2 j3 j4 j5 HE0 HE1 HE
  generalize w5.setCell ⟨w.heap.size, 1, none⟩ (.slice A2 (m + 1) c2) = w6 at *
  obtain ⟨⟨k0, k1, k2, k3, k4, k5⟩, _⟩ := Box.six G0.out
  obtain ⟨⟨m0, m1, m2, m3, m4, m5⟩, ⟨e0, e1, e2, e3, e4, e5⟩⟩ := Box.six G1.out
  go_wp2_with fail
  refine bodyPost_ret (v := .tuple #[.agg #[.slice A n c, .slice A2 (m + 1) c2, .bool o', .int .i64 f', .int .i64 r', .int .i64 t'], .int .i64 0]) (by simp [results, Try.results40, go_sem, m0, m1, m2, m3, m4, m5]) rfl (KEY.out _ ?_)
  exact Turn.put (Turn.put (Turn.put (Turn.put (Turn.put (Turn.put T6.out _ _ (.inr rfl)) _ _ (.inr rfl)) _ _ (.inr rfl)) _ _ (.inr rfl)) _ _ (.inr rfl)) _ _ (.inr rfl)
end

end Go.Proofs.Ytbjjfbojcokmgaa.Dv
