/- Layer 7 of the document: Cut (genpl7.py prints it). -/
import Derived.Test.YtbjjfbojcokmgaaPl6
namespace Go.Proofs.Ytbjjfbojcokmgaa.Dv
open Go.RowKit Base
set_option linter.unusedVariables false
set_option linter.unusedSimpArgs false

theorem cutTo_len (keep : List Int) (torn : Int) (b : Nat) (sec : List ByteArray) (puts : List (Nat × ByteArray)) (k : Nat) : (cutTo keep torn b sec puts k).length = sec.length := by
  induction k with
  | zero => rfl
  | succ k ih =>
    show (match puts[k]? with | some p => cut1 keep torn b (cutTo keep torn b sec puts k) k p | none => cutTo keep torn b sec puts k).length = _
    split
    · rw [cut1_len, ih]
    · exact ih
theorem cutTo_size (keep : List Int) (torn : Int) (b : Nat) (sec : List ByteArray) (puts : List (Nat × ByteArray)) (k : Nat) (hb : b ≤ 128) (hs : ∀ x ∈ sec, x.size = 128) (hp : ∀ p ∈ puts, p.2.size = 128) (hat : ∀ p ∈ puts, p.1 < sec.length) : ∀ x ∈ cutTo keep torn b sec puts k, x.size = 128 := by
  induction k with
  | zero => exact hs
  | succ k ih =>
    show ∀ x ∈ (match puts[k]? with | some p => cut1 keep torn b (cutTo keep torn b sec puts k) k p | none => cutTo keep torn b sec puts k), x.size = 128
    split
    · next p hpk =>
      have hm := List.mem_of_getElem? hpk
      unfold cut1
      split
      · intro x hx
        rcases List.mem_or_eq_of_mem_set hx with hx | rfl
        · exact ih x hx
        · exact hp _ hm
      · split
        · intro x hx
          rcases List.mem_or_eq_of_mem_set hx with hx | rfl
          · exact ih x hx
          · have hl : p.1 < (cutTo keep torn b sec puts k).length := by rw [cutTo_len]; exact hat _ hm
            refine torn_size _ _ b (hp _ hm) ?_ hb
            rw [List.getD_eq_getElem?_getD, List.getElem?_eq_getElem hl]
            exact ih _ (List.getElem_mem hl)
        · exact ih
    · exact ih
/-- how the document's calls that hand a device back end -/
def RetD (F : Nat → Prop) (s : Dv) (w : World) (e : Ending) (w' : World) : Prop := ∃ v, e = .returned v ∧ Qat w' F v s ∧ Below w.heap.size w w'
theorem rcut_end (F : Nat → Prop) {s : Dv} {keep : List Int} {torn : Int} {b : Nat} {w w4 W : World} {A1 : Option Addr} {c1 base : Nat} (hF : ∀ k, F k → k < w.heap.size) (hbase : w.heap.size + 2 ≤ base)
    (hown : w4.ownsRow base 9 1 (.slice A1 s.sec.length c1) s.sec.length ((cutTo keep torn b s.sec s.puts s.puts.length).map .string)) (hb4 : Below w.heap.size w w4) (hW : Turn (fun k => k = w.heap.size ∨ k = w.heap.size + 1) w4 W) :
    RetD F { s with sec := cutTo keep torn b s.sec s.puts s.puts.length, puts := [], off := true, fuse := 0 } w (.returned (.agg #[.slice A1 s.sec.length c1, .slice none 0 0, .bool true, .int .i64 0, .int .i64 s.reads, .int .i64 s.steps])) W := by
  have hbW : Below w.heap.size w W := hb4.trans (hW.toBelow (fun k hk => by omega) hb4.size)
  refine ⟨_, rfl, ⟨A1, none, c1, 0, ?_, ?_, Free.nil _ _ _⟩, hbW⟩
  · unfold qv
    simp only [cutTo_len]
    rfl
  · exact Free.own (own_turn hown hW (fun k hk e => by have := (hown.lt k hk).1; omega)) (fun k hk => by have := hF k hk; omega)
theorem rcut_start {w w4 : World} {v1 : Value} {bx : Array Value} {n : Nat} {l : List Value} (ha : App (((w.alloc (.cells bx 44)).alloc (.cells #[.slice none 0 0, .slice none 0 0, .bool false, .int .i64 0, .int .i64 0, .int .i64 0] 44)).alloc (.cells #[] 9)) w4 (.slice (some ⟨w.heap.size + 1 + 1, 0, none⟩) 0 0) v1)
    (ho : w4.ownsRow (w.heap.size + 2) 9 1 v1 (0 + n) ([] ++ l)) :
    w4.ownsRow (w.heap.size + 2) 9 1 v1 n l ∧ Box w4 w.heap.size 44 bx ∧ Box w4 (w.heap.size + 1) 44 #[.slice none 0 0, .slice none 0 0, .bool false, .int .i64 0, .int .i64 0, .int .i64 0] ∧ Below w.heap.size w w4 := by
  rw [Nat.zero_add, List.nil_append] at ho
  have hgr := ha.grown
  obtain ⟨b0, b1, hb⟩ := two_new (Below.refl _ ((w.alloc (.cells bx 44)).alloc (.cells #[.slice none 0 0, .slice none 0 0, .bool false, .int .i64 0, .int .i64 0, .int .i64 0] 44)))
  have hb' := hb.alloc hb.size (.cells #[] 9)
  refine ⟨ho, (b0.alloc _).grown hgr (by simp [Value.ownBlock]; omega), (b1.alloc _).grown hgr (by simp [Value.ownBlock]), hb'.trans ⟨hgr.os, hgr.tape, hgr.output, hgr.size, fun k hk => hgr.block k (by simp; omega) (by simp [Value.ownBlock]; omega)⟩⟩

section
variable (A A' : Option Addr) (c c' : Nat) (s : Dv) (w : World)
set_option maxRecDepth 100000 in
set_option maxHeartbeats 2000000 in
theorem rcut_mid (F : Nat → Prop) (hg : Good s) (hF : ∀ k, F k → k < w.heap.size) (h1 : Free w F A (s.sec.map .string)) (h2 : Free w F A' (putV s.puts)) (Ak : Option Addr) (keep : List Int) (ck : Nat) (torn : Int) (b : Nat) (hb : b ≤ 128) (hkl : keep.length ≤ 1000000) (hkr : Row w w.heap.size Ak (keep.map (Value.int .i64))) :
    Calls Try.prog 43 #[qv A A' c c' s, .slice Ak keep.length ck, .int .i64 torn, .int .i64 (b : Int)] w (RetD F { s with sec := cutTo keep torn b s.sec s.puts s.puts.length, puts := [], off := true, fuse := 0 } w) := by
  have hd0 : decide ((b : Int) < 0) = false := by simp
  have hd1 : decide ((128 : Int) < (b : Int)) = false := by simp; omega
  have HE := Lib.hid (fun w4 W A1 c1 base => rcut_end F (s := s) (keep := keep) (torn := torn) (b := b) (w := w) (w4 := w4) (W := W) (A1 := A1) (c1 := c1) (base := base) hF)
  have HIn := Lib.hid (show ∀ W (k : Nat), Below w.heap.size w W → Calls Try.prog 51 #[.slice Ak keep.length ck, .int .i64 (k : Int)] W fun e w' => e = .returned (.bool (keep.contains (k : Int))) ∧ W = w' from fun W k hW => rin_any Ak keep ck k W hkl ((hkr.below hW).more hW.size))
  have Hrow := Lib.hid (show ∀ W, Below w.heap.size w W → Row W W.heap.size A (s.sec.map .string) from fun W hW => (h1.row.below hW).more hW.size)
  have Hput := Lib.hid (show ∀ W, Below w.heap.size w W → Row W W.heap.size A' (putV s.puts) from fun W hW => (h2.row.below hW).more hW.size)
  have Hst := Lib.hid (show ∀ k p, s.puts[k]? = some p → cutTo keep torn b s.sec s.puts (k + 1) = cut1 keep torn b (cutTo keep torn b s.sec s.puts k) k p from fun k p hp => by obtain ⟨hk, rfl⟩ := List.getElem?_eq_some_iff.1 hp; exact cutTo_succ keep torn b s.sec s.puts k hk)
  have H0 := Lib.hid (show cutTo keep torn b s.sec s.puts 0 = s.sec from rfl)
  have Hlen := Lib.hid (fun k => cutTo_len keep torn b s.sec s.puts k)
  have Hsz := Lib.hid (fun k => cutTo_size keep torn b s.sec s.puts k (by omega) hg.sec hg.data hg.at_)
  have Hat := Lib.hid hg.at_
  have Hda := Lib.hid hg.data
  have hn : s.sec.length ≤ 4096 := hg.hi
  have hn0 : 16 ≤ s.sec.length := hg.lo
  have Hml := Lib.hid hg.puts
  have Hm2 := Lib.hid (show 0 + s.sec.length < 1048576 * 64 by omega)
  have Hl1 := Lib.hid (show (s.sec.map Value.string).length = s.sec.length * 1 by simp)
  have Ho1 := Lib.hid (show ∀ u ∈ s.sec.map Value.string, u.oneCell' = true from fun u hu => by obtain ⟨x, _, rfl⟩ := List.mem_map.1 hu; rfl)
  obtain ⟨i0, ti0, tz0, tz1, tz2⟩ := info_parts info_string
  generalize hQ : RetD F { s with sec := cutTo keep torn b s.sec s.puts s.puts.length, puts := [], off := true, fuse := 0 } w = Q at *
  unfold qv at *
  clear hQ hF h1 h2 hg hkl hkr
  generalize hCT : cutTo keep torn b s.sec s.puts = CT at *
  clear hCT
  generalize hPL : s.puts = puts at *
  clear hPL
  generalize hN : s.sec.length = n at *
  generalize hM : puts.length = m at *
  have Hm := Lib.hid hM
  have Hn := Lib.hid hN
  clear hN hM
  generalize s.off = o at *
  generalize s.fuse = f at *
  generalize s.reads = r at *
  generalize s.steps = t at *
  generalize s.sec = sec at *
  generalize keep.length = kl at *
  have Hw3 := Lib.hid (two_new (Below.refl _ ((w.alloc (.cells #[.slice A n c, .slice A' m c', .bool o, .int .i64 f, .int .i64 r, .int .i64 t] 44)).alloc (.cells #[.slice none 0 0, .slice none 0 0, .bool false, .int .i64 0, .int .i64 0, .int .i64 0] 44))))
  have Hown0 := Lib.hid (World.ownsRow_made (base := w.heap.size + 2) (e := 9) (size := 1) ((w.alloc (.cells #[.slice A n c, .slice A' m c', .bool o, .int .i64 f, .int .i64 r, .int .i64 t] 44)).alloc (.cells #[.slice none 0 0, .slice none 0 0, .bool false, .int .i64 0, .int .i64 0, .int .i64 0] 44)) #[] 0 (by simp) (Nat.zero_le _) (by simp))
  have Hba := Lib.hid (show w.heap.size + 2 ≤ (((w.alloc (.cells #[.slice A n c, .slice A' m c', .bool o, .int .i64 f, .int .i64 r, .int .i64 t] 44)).alloc (.cells #[.slice none 0 0, .slice none 0 0, .bool false, .int .i64 0, .int .i64 0, .int .i64 0] 44)).alloc (.cells #[] 9)).heap.size by simp)
  have Hb3a := Lib.hid (Hw3.out.2.2.alloc Hw3.out.2.2.size (.cells #[] 9))
  have hs0 : (w.alloc (.cells #[.slice A n c, .slice A' m c', .bool o, .int .i64 f, .int .i64 r, .int .i64 t] 44)).heap.size = w.heap.size + 1 := by simp
  have hs1 : ((w.alloc (.cells #[.slice A n c, .slice A' m c', .bool o, .int .i64 f, .int .i64 r, .int .i64 t] 44)).alloc (.cells #[.slice none 0 0, .slice none 0 0, .bool false, .int .i64 0, .int .i64 0, .int .i64 0] 44)).heap.size = w.heap.size + 1 + 1 := by simp
  rw [hs1] at Hown0
  clear hs0 hs1
  go_enter Try.func43, Try.ntmps43
  go_upto_region 6 with (at_builtin; refine wpList_append_rows rfl (.tmp 12) (.tmp 15) 35 rfl (w.heap.size + 2) 9 i0 (.string ByteArray.empty) 1 16 Try.underlying35 ti0 tz0 tz1 tz2 rfl (by decide) (((w.alloc (.cells #[.slice A n c, .slice A' m c', .bool o, .int .i64 f, .int .i64 r, .int .i64 t] 44)).alloc (.cells #[.slice none 0 0, .slice none 0 0, .bool false, .int .i64 0, .int .i64 0, .int .i64 0] 44)).alloc (.cells #[] 9)) (.slice (some ⟨w.heap.size + 1 + 1, 0, none⟩) 0 0) 0 [] rfl Hown0.out A n c _ (sec.map Value.string) rfl Hl1.out (Hrow.out _ Hb3a.out) Ho1.out Hm2.out (by decide) Hba.out ?_; intro v1 w4 hown4 happ4; obtain ⟨hown4', hD0, hD1, hb4⟩ := rcut_start happ4 hown4; obtain ⟨A1, c1, hf1⟩ := own_form2 hown4'; subst hf1; have Hown4 := Lib.hid hown4'; have HD0 := Lib.hid hD0; have HD1 := Lib.hid hD1; have Hb4 := Lib.hid hb4; clear hown4 happ4 hown4' hD0 hD1 hb4)
  have hA1 : ∃ g, A1 = some ⟨g, 0, none⟩ := by
    rcases Hown4.out.2 with ⟨_, h0⟩ | ⟨g, cap, cur, hv, _⟩
    · omega
    · injection hv with hv _ _
      exact ⟨g, hv⟩
  obtain ⟨g, rfl⟩ := hA1
  have Hgl := Lib.hid (fun (W : World) (xs : List Value) (h : W.ownsRow (w.heap.size + 2) 9 1 (.slice (some ⟨g, 0, none⟩) n c1) n xs) => h.lt g rfl)
  clear Hw3 Hown0 Hba Hb3a Hrow Hl1 Ho1 Hm2 ti0 tz0 tz1 tz2
  go_wp2_with fail
  go_loopw [10, 11] (fun v10 _ wr => ∃ k : Nat, k ≤ m ∧ v10 = .int .i64 (k : Nat) ∧ wr.ownsRow (w.heap.size + 2) 9 1 (.slice (some ⟨g, 0, none⟩) n c1) n ((CT k).map .string) ∧ Box wr w.heap.size 44 #[.slice A n c, .slice A' m c', .bool o, .int .i64 f, .int .i64 r, .int .i64 t] ∧ Box wr (w.heap.size + 1) 44 #[.slice none 0 0, .slice none 0 0, .bool false, .int .i64 0, .int .i64 0, .int .i64 0] ∧ Below w.heap.size w wr) (fun v10 _ _ => m - (intOf v10).toNat)
  case atStart => exact ⟨0, Nat.zero_le _, rfl, by rw [H0.out]; exact Hown4.out, HD0.out, HD1.out, Hb4.out⟩
  case round =>
    obtain ⟨k, hk, rfl, hown, hQ0, hQ1, hbe⟩ := hrel
    obtain ⟨⟨k0, k1, k2, k3, k4, k5⟩, _⟩ := Box.six hQ0
    have Hown := Lib.hid hown
    have HQ0 := Lib.hid hQ0
    have HQ1 := Lib.hid hQ1
    have Hbe := Lib.hid hbe
    clear hown hQ0 hQ1 hbe
    by_cases hkn : k < m
    · have hkl : k < puts.length := by rw [Hm.out]; exact hkn
      obtain ⟨pb, poff, rfl, hpb, c0, c1'⟩ := Row.putN (Hput.out wr Hbe.out) k hkl
      have hb0 := (Below.refl wr.heap.size wr).alloc (Nat.le_refl _) (.cells #[.int .i64 ((puts[k]'hkl).1 : Nat), .string (puts[k]'hkl).2] 65)
      have hat : (puts[k]'hkl).1 < n := Hat.out _ (List.getElem_mem _)
      have hda : (puts[k]'hkl).2.size = 128 := Hda.out _ (List.getElem_mem _)
      have HB := Lib.hid (Box.new wr 65 #[.int .i64 ((puts[k]'hkl).1 : Nat), .string (puts[k]'hkl).2])
      have Hown1 := Lib.hid (own_turn (p := fun _ => False) Hown.out (.below hb0) (fun _ _ h => h))
      have HQ01 := Lib.hid (HQ0.out.under hb0)
      have HQ11 := Lib.hid (HQ1.out.under hb0)
      have Hbe1 := Lib.hid (Hbe.out.trans (hb0.mono Hbe.out.size))
      have HC := Lib.hid (HIn.out _ k Hbe1.out)
      have Hs := Lib.hid (Hst.out k _ (List.getElem?_eq_getElem hkl))
      have hk0 : (0 : Int) ≤ (k : Int) := by omega
      have hk1 : (k : Int) < (m : Int) := by omega
      have hm1 := Hml.out
      have hatI : ((puts[k]'hkl).1 : Int) < (n : Int) := by omega
      have hat0 : (0 : Int) ≤ ((puts[k]'hkl).1 : Int) := by omega
      have hctl : (puts[k]'hkl).1 < (CT k).length := by rw [Hlen.out]; exact hat
      have Hgr := Lib.hid (Hgl.out _ _ Hown.out)
      have hcl := Hown1.out.cells (g := g) rfl (puts[k]'hkl).1 _ (by rw [List.getElem?_map, List.getElem?_eq_getElem hctl]; rfl)
      have hfr := Hown1.out.frozenAt (puts[k]'hkl).1
      rw [add_at, Nat.zero_add] at hcl
      have Hsx := Lib.hid (show (CT k)[(puts[k]'hkl).1].size = 128 from Hsz.out k _ (List.getElem_mem _))
      have Hgd := Lib.hid (show (CT k).getD (puts[k]'hkl).1 ByteArray.empty = (CT k)[(puts[k]'hkl).1] by rw [List.getD_eq_getElem?_getD, List.getElem?_eq_getElem hctl]; rfl)
      have Hcat := Lib.hid hat
      clear hb0 hat Hown HQ0 HQ1 Hat Hda
      by_cases hc : keep.contains (k : Int) = true
      · have Hnew := Lib.hid (show CT (k + 1) = (CT k).set (puts[k]'hkl).1 (puts[k]'hkl).2 by rw [Hs.out]; unfold cut1; rw [if_pos hc])
        rw [hc] at HC
        clear hc Hs Hgd
        generalize (CT k)[(puts[k]'hkl).1] = sv at *
        clear hctl
        generalize (puts[k]'hkl).1 = x at *
        generalize (puts[k]'hkl).2 = y at *
        go_wp2_with fail
        refine HC.out.mono ?_
        rintro e w' ⟨rfl, rfl⟩
        obtain ⟨q0, q1, _, _⟩ := Box.two HB.out
        clear k0 k1 k2 k3 k4 k5 c0 c1'
        generalize wr.alloc (.cells #[.int .i64 (x : Nat), .string y] 65) = wq at *
        have Hrw := Lib.hid (Hown1.out.stored x (.string y)).1
        go_wp2_with fail
        refine ⟨⟨k + 1, by omega, rfl, ?_, HQ01.out.far (by have := Hgr.out.1; show w.heap.size ≠ g; omega) _, HQ11.out.far (by have := Hgr.out.1; show w.heap.size + 1 ≠ g; omega) _, Hbe1.out.setCell (by have := Hgr.out.1; show w.heap.size ≤ g; omega) _⟩, by simp [intOf]; omega⟩
        rw [Hnew.out, List.map_set]
        exact Hrw.out
      · have hc' : keep.contains (k : Int) = false := by simpa using hc
        rw [hc'] at HC
        by_cases ht : (k : Int) = torn
        · have Hnew := Lib.hid (show CT (k + 1) = (CT k).set (puts[k]'hkl).1 ((puts[k]'hkl).2.extract 0 b ++ ((CT k)[(puts[k]'hkl).1]).extract b 128) by rw [Hs.out]; unfold cut1; rw [if_neg hc, if_pos ht, Hgd.out])
          have htb : ((k : Int) == torn) = true := by rw [beq_iff_eq]; exact ht
          clear hc hc' Hs ht Hgd
          have hsv := Hsx.out
          generalize (CT k)[(puts[k]'hkl).1] = sv at *
          clear hctl
          generalize (puts[k]'hkl).1 = x at *
          generalize (puts[k]'hkl).2 = y at *
          go_wp2_with fail
          refine HC.out.mono ?_
          rintro e w' ⟨rfl, rfl⟩
          obtain ⟨q0, q1, _, _⟩ := Box.two HB.out
          clear k0 k1 k2 k3 k4 k5 c0 c1'
          generalize wr.alloc (.cells #[.int .i64 (x : Nat), .string y] 65) = wq at *
          have r1 : ∀ W, (Instr.slice 9 (.string y) none (some (.int .i64 (b : Int))) none).run Try.prog W = .ok (.string (y.extract 0 b)) W := fun W => by
            rw [run_slice_string_h (ht := Try.underlying9) (kh := .i64) (h0 := by omega) (h2 := by omega)]
            rfl
          have r2 : ∀ W, (Instr.slice 9 (.string sv) (some (.int .i64 (b : Int))) none none).run Try.prog W = .ok (.string (sv.extract b 128)) W := fun W => by
            rw [run_slice_string_l (ht := Try.underlying9) (kl := .i64) (h0 := by omega) (h1 := by omega), hsv]
            rfl
          have r3 : ∀ W, (Op.stringOp .add (y.extract 0 b) (sv.extract b 128)).run Try.prog W = .ok (.string (y.extract 0 b ++ sv.extract b 128)) W := fun W => run_string_add W _ _ (by rw [ByteArray.size_extract]; omega) (by rw [ByteArray.size_extract]; omega)
          clear hda hsv
          generalize y.extract 0 b = y1 at *
          generalize sv.extract b 128 = y2 at *
          have Hrw := Lib.hid (Hown1.out.stored x (.string (y1 ++ y2))).1
          go_wp2_with fail
          go_region
          go_wp2_with fail
          refine ⟨⟨k + 1, by omega, rfl, ?_, (HQ01.out.far (p := ⟨g, x, none⟩) (by have := Hgr.out.1; show w.heap.size ≠ g; omega) _).drew, (HQ11.out.far (p := ⟨g, x, none⟩) (by have := Hgr.out.1; show w.heap.size + 1 ≠ g; omega) _).drew, (Hbe1.out.setCell (p := ⟨g, x, none⟩) (by have := Hgr.out.1; show w.heap.size ≤ g; omega) _).drew⟩, by simp [intOf]; omega⟩
          rw [Hnew.out, List.map_set]
          exact Hrw.out
        · have Hnew := Lib.hid (show CT (k + 1) = CT k by rw [Hs.out]; unfold cut1; rw [if_neg hc, if_neg ht])
          have htb : ((k : Int) == torn) = false := by rw [beq_eq_false_iff_ne]; exact ht
          clear hc hc' Hs ht Hgd Hsx hcl hfr hctl
          generalize (puts[k]'hkl).1 = x at *
          generalize (puts[k]'hkl).2 = y at *
          go_wp2_with fail
          refine HC.out.mono ?_
          rintro e w' ⟨rfl, rfl⟩
          go_wp2_with fail
          refine ⟨⟨k + 1, by omega, rfl, ?_, HQ01.out, HQ11.out, Hbe1.out⟩, by simp [intOf]; omega⟩
          rw [Hnew.out]
          exact Hown1.out
    · have hke : k = m := by omega
      subst hke
      have KEY := Lib.hid (fun W hW => HE.out wr W (some ⟨g, 0, none⟩) c1 (w.heap.size + 2) (Nat.le_refl _) Hown.out Hbe.out hW)
      obtain ⟨⟨m0, m1, m2, m3, m4, m5⟩, ⟨e0, e1, e2, e3, e4, e5⟩⟩ := Box.six HQ1.out
      go_wp2_with fail
      refine bodyPost_ret (v := .agg #[.slice (some ⟨g, 0, none⟩) n c1, .slice none 0 0, .bool true, .int .i64 0, .int .i64 r, .int .i64 t]) (by simp [results, Try.results43, go_sem, m0, m1, m2, m3, m4, m5]) rfl (KEY.out _ ?_)
      exact Turn.put (Turn.put (Turn.put (Turn.put (Turn.put (Turn.put (Turn.refl _ _) _ _ (.inr rfl)) _ _ (.inr rfl)) _ _ (.inr rfl)) _ _ (.inr rfl)) _ _ (.inr rfl)) _ _ (.inr rfl)
end

section
variable (A A' : Option Addr) (c c' : Nat) (s : Dv) (w : World)
set_option maxRecDepth 100000 in
set_option maxHeartbeats 2000000 in
theorem rcut_neg (F : Nat → Prop) (hg : Good s) (hF : ∀ k, F k → k < w.heap.size) (h1 : Free w F A (s.sec.map .string)) (h2 : Free w F A' (putV s.puts)) (Ak : Option Addr) (keep : List Int) (ck : Nat) (torn : Int) (b : Int) (hb : b < 0) (hkl : keep.length ≤ 1000000) (hkr : Row w w.heap.size Ak (keep.map (Value.int .i64))) :
    Calls Try.prog 43 #[qv A A' c c' s, .slice Ak keep.length ck, .int .i64 torn, .int .i64 b] w (RetD F { s with sec := cutTo keep torn 0 s.sec s.puts s.puts.length, puts := [], off := true, fuse := 0 } w) := by
  have hd0 : decide (b < 0) = true := by simpa using hb
  have HE := Lib.hid (fun w4 W A1 c1 base => rcut_end F (s := s) (keep := keep) (torn := torn) (b := 0) (w := w) (w4 := w4) (W := W) (A1 := A1) (c1 := c1) (base := base) hF)
  have HIn := Lib.hid (show ∀ W (k : Nat), Below w.heap.size w W → Calls Try.prog 51 #[.slice Ak keep.length ck, .int .i64 (k : Int)] W fun e w' => e = .returned (.bool (keep.contains (k : Int))) ∧ W = w' from fun W k hW => rin_any Ak keep ck k W hkl ((hkr.below hW).more hW.size))
  have Hrow := Lib.hid (show ∀ W, Below w.heap.size w W → Row W W.heap.size A (s.sec.map .string) from fun W hW => (h1.row.below hW).more hW.size)
  have Hput := Lib.hid (show ∀ W, Below w.heap.size w W → Row W W.heap.size A' (putV s.puts) from fun W hW => (h2.row.below hW).more hW.size)
  have Hst := Lib.hid (show ∀ k p, s.puts[k]? = some p → cutTo keep torn 0 s.sec s.puts (k + 1) = cut1 keep torn 0 (cutTo keep torn 0 s.sec s.puts k) k p from fun k p hp => by obtain ⟨hk, rfl⟩ := List.getElem?_eq_some_iff.1 hp; exact cutTo_succ keep torn 0 s.sec s.puts k hk)
  have H0 := Lib.hid (show cutTo keep torn 0 s.sec s.puts 0 = s.sec from rfl)
  have Hlen := Lib.hid (fun k => cutTo_len keep torn 0 s.sec s.puts k)
  have Hsz := Lib.hid (fun k => cutTo_size keep torn 0 s.sec s.puts k (by omega) hg.sec hg.data hg.at_)
  have Hat := Lib.hid hg.at_
  have Hda := Lib.hid hg.data
  have hn : s.sec.length ≤ 4096 := hg.hi
  have hn0 : 16 ≤ s.sec.length := hg.lo
  have Hml := Lib.hid hg.puts
  have Hm2 := Lib.hid (show 0 + s.sec.length < 1048576 * 64 by omega)
  have Hl1 := Lib.hid (show (s.sec.map Value.string).length = s.sec.length * 1 by simp)
  have Ho1 := Lib.hid (show ∀ u ∈ s.sec.map Value.string, u.oneCell' = true from fun u hu => by obtain ⟨x, _, rfl⟩ := List.mem_map.1 hu; rfl)
  obtain ⟨i0, ti0, tz0, tz1, tz2⟩ := info_parts info_string
  generalize hQ : RetD F { s with sec := cutTo keep torn 0 s.sec s.puts s.puts.length, puts := [], off := true, fuse := 0 } w = Q at *
  unfold qv at *
  clear hQ hF h1 h2 hg hkl hkr
  generalize hCT : cutTo keep torn 0 s.sec s.puts = CT at *
  clear hCT
  generalize hPL : s.puts = puts at *
  clear hPL
  generalize hN : s.sec.length = n at *
  generalize hM : puts.length = m at *
  have Hm := Lib.hid hM
  have Hn := Lib.hid hN
  clear hN hM
  generalize s.off = o at *
  generalize s.fuse = f at *
  generalize s.reads = r at *
  generalize s.steps = t at *
  generalize s.sec = sec at *
  generalize keep.length = kl at *
  have Hw3 := Lib.hid (two_new (Below.refl _ ((w.alloc (.cells #[.slice A n c, .slice A' m c', .bool o, .int .i64 f, .int .i64 r, .int .i64 t] 44)).alloc (.cells #[.slice none 0 0, .slice none 0 0, .bool false, .int .i64 0, .int .i64 0, .int .i64 0] 44))))
  have Hown0 := Lib.hid (World.ownsRow_made (base := w.heap.size + 2) (e := 9) (size := 1) ((w.alloc (.cells #[.slice A n c, .slice A' m c', .bool o, .int .i64 f, .int .i64 r, .int .i64 t] 44)).alloc (.cells #[.slice none 0 0, .slice none 0 0, .bool false, .int .i64 0, .int .i64 0, .int .i64 0] 44)) #[] 0 (by simp) (Nat.zero_le _) (by simp))
  have Hba := Lib.hid (show w.heap.size + 2 ≤ (((w.alloc (.cells #[.slice A n c, .slice A' m c', .bool o, .int .i64 f, .int .i64 r, .int .i64 t] 44)).alloc (.cells #[.slice none 0 0, .slice none 0 0, .bool false, .int .i64 0, .int .i64 0, .int .i64 0] 44)).alloc (.cells #[] 9)).heap.size by simp)
  have Hb3a := Lib.hid (Hw3.out.2.2.alloc Hw3.out.2.2.size (.cells #[] 9))
  have hs0 : (w.alloc (.cells #[.slice A n c, .slice A' m c', .bool o, .int .i64 f, .int .i64 r, .int .i64 t] 44)).heap.size = w.heap.size + 1 := by simp
  have hs1 : ((w.alloc (.cells #[.slice A n c, .slice A' m c', .bool o, .int .i64 f, .int .i64 r, .int .i64 t] 44)).alloc (.cells #[.slice none 0 0, .slice none 0 0, .bool false, .int .i64 0, .int .i64 0, .int .i64 0] 44)).heap.size = w.heap.size + 1 + 1 := by simp
  rw [hs1] at Hown0
  clear hs0 hs1
  go_enter Try.func43, Try.ntmps43
  go_upto_region 6 with (at_builtin; refine wpList_append_rows rfl (.tmp 12) (.tmp 15) 35 rfl (w.heap.size + 2) 9 i0 (.string ByteArray.empty) 1 16 Try.underlying35 ti0 tz0 tz1 tz2 rfl (by decide) (((w.alloc (.cells #[.slice A n c, .slice A' m c', .bool o, .int .i64 f, .int .i64 r, .int .i64 t] 44)).alloc (.cells #[.slice none 0 0, .slice none 0 0, .bool false, .int .i64 0, .int .i64 0, .int .i64 0] 44)).alloc (.cells #[] 9)) (.slice (some ⟨w.heap.size + 1 + 1, 0, none⟩) 0 0) 0 [] rfl Hown0.out A n c _ (sec.map Value.string) rfl Hl1.out (Hrow.out _ Hb3a.out) Ho1.out Hm2.out (by decide) Hba.out ?_; intro v1 w4 hown4 happ4; obtain ⟨hown4', hD0, hD1, hb4⟩ := rcut_start happ4 hown4; obtain ⟨A1, c1, hf1⟩ := own_form2 hown4'; subst hf1; have Hown4 := Lib.hid hown4'; have HD0 := Lib.hid hD0; have HD1 := Lib.hid hD1; have Hb4 := Lib.hid hb4; clear hown4 happ4 hown4' hD0 hD1 hb4)
  have hA1 : ∃ g, A1 = some ⟨g, 0, none⟩ := by
    rcases Hown4.out.2 with ⟨_, h0⟩ | ⟨g, cap, cur, hv, _⟩
    · omega
    · injection hv with hv _ _
      exact ⟨g, hv⟩
  obtain ⟨g, rfl⟩ := hA1
  have Hgl := Lib.hid (fun (W : World) (xs : List Value) (h : W.ownsRow (w.heap.size + 2) 9 1 (.slice (some ⟨g, 0, none⟩) n c1) n xs) => h.lt g rfl)
  clear Hw3 Hown0 Hba Hb3a Hrow Hl1 Ho1 Hm2 ti0 tz0 tz1 tz2
  go_wp2_with fail
  go_loopw [10, 11] (fun v10 _ wr => ∃ k : Nat, k ≤ m ∧ v10 = .int .i64 (k : Nat) ∧ wr.ownsRow (w.heap.size + 2) 9 1 (.slice (some ⟨g, 0, none⟩) n c1) n ((CT k).map .string) ∧ Box wr w.heap.size 44 #[.slice A n c, .slice A' m c', .bool o, .int .i64 f, .int .i64 r, .int .i64 t] ∧ Box wr (w.heap.size + 1) 44 #[.slice none 0 0, .slice none 0 0, .bool false, .int .i64 0, .int .i64 0, .int .i64 0] ∧ Below w.heap.size w wr) (fun v10 _ _ => m - (intOf v10).toNat)
  case atStart => exact ⟨0, Nat.zero_le _, rfl, by rw [H0.out]; exact Hown4.out, HD0.out, HD1.out, Hb4.out⟩
  case round =>
    obtain ⟨k, hk, rfl, hown, hQ0, hQ1, hbe⟩ := hrel
    obtain ⟨⟨k0, k1, k2, k3, k4, k5⟩, _⟩ := Box.six hQ0
    have Hown := Lib.hid hown
    have HQ0 := Lib.hid hQ0
    have HQ1 := Lib.hid hQ1
    have Hbe := Lib.hid hbe
    clear hown hQ0 hQ1 hbe
    by_cases hkn : k < m
    · have hkl : k < puts.length := by rw [Hm.out]; exact hkn
      obtain ⟨pb, poff, rfl, hpb, c0, c1'⟩ := Row.putN (Hput.out wr Hbe.out) k hkl
      have hb0 := (Below.refl wr.heap.size wr).alloc (Nat.le_refl _) (.cells #[.int .i64 ((puts[k]'hkl).1 : Nat), .string (puts[k]'hkl).2] 65)
      have hat : (puts[k]'hkl).1 < n := Hat.out _ (List.getElem_mem _)
      have hda : (puts[k]'hkl).2.size = 128 := Hda.out _ (List.getElem_mem _)
      have HB := Lib.hid (Box.new wr 65 #[.int .i64 ((puts[k]'hkl).1 : Nat), .string (puts[k]'hkl).2])
      have Hown1 := Lib.hid (own_turn (p := fun _ => False) Hown.out (.below hb0) (fun _ _ h => h))
      have HQ01 := Lib.hid (HQ0.out.under hb0)
      have HQ11 := Lib.hid (HQ1.out.under hb0)
      have Hbe1 := Lib.hid (Hbe.out.trans (hb0.mono Hbe.out.size))
      have HC := Lib.hid (HIn.out _ k Hbe1.out)
      have Hs := Lib.hid (Hst.out k _ (List.getElem?_eq_getElem hkl))
      have hk0 : (0 : Int) ≤ (k : Int) := by omega
      have hk1 : (k : Int) < (m : Int) := by omega
      have hm1 := Hml.out
      have hatI : ((puts[k]'hkl).1 : Int) < (n : Int) := by omega
      have hat0 : (0 : Int) ≤ ((puts[k]'hkl).1 : Int) := by omega
      have hctl : (puts[k]'hkl).1 < (CT k).length := by rw [Hlen.out]; exact hat
      have Hgr := Lib.hid (Hgl.out _ _ Hown.out)
      have hcl := Hown1.out.cells (g := g) rfl (puts[k]'hkl).1 _ (by rw [List.getElem?_map, List.getElem?_eq_getElem hctl]; rfl)
      have hfr := Hown1.out.frozenAt (puts[k]'hkl).1
      rw [add_at, Nat.zero_add] at hcl
      have Hsx := Lib.hid (show (CT k)[(puts[k]'hkl).1].size = 128 from Hsz.out k _ (List.getElem_mem _))
      have Hgd := Lib.hid (show (CT k).getD (puts[k]'hkl).1 ByteArray.empty = (CT k)[(puts[k]'hkl).1] by rw [List.getD_eq_getElem?_getD, List.getElem?_eq_getElem hctl]; rfl)
      have Hcat := Lib.hid hat
      clear hb0 hat Hown HQ0 HQ1 Hat Hda
      by_cases hc : keep.contains (k : Int) = true
      · have Hnew := Lib.hid (show CT (k + 1) = (CT k).set (puts[k]'hkl).1 (puts[k]'hkl).2 by rw [Hs.out]; unfold cut1; rw [if_pos hc])
        rw [hc] at HC
        clear hc Hs Hgd
        generalize (CT k)[(puts[k]'hkl).1] = sv at *
        clear hctl
        generalize (puts[k]'hkl).1 = x at *
        generalize (puts[k]'hkl).2 = y at *
        go_wp2_with fail
        refine HC.out.mono ?_
        rintro e w' ⟨rfl, rfl⟩
        obtain ⟨q0, q1, _, _⟩ := Box.two HB.out
        clear k0 k1 k2 k3 k4 k5 c0 c1'
        generalize wr.alloc (.cells #[.int .i64 (x : Nat), .string y] 65) = wq at *
        have Hrw := Lib.hid (Hown1.out.stored x (.string y)).1
        go_wp2_with fail
        refine ⟨⟨k + 1, by omega, rfl, ?_, HQ01.out.far (by have := Hgr.out.1; show w.heap.size ≠ g; omega) _, HQ11.out.far (by have := Hgr.out.1; show w.heap.size + 1 ≠ g; omega) _, Hbe1.out.setCell (by have := Hgr.out.1; show w.heap.size ≤ g; omega) _⟩, by simp [intOf]; omega⟩
        rw [Hnew.out, List.map_set]
        exact Hrw.out
      · have hc' : keep.contains (k : Int) = false := by simpa using hc
        rw [hc'] at HC
        by_cases ht : (k : Int) = torn
        · have Hnew := Lib.hid (show CT (k + 1) = (CT k).set (puts[k]'hkl).1 ((puts[k]'hkl).2.extract 0 0 ++ ((CT k)[(puts[k]'hkl).1]).extract 0 128) by rw [Hs.out]; unfold cut1; rw [if_neg hc, if_pos ht, Hgd.out])
          have htb : ((k : Int) == torn) = true := by rw [beq_iff_eq]; exact ht
          clear hc hc' Hs ht Hgd
          have hsv := Hsx.out
          generalize (CT k)[(puts[k]'hkl).1] = sv at *
          clear hctl
          generalize (puts[k]'hkl).1 = x at *
          generalize (puts[k]'hkl).2 = y at *
          go_wp2_with fail
          refine HC.out.mono ?_
          rintro e w' ⟨rfl, rfl⟩
          obtain ⟨q0, q1, _, _⟩ := Box.two HB.out
          clear k0 k1 k2 k3 k4 k5 c0 c1'
          generalize wr.alloc (.cells #[.int .i64 (x : Nat), .string y] 65) = wq at *
          have r1 : ∀ W, (Instr.slice 9 (.string y) none (some (.int .i64 0)) none).run Try.prog W = .ok (.string (y.extract 0 0)) W := fun W => by
            rw [run_slice_string_h (ht := Try.underlying9) (kh := .i64) (h0 := by omega) (h2 := by omega)]
            rfl
          have r2 : ∀ W, (Instr.slice 9 (.string sv) (some (.int .i64 0)) none none).run Try.prog W = .ok (.string (sv.extract 0 128)) W := fun W => by
            rw [run_slice_string_l (ht := Try.underlying9) (kl := .i64) (h0 := by omega) (h1 := by omega), hsv]
            rfl
          have r3 : ∀ W, (Op.stringOp .add (y.extract 0 0) (sv.extract 0 128)).run Try.prog W = .ok (.string (y.extract 0 0 ++ sv.extract 0 128)) W := fun W => run_string_add W _ _ (by rw [ByteArray.size_extract]; omega) (by rw [ByteArray.size_extract]; omega)
          clear hda hsv
          generalize y.extract 0 0 = y1 at *
          generalize sv.extract 0 128 = y2 at *
          have Hrw := Lib.hid (Hown1.out.stored x (.string (y1 ++ y2))).1
          go_wp2_with fail
          go_region
          go_wp2_with fail
          refine ⟨⟨k + 1, by omega, rfl, ?_, (HQ01.out.far (p := ⟨g, x, none⟩) (by have := Hgr.out.1; show w.heap.size ≠ g; omega) _).drew, (HQ11.out.far (p := ⟨g, x, none⟩) (by have := Hgr.out.1; show w.heap.size + 1 ≠ g; omega) _).drew, (Hbe1.out.setCell (p := ⟨g, x, none⟩) (by have := Hgr.out.1; show w.heap.size ≤ g; omega) _).drew⟩, by simp [intOf]; omega⟩
          rw [Hnew.out, List.map_set]
          exact Hrw.out
        · have Hnew := Lib.hid (show CT (k + 1) = CT k by rw [Hs.out]; unfold cut1; rw [if_neg hc, if_neg ht])
          have htb : ((k : Int) == torn) = false := by rw [beq_eq_false_iff_ne]; exact ht
          clear hc hc' Hs ht Hgd Hsx hcl hfr hctl
          generalize (puts[k]'hkl).1 = x at *
          generalize (puts[k]'hkl).2 = y at *
          go_wp2_with fail
          refine HC.out.mono ?_
          rintro e w' ⟨rfl, rfl⟩
          go_wp2_with fail
          refine ⟨⟨k + 1, by omega, rfl, ?_, HQ01.out, HQ11.out, Hbe1.out⟩, by simp [intOf]; omega⟩
          rw [Hnew.out]
          exact Hown1.out
    · have hke : k = m := by omega
      subst hke
      have KEY := Lib.hid (fun W hW => HE.out wr W (some ⟨g, 0, none⟩) c1 (w.heap.size + 2) (Nat.le_refl _) Hown.out Hbe.out hW)
      obtain ⟨⟨m0, m1, m2, m3, m4, m5⟩, ⟨e0, e1, e2, e3, e4, e5⟩⟩ := Box.six HQ1.out
      go_wp2_with fail
      refine bodyPost_ret (v := .agg #[.slice (some ⟨g, 0, none⟩) n c1, .slice none 0 0, .bool true, .int .i64 0, .int .i64 r, .int .i64 t]) (by simp [results, Try.results43, go_sem, m0, m1, m2, m3, m4, m5]) rfl (KEY.out _ ?_)
      exact Turn.put (Turn.put (Turn.put (Turn.put (Turn.put (Turn.put (Turn.refl _ _) _ _ (.inr rfl)) _ _ (.inr rfl)) _ _ (.inr rfl)) _ _ (.inr rfl)) _ _ (.inr rfl)) _ _ (.inr rfl)
end

section
variable (A A' : Option Addr) (c c' : Nat) (s : Dv) (w : World)
set_option maxRecDepth 100000 in
set_option maxHeartbeats 2000000 in
theorem rcut_big (F : Nat → Prop) (hg : Good s) (hF : ∀ k, F k → k < w.heap.size) (h1 : Free w F A (s.sec.map .string)) (h2 : Free w F A' (putV s.puts)) (Ak : Option Addr) (keep : List Int) (ck : Nat) (torn : Int) (b : Int) (hb : 128 < b) (hkl : keep.length ≤ 1000000) (hkr : Row w w.heap.size Ak (keep.map (Value.int .i64))) :
    Calls Try.prog 43 #[qv A A' c c' s, .slice Ak keep.length ck, .int .i64 torn, .int .i64 b] w (RetD F { s with sec := cutTo keep torn 128 s.sec s.puts s.puts.length, puts := [], off := true, fuse := 0 } w) := by
  have hd0 : decide (b < 0) = false := by simp; omega
  have hd1 : decide (128 < b) = true := by simpa using hb
  have HE := Lib.hid (fun w4 W A1 c1 base => rcut_end F (s := s) (keep := keep) (torn := torn) (b := 128) (w := w) (w4 := w4) (W := W) (A1 := A1) (c1 := c1) (base := base) hF)
  have HIn := Lib.hid (show ∀ W (k : Nat), Below w.heap.size w W → Calls Try.prog 51 #[.slice Ak keep.length ck, .int .i64 (k : Int)] W fun e w' => e = .returned (.bool (keep.contains (k : Int))) ∧ W = w' from fun W k hW => rin_any Ak keep ck k W hkl ((hkr.below hW).more hW.size))
  have Hrow := Lib.hid (show ∀ W, Below w.heap.size w W → Row W W.heap.size A (s.sec.map .string) from fun W hW => (h1.row.below hW).more hW.size)
  have Hput := Lib.hid (show ∀ W, Below w.heap.size w W → Row W W.heap.size A' (putV s.puts) from fun W hW => (h2.row.below hW).more hW.size)
  have Hst := Lib.hid (show ∀ k p, s.puts[k]? = some p → cutTo keep torn 128 s.sec s.puts (k + 1) = cut1 keep torn 128 (cutTo keep torn 128 s.sec s.puts k) k p from fun k p hp => by obtain ⟨hk, rfl⟩ := List.getElem?_eq_some_iff.1 hp; exact cutTo_succ keep torn 128 s.sec s.puts k hk)
  have H0 := Lib.hid (show cutTo keep torn 128 s.sec s.puts 0 = s.sec from rfl)
  have Hlen := Lib.hid (fun k => cutTo_len keep torn 128 s.sec s.puts k)
  have Hsz := Lib.hid (fun k => cutTo_size keep torn 128 s.sec s.puts k (by omega) hg.sec hg.data hg.at_)
  have Hat := Lib.hid hg.at_
  have Hda := Lib.hid hg.data
  have hn : s.sec.length ≤ 4096 := hg.hi
  have hn0 : 16 ≤ s.sec.length := hg.lo
  have Hml := Lib.hid hg.puts
  have Hm2 := Lib.hid (show 0 + s.sec.length < 1048576 * 64 by omega)
  have Hl1 := Lib.hid (show (s.sec.map Value.string).length = s.sec.length * 1 by simp)
  have Ho1 := Lib.hid (show ∀ u ∈ s.sec.map Value.string, u.oneCell' = true from fun u hu => by obtain ⟨x, _, rfl⟩ := List.mem_map.1 hu; rfl)
  obtain ⟨i0, ti0, tz0, tz1, tz2⟩ := info_parts info_string
  generalize hQ : RetD F { s with sec := cutTo keep torn 128 s.sec s.puts s.puts.length, puts := [], off := true, fuse := 0 } w = Q at *
  unfold qv at *
  clear hQ hF h1 h2 hg hkl hkr
  generalize hCT : cutTo keep torn 128 s.sec s.puts = CT at *
  clear hCT
  generalize hPL : s.puts = puts at *
  clear hPL
  generalize hN : s.sec.length = n at *
  generalize hM : puts.length = m at *
  have Hm := Lib.hid hM
  have Hn := Lib.hid hN
  clear hN hM
  generalize s.off = o at *
  generalize s.fuse = f at *
  generalize s.reads = r at *
  generalize s.steps = t at *
  generalize s.sec = sec at *
  generalize keep.length = kl at *
  have Hw3 := Lib.hid (two_new (Below.refl _ ((w.alloc (.cells #[.slice A n c, .slice A' m c', .bool o, .int .i64 f, .int .i64 r, .int .i64 t] 44)).alloc (.cells #[.slice none 0 0, .slice none 0 0, .bool false, .int .i64 0, .int .i64 0, .int .i64 0] 44))))
  have Hown0 := Lib.hid (World.ownsRow_made (base := w.heap.size + 2) (e := 9) (size := 1) ((w.alloc (.cells #[.slice A n c, .slice A' m c', .bool o, .int .i64 f, .int .i64 r, .int .i64 t] 44)).alloc (.cells #[.slice none 0 0, .slice none 0 0, .bool false, .int .i64 0, .int .i64 0, .int .i64 0] 44)) #[] 0 (by simp) (Nat.zero_le _) (by simp))
  have Hba := Lib.hid (show w.heap.size + 2 ≤ (((w.alloc (.cells #[.slice A n c, .slice A' m c', .bool o, .int .i64 f, .int .i64 r, .int .i64 t] 44)).alloc (.cells #[.slice none 0 0, .slice none 0 0, .bool false, .int .i64 0, .int .i64 0, .int .i64 0] 44)).alloc (.cells #[] 9)).heap.size by simp)
  have Hb3a := Lib.hid (Hw3.out.2.2.alloc Hw3.out.2.2.size (.cells #[] 9))
  have hs0 : (w.alloc (.cells #[.slice A n c, .slice A' m c', .bool o, .int .i64 f, .int .i64 r, .int .i64 t] 44)).heap.size = w.heap.size + 1 := by simp
  have hs1 : ((w.alloc (.cells #[.slice A n c, .slice A' m c', .bool o, .int .i64 f, .int .i64 r, .int .i64 t] 44)).alloc (.cells #[.slice none 0 0, .slice none 0 0, .bool false, .int .i64 0, .int .i64 0, .int .i64 0] 44)).heap.size = w.heap.size + 1 + 1 := by simp
  rw [hs1] at Hown0
  clear hs0 hs1
  go_enter Try.func43, Try.ntmps43
  go_upto_region 6 with (at_builtin; refine wpList_append_rows rfl (.tmp 12) (.tmp 15) 35 rfl (w.heap.size + 2) 9 i0 (.string ByteArray.empty) 1 16 Try.underlying35 ti0 tz0 tz1 tz2 rfl (by decide) (((w.alloc (.cells #[.slice A n c, .slice A' m c', .bool o, .int .i64 f, .int .i64 r, .int .i64 t] 44)).alloc (.cells #[.slice none 0 0, .slice none 0 0, .bool false, .int .i64 0, .int .i64 0, .int .i64 0] 44)).alloc (.cells #[] 9)) (.slice (some ⟨w.heap.size + 1 + 1, 0, none⟩) 0 0) 0 [] rfl Hown0.out A n c _ (sec.map Value.string) rfl Hl1.out (Hrow.out _ Hb3a.out) Ho1.out Hm2.out (by decide) Hba.out ?_; intro v1 w4 hown4 happ4; obtain ⟨hown4', hD0, hD1, hb4⟩ := rcut_start happ4 hown4; obtain ⟨A1, c1, hf1⟩ := own_form2 hown4'; subst hf1; have Hown4 := Lib.hid hown4'; have HD0 := Lib.hid hD0; have HD1 := Lib.hid hD1; have Hb4 := Lib.hid hb4; clear hown4 happ4 hown4' hD0 hD1 hb4)
  have hA1 : ∃ g, A1 = some ⟨g, 0, none⟩ := by
    rcases Hown4.out.2 with ⟨_, h0⟩ | ⟨g, cap, cur, hv, _⟩
    · omega
    · injection hv with hv _ _
      exact ⟨g, hv⟩
  obtain ⟨g, rfl⟩ := hA1
  have Hgl := Lib.hid (fun (W : World) (xs : List Value) (h : W.ownsRow (w.heap.size + 2) 9 1 (.slice (some ⟨g, 0, none⟩) n c1) n xs) => h.lt g rfl)
  clear Hw3 Hown0 Hba Hb3a Hrow Hl1 Ho1 Hm2 ti0 tz0 tz1 tz2
  go_wp2_with fail
  go_loopw [10, 11] (fun v10 _ wr => ∃ k : Nat, k ≤ m ∧ v10 = .int .i64 (k : Nat) ∧ wr.ownsRow (w.heap.size + 2) 9 1 (.slice (some ⟨g, 0, none⟩) n c1) n ((CT k).map .string) ∧ Box wr w.heap.size 44 #[.slice A n c, .slice A' m c', .bool o, .int .i64 f, .int .i64 r, .int .i64 t] ∧ Box wr (w.heap.size + 1) 44 #[.slice none 0 0, .slice none 0 0, .bool false, .int .i64 0, .int .i64 0, .int .i64 0] ∧ Below w.heap.size w wr) (fun v10 _ _ => m - (intOf v10).toNat)
  case atStart => exact ⟨0, Nat.zero_le _, rfl, by rw [H0.out]; exact Hown4.out, HD0.out, HD1.out, Hb4.out⟩
  case round =>
    obtain ⟨k, hk, rfl, hown, hQ0, hQ1, hbe⟩ := hrel
    obtain ⟨⟨k0, k1, k2, k3, k4, k5⟩, _⟩ := Box.six hQ0
    have Hown := Lib.hid hown
    have HQ0 := Lib.hid hQ0
    have HQ1 := Lib.hid hQ1
    have Hbe := Lib.hid hbe
    clear hown hQ0 hQ1 hbe
    by_cases hkn : k < m
    · have hkl : k < puts.length := by rw [Hm.out]; exact hkn
      obtain ⟨pb, poff, rfl, hpb, c0, c1'⟩ := Row.putN (Hput.out wr Hbe.out) k hkl
      have hb0 := (Below.refl wr.heap.size wr).alloc (Nat.le_refl _) (.cells #[.int .i64 ((puts[k]'hkl).1 : Nat), .string (puts[k]'hkl).2] 65)
      have hat : (puts[k]'hkl).1 < n := Hat.out _ (List.getElem_mem _)
      have hda : (puts[k]'hkl).2.size = 128 := Hda.out _ (List.getElem_mem _)
      have HB := Lib.hid (Box.new wr 65 #[.int .i64 ((puts[k]'hkl).1 : Nat), .string (puts[k]'hkl).2])
      have Hown1 := Lib.hid (own_turn (p := fun _ => False) Hown.out (.below hb0) (fun _ _ h => h))
      have HQ01 := Lib.hid (HQ0.out.under hb0)
      have HQ11 := Lib.hid (HQ1.out.under hb0)
      have Hbe1 := Lib.hid (Hbe.out.trans (hb0.mono Hbe.out.size))
      have HC := Lib.hid (HIn.out _ k Hbe1.out)
      have Hs := Lib.hid (Hst.out k _ (List.getElem?_eq_getElem hkl))
      have hk0 : (0 : Int) ≤ (k : Int) := by omega
      have hk1 : (k : Int) < (m : Int) := by omega
      have hm1 := Hml.out
      have hatI : ((puts[k]'hkl).1 : Int) < (n : Int) := by omega
      have hat0 : (0 : Int) ≤ ((puts[k]'hkl).1 : Int) := by omega
      have hctl : (puts[k]'hkl).1 < (CT k).length := by rw [Hlen.out]; exact hat
      have Hgr := Lib.hid (Hgl.out _ _ Hown.out)
      have hcl := Hown1.out.cells (g := g) rfl (puts[k]'hkl).1 _ (by rw [List.getElem?_map, List.getElem?_eq_getElem hctl]; rfl)
      have hfr := Hown1.out.frozenAt (puts[k]'hkl).1
      rw [add_at, Nat.zero_add] at hcl
      have Hsx := Lib.hid (show (CT k)[(puts[k]'hkl).1].size = 128 from Hsz.out k _ (List.getElem_mem _))
      have Hgd := Lib.hid (show (CT k).getD (puts[k]'hkl).1 ByteArray.empty = (CT k)[(puts[k]'hkl).1] by rw [List.getD_eq_getElem?_getD, List.getElem?_eq_getElem hctl]; rfl)
      have Hcat := Lib.hid hat
      clear hb0 hat Hown HQ0 HQ1 Hat Hda
      by_cases hc : keep.contains (k : Int) = true
      · have Hnew := Lib.hid (show CT (k + 1) = (CT k).set (puts[k]'hkl).1 (puts[k]'hkl).2 by rw [Hs.out]; unfold cut1; rw [if_pos hc])
        rw [hc] at HC
        clear hc Hs Hgd
        generalize (CT k)[(puts[k]'hkl).1] = sv at *
        clear hctl
        generalize (puts[k]'hkl).1 = x at *
        generalize (puts[k]'hkl).2 = y at *
        go_wp2_with fail
        refine HC.out.mono ?_
        rintro e w' ⟨rfl, rfl⟩
        obtain ⟨q0, q1, _, _⟩ := Box.two HB.out
        clear k0 k1 k2 k3 k4 k5 c0 c1'
        generalize wr.alloc (.cells #[.int .i64 (x : Nat), .string y] 65) = wq at *
        have Hrw := Lib.hid (Hown1.out.stored x (.string y)).1
        go_wp2_with fail
        refine ⟨⟨k + 1, by omega, rfl, ?_, HQ01.out.far (by have := Hgr.out.1; show w.heap.size ≠ g; omega) _, HQ11.out.far (by have := Hgr.out.1; show w.heap.size + 1 ≠ g; omega) _, Hbe1.out.setCell (by have := Hgr.out.1; show w.heap.size ≤ g; omega) _⟩, by simp [intOf]; omega⟩
        rw [Hnew.out, List.map_set]
        exact Hrw.out
      · have hc' : keep.contains (k : Int) = false := by simpa using hc
        rw [hc'] at HC
        by_cases ht : (k : Int) = torn
        · have Hnew := Lib.hid (show CT (k + 1) = (CT k).set (puts[k]'hkl).1 ((puts[k]'hkl).2.extract 0 128 ++ ((CT k)[(puts[k]'hkl).1]).extract 128 128) by rw [Hs.out]; unfold cut1; rw [if_neg hc, if_pos ht, Hgd.out])
          have htb : ((k : Int) == torn) = true := by rw [beq_iff_eq]; exact ht
          clear hc hc' Hs ht Hgd
          have hsv := Hsx.out
          generalize (CT k)[(puts[k]'hkl).1] = sv at *
          clear hctl
          generalize (puts[k]'hkl).1 = x at *
          generalize (puts[k]'hkl).2 = y at *
          go_wp2_with fail
          refine HC.out.mono ?_
          rintro e w' ⟨rfl, rfl⟩
          obtain ⟨q0, q1, _, _⟩ := Box.two HB.out
          clear k0 k1 k2 k3 k4 k5 c0 c1'
          generalize wr.alloc (.cells #[.int .i64 (x : Nat), .string y] 65) = wq at *
          have r1 : ∀ W, (Instr.slice 9 (.string y) none (some (.int .i64 128)) none).run Try.prog W = .ok (.string (y.extract 0 128)) W := fun W => by
            rw [run_slice_string_h (ht := Try.underlying9) (kh := .i64) (h0 := by omega) (h2 := by omega)]
            rfl
          have r2 : ∀ W, (Instr.slice 9 (.string sv) (some (.int .i64 128)) none none).run Try.prog W = .ok (.string (sv.extract 128 128)) W := fun W => by
            rw [run_slice_string_l (ht := Try.underlying9) (kl := .i64) (h0 := by omega) (h1 := by omega), hsv]
            rfl
          have r3 : ∀ W, (Op.stringOp .add (y.extract 0 128) (sv.extract 128 128)).run Try.prog W = .ok (.string (y.extract 0 128 ++ sv.extract 128 128)) W := fun W => run_string_add W _ _ (by rw [ByteArray.size_extract]; omega) (by rw [ByteArray.size_extract]; omega)
          clear hda hsv
          generalize y.extract 0 128 = y1 at *
          generalize sv.extract 128 128 = y2 at *
          have Hrw := Lib.hid (Hown1.out.stored x (.string (y1 ++ y2))).1
          go_wp2_with fail
          go_region
          go_wp2_with fail
          refine ⟨⟨k + 1, by omega, rfl, ?_, (HQ01.out.far (p := ⟨g, x, none⟩) (by have := Hgr.out.1; show w.heap.size ≠ g; omega) _).drew, (HQ11.out.far (p := ⟨g, x, none⟩) (by have := Hgr.out.1; show w.heap.size + 1 ≠ g; omega) _).drew, (Hbe1.out.setCell (p := ⟨g, x, none⟩) (by have := Hgr.out.1; show w.heap.size ≤ g; omega) _).drew⟩, by simp [intOf]; omega⟩
          rw [Hnew.out, List.map_set]
          exact Hrw.out
        · have Hnew := Lib.hid (show CT (k + 1) = CT k by rw [Hs.out]; unfold cut1; rw [if_neg hc, if_neg ht])
          have htb : ((k : Int) == torn) = false := by rw [beq_eq_false_iff_ne]; exact ht
          clear hc hc' Hs ht Hgd Hsx hcl hfr hctl
          generalize (puts[k]'hkl).1 = x at *
          generalize (puts[k]'hkl).2 = y at *
          go_wp2_with fail
          refine HC.out.mono ?_
          rintro e w' ⟨rfl, rfl⟩
          go_wp2_with fail
          refine ⟨⟨k + 1, by omega, rfl, ?_, HQ01.out, HQ11.out, Hbe1.out⟩, by simp [intOf]; omega⟩
          rw [Hnew.out]
          exact Hown1.out
    · have hke : k = m := by omega
      subst hke
      have KEY := Lib.hid (fun W hW => HE.out wr W (some ⟨g, 0, none⟩) c1 (w.heap.size + 2) (Nat.le_refl _) Hown.out Hbe.out hW)
      obtain ⟨⟨m0, m1, m2, m3, m4, m5⟩, ⟨e0, e1, e2, e3, e4, e5⟩⟩ := Box.six HQ1.out
      go_wp2_with fail
      refine bodyPost_ret (v := .agg #[.slice (some ⟨g, 0, none⟩) n c1, .slice none 0 0, .bool true, .int .i64 0, .int .i64 r, .int .i64 t]) (by simp [results, Try.results43, go_sem, m0, m1, m2, m3, m4, m5]) rfl (KEY.out _ ?_)
      exact Turn.put (Turn.put (Turn.put (Turn.put (Turn.put (Turn.put (Turn.refl _ _) _ _ (.inr rfl)) _ _ (.inr rfl)) _ _ (.inr rfl)) _ _ (.inr rfl)) _ _ (.inr rfl)) _ _ (.inr rfl)
end

theorem rcut_any (A A' : Option Addr) (c c' : Nat) (s : Dv) (w : World) (F : Nat → Prop) (hg : Good s) (hF : ∀ k, F k → k < w.heap.size) (h1 : Free w F A (s.sec.map .string)) (h2 : Free w F A' (putV s.puts)) (Ak : Option Addr) (keep : List Int) (ck : Nat) (torn n : Int) (hkl : keep.length ≤ 1000000) (hkr : Row w w.heap.size Ak (keep.map (Value.int .i64))) :
    Calls Try.prog 43 #[qv A A' c c' s, .slice Ak keep.length ck, .int .i64 torn, .int .i64 n] w (RetD F (cutD s keep torn n) w) := by
  unfold cutD
  by_cases h0 : n < 0
  · rw [show cutBytes n = 0 by unfold cutBytes; omega]
    exact rcut_neg A A' c c' s w F hg hF h1 h2 Ak keep ck torn n h0 hkl hkr
  · by_cases h3 : 128 < n
    · rw [show cutBytes n = 128 by unfold cutBytes; omega]
      exact rcut_big A A' c c' s w F hg hF h1 h2 Ak keep ck torn n h3 hkl hkr
    · obtain ⟨b, rfl⟩ := Int.eq_ofNat_of_zero_le (show 0 ≤ n by omega)
      rw [show cutBytes (b : Int) = b by unfold cutBytes; omega]
      exact rcut_mid A A' c c' s w F hg hF h1 h2 Ak keep ck torn b (by omega) hkl hkr

end Go.Proofs.Ytbjjfbojcokmgaa.Dv
