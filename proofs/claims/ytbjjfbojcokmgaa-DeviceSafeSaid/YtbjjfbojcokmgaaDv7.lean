/- Layer 7: the power goes: Cut. -/
import Derived.Test.YtbjjfbojcokmgaaDv6
import Derived.Test.YtbjjfbojcokmgaaShelf
import Derived.StillTailTactics
namespace Go.Proofs.Ytbjjfbojcokmgaa.Dv
open Go.RowKit Base
set_option linter.unusedVariables false
set_option linter.unusedSimpArgs false

theorem contains_any (A : Option Addr) (l : List Int) (c : Nat) (x : Int) (w : World) (hl : l.length ≤ maxLen) (hr : Row w w.heap.size A (l.map (Value.int .i64))) :
    Calls Try.prog 38 #[.slice A l.length c, .int .i64 x] w fun e w' => e = .returned (.bool (l.contains x)) ∧ w = w' := by
  rcases hr with h0 | ⟨b, off, rfl, _, hc⟩
  · have hl0 : l = [] := by simpa using h0
    subst hl0
    exact (Try.slices_Contains_int_empty A c x w).mono fun e w' ⟨h1, h2⟩ => ⟨h1, h2.symm⟩
  · have := Try.slices_Contains_int b off l.length c l x w (Nat.le_refl _) hl (fun j hj => hc j _ (by rw [List.getElem?_map, List.getElem?_eq_getElem hj, List.getD_eq_getElem?_getD, List.getElem?_eq_getElem hj]; rfl))
    rw [List.take_length] at this
    exact this.mono fun e w' ⟨h1, h2⟩ => ⟨h1, h2.symm⟩

/-- what becomes of the sectors by one write, when the power goes -/
def cut1 (keep : List Int) (torn : Int) (b : Nat) (sec : List ByteArray) (i : Nat) (p : Nat × ByteArray) : List ByteArray :=
  if keep.contains (i : Int) then sec.set p.1 p.2
  else if (i : Int) = torn then sec.set p.1 (p.2.extract 0 b ++ (sec.getD p.1 ByteArray.empty).extract b 128)
  else sec
def cutTo (keep : List Int) (torn : Int) (b : Nat) (sec : List ByteArray) (puts : List (Nat × ByteArray)) : Nat → List ByteArray
  | 0 => sec
  | k + 1 => match puts[k]? with
    | some p => cut1 keep torn b (cutTo keep torn b sec puts k) k p
    | none => cutTo keep torn b sec puts k
def cutBytes (n : Int) : Nat := (min (max n 0) 128).toNat
def cutD (s : Dv) (keep : List Int) (torn n : Int) : Dv := { s with sec := cutTo keep torn (cutBytes n) s.sec s.puts s.puts.length, puts := [], off := true, fuse := 0 }
theorem cutTo_succ (keep : List Int) (torn : Int) (b : Nat) (sec : List ByteArray) (puts : List (Nat × ByteArray)) (k : Nat) (hk : k < puts.length) : cutTo keep torn b sec puts (k + 1) = cut1 keep torn b (cutTo keep torn b sec puts k) k puts[k] := by
  show (match puts[k]? with | some p => _ | none => _) = _
  rw [List.getElem?_eq_getElem hk]
theorem cut1_len (keep : List Int) (torn : Int) (b : Nat) (sec : List ByteArray) (i : Nat) (p : Nat × ByteArray) : (cut1 keep torn b sec i p).length = sec.length := by
  unfold cut1
  split
  · rw [List.length_set]
  · split
    · rw [List.length_set]
    · rfl
theorem cutBytes_le (n : Int) : cutBytes n ≤ 128 := by unfold cutBytes; omega
theorem cutBytes_eq (n : Int) : min (max n 0) 128 = (cutBytes n : Int) := by unfold cutBytes; omega
theorem torn_size (x y : ByteArray) (b : Nat) (hx : x.size = 128) (hy : y.size = 128) (hb : b ≤ 128) : (x.extract 0 b ++ y.extract b 128).size = 128 := by
  rw [ByteArray.size_append, ByteArray.size_extract, ByteArray.size_extract]
  omega
theorem DevAt.cutted {w w2 : World} {B : Nat} {F : Nat → Prop} {d gs c : Nat} {pv : Value} {s : Dv} {sec : List ByteArray} (h : DevAt w2 B F d gs c pv { s with sec := sec }) (t2 : Turn (· = gs) w w2) :
    DevAt (((w2.setCell ⟨d, 1, none⟩ (.slice none 0 0)).setCell ⟨d, 5, none⟩ (.bool true)).setCell ⟨d, 2, none⟩ (.int .i64 0)) B F d gs c (.slice none 0 0) { s with sec := sec, puts := [], off := true, fuse := 0 } ∧ Turn F w (((w2.setCell ⟨d, 1, none⟩ (.slice none 0 0)).setCell ⟨d, 5, none⟩ (.bool true)).setCell ⟨d, 2, none⟩ (.int .i64 0)) := by
  have ht : Turn (· = d) w2 (((w2.setCell ⟨d, 1, none⟩ (.slice none 0 0)).setCell ⟨d, 5, none⟩ (.bool true)).setCell ⟨d, 2, none⟩ (.int .i64 0)) := Turn.cell (Turn.cell (Turn.cell (Turn.refl _ w2) _ _) _ _) _ _
  have hg := h.good
  refine ⟨h.bare ht (((h.box.set 1 (.slice none 0 0)).set 5 (.bool true)).set 2 (.int .i64 0)) rfl rfl ⟨hg.lo, hg.hi, hg.sec, (fun p hp => by cases hp), (fun p hp => by cases hp), Nat.zero_le _, Nat.zero_le _, hg.reads, hg.steps⟩, ?_⟩
  exact (t2.more (fun k hk => hk ▸ h.fg)).trans (ht.more (fun k hk => hk ▸ h.fd))

set_option maxRecDepth 100000 in
set_option maxHeartbeats 1000000 in
theorem cut_yes {w : World} {B : Nat} {F : Nat → Prop} {d gs c : Nat} {pv : Value} {s : Dv} (h : DevAt w B F d gs c pv s) (A : Option Addr) (keep : List Int) (ck : Nat) (torn n : Int) (hkl : keep.length ≤ maxLen) (hkr : Row w B A (keep.map (Value.int .i64))) :
    Calls Try.prog 14 #[.pointer (some ⟨d, 0, none⟩), .slice A keep.length ck, .int .i64 torn, .int .i64 n] w fun e w' => e = .returned (.int .i64 0) ∧ DevAt w' B F d gs c (.slice none 0 0) (cutD s keep torn n) ∧ Turn F w w' := by
  have HT := Lib.hid (there_yes d _ _ c pv _ _ _ _ w h.box h.n0 h.n1)
  unfold cutD
  have hcb := cutBytes_eq n
  have hb128 := cutBytes_le n
  generalize cutBytes n = b at *
  obtain ⟨⟨k0, k1, k2, k3, k4, k5⟩, ⟨f0, f1, f2, f3, f4, f5⟩⟩ := Box.six h.box
  obtain ⟨AP, cp, rfl, _⟩ := h.form
  have HD := Lib.hid h
  have Hpn := Lib.hid h.good.puts
  have Hkr := Lib.hid hkr
  have Hkl := Lib.hid hkl
  clear h hkr hkl k0 k2 k3 k4 k5 f0 f1 f2 f3 f4 f5
  go_enter Try.func14, Try.ntmps14
  go_wp2_with fail
  refine HT.out.mono ?_
  rintro e w' ⟨rfl, rfl⟩
  go_wp2_with fail
  clear hcb
  go_loopw [9, 10, 22] (fun _ _ v22 wr => ∃ k : Nat, k ≤ s.puts.length ∧ v22 = .int .i64 (k : Nat) ∧ DevAt wr B F d gs c (.slice AP s.puts.length cp) { s with sec := cutTo keep torn b s.sec s.puts k } ∧ Turn (· = gs) w wr) (fun _ _ v22 _ => s.puts.length - (intOf v22).toNat)
  case atStart => exact ⟨0, Nat.zero_le _, rfl, HD.out, Turn.refl _ _⟩
  case round =>
    obtain ⟨k, hk, rfl, hd, htr⟩ := hrel
    by_cases hlt : k < s.puts.length
    · obtain ⟨A2, cp2, e2, hcells⟩ := hd.form
      injection e2 with e2 _ e3
      subst e2 e3
      obtain ⟨gp, rfl, c0, c1⟩ := hcells k hlt
      have hkI : (k : Int) < (s.puts.length : Int) := by omega
      have hk0 : (0 : Int) ≤ (k : Int) := by omega
      have hb0 := (Below.refl wr.heap.size wr).alloc (Nat.le_refl _) (.cells #[.int .i64 (s.puts[k].1 : Nat), .string s.puts[k].2] 65)
      have hBs : B ≤ wr.heap.size := Nat.le_of_lt (Nat.lt_of_le_of_lt (hd.own d hd.fd).1 (hd.own d hd.fd).2)
      have hrow : Row (wr.alloc (.cells #[.int .i64 (s.puts[k].1 : Nat), .string s.puts[k].2] 65)) (wr.alloc (.cells #[.int .i64 (s.puts[k].1 : Nat), .string s.puts[k].2] 65)).heap.size A (keep.map (Value.int .i64)) :=
        ((Hkr.out.turn htr (fun j hj => hj ▸ (hd.own gs hd.fg).1) (Nat.le_of_lt (Nat.lt_of_le_of_lt (HD.out.own d HD.out.fd).1 (HD.out.own d HD.out.fd).2))).below (hb0.mono hBs)).more (by simp; omega)
      have HCo := Lib.hid (contains_any A keep ck (k : Int) _ Hkl.out hrow)
      have hat := hd.good.at_ _ (List.getElem_mem hlt)
      have hda := hd.good.data _ (List.getElem_mem hlt)
      have HLay := Lib.hid (show ∀ W x, x.size = 128 → DevAt W B F d gs c (.slice (some ⟨gp, 0, none⟩) s.puts.length cp) { s with sec := cutTo keep torn b s.sec s.puts k } → Calls Try.prog 34 #[.pointer (some ⟨d, 0, none⟩), .agg #[.int .i64 (s.puts[k].1 : Nat), .string x]] W fun e w' => e = .returned (.tuple #[]) ∧ DevAt w' B F d gs c (.slice (some ⟨gp, 0, none⟩) s.puts.length cp) { s with sec := (cutTo keep torn b s.sec s.puts k).set s.puts[k].1 x } ∧ Turn (· = gs) W w' from fun W x hx hW => lay_any hW s.puts[k].1 x hat hx)
      have Hsn := Lib.hid (cutTo_succ keep torn b s.sec s.puts k hlt)
      have Hd1 := Lib.hid (hd.below hb0)
      have Htr := Lib.hid (show Turn (· = gs) w _ from htr.trans (.below hb0))
      have hpn := Hpn.out
      clear hd htr hcells hb0 hrow
      simp only at *
      by_cases hc : keep.contains (k : Int) = true
      · have Hnew := Lib.hid (show cutTo keep torn b s.sec s.puts (k + 1) = (cutTo keep torn b s.sec s.puts k).set s.puts[k].1 s.puts[k].2 by rw [Hsn.out]; unfold cut1; rw [if_pos hc])
        rw [hc] at HCo
        clear hc Hsn
        generalize s.puts[k].1 = x at *
        generalize s.puts[k].2 = y at *
        go_wp2_with fail
        refine HCo.out.mono ?_
        rintro e w' ⟨rfl, rfl⟩
        go_wp2_with fail
        refine (HLay.out _ y hda Hd1.out).mono ?_
        rintro e w2 ⟨rfl, h2, t2⟩
        have H2 := Lib.hid h2
        have T2 := Lib.hid (Htr.out.trans t2)
        clear h2 t2
        go_wp2_with fail
        refine ⟨⟨k + 1, by omega, rfl, ?_, T2.out⟩, by simp [intOf]; omega⟩
        rw [Hnew.out]
        exact H2.out
      · have hc' : keep.contains (k : Int) = false := by simpa using hc
        rw [hc'] at HCo
        by_cases ht : (k : Int) = torn
        · subst ht
          have hsx := Hd1.out.secAt s.puts[k].1 hat
          have hsv : ((cutTo keep (k : Int) b s.sec s.puts k).getD s.puts[k].1 ByteArray.empty).size = 128 := by
            rw [List.getD_eq_getElem?_getD, List.getElem?_eq_getElem hat]
            exact Hd1.out.good.sec _ (List.getElem_mem _)
          have Hnew := Lib.hid (show cutTo keep (k : Int) b s.sec s.puts (k + 1) = (cutTo keep (k : Int) b s.sec s.puts k).set s.puts[k].1 (s.puts[k].2.extract 0 b ++ ((cutTo keep (k : Int) b s.sec s.puts k).getD s.puts[k].1 ByteArray.empty).extract b 128) by rw [Hsn.out]; unfold cut1; rw [if_neg hc, if_pos rfl])
          have Htz := Lib.hid (torn_size _ _ b hda hsv hb128)
          have htb : ((k : Int) == (k : Int)) = true := by simp
          have Hbx := Lib.hid (Box.new wr 65 #[.int .i64 (s.puts[k].1 : Nat), .string s.puts[k].2])
          obtain ⟨⟨m0, _, _, _, _, _⟩, _⟩ := Box.six Hd1.out.box
          simp only at hsx m0
          have hatI : (s.puts[k].1 : Int) < ((cutTo keep (k : Int) b s.sec s.puts k).length : Int) := by omega
          have hat0 : (0 : Int) ≤ (s.puts[k].1 : Int) := by omega
          clear hc hc' Hsn
          generalize hsec : cutTo keep (k : Int) b s.sec s.puts k = sec at *
          clear hsec
          generalize sec.getD s.puts[k].1 ByteArray.empty = sv at *
          generalize s.puts[k].1 = x at *
          generalize s.puts[k].2 = y at *
          go_wp2_with fail
          refine HCo.out.mono ?_
          rintro e w' ⟨rfl, rfl⟩
          go_wp2_with fail
          obtain ⟨q0, q1, _, _⟩ := Box.two Hbx.out
          generalize wr.alloc (.cells #[.int .i64 (x : Nat), .string y] 65) = w0 at *
          generalize wr.heap.size = gP at *
          have r1 : ∀ W, (Instr.slice 9 (.string y) none (some (.int .i64 (b : Int))) none).run Try.prog W = .ok (.string (y.extract 0 b)) W := fun W => by
            rw [run_slice_string_h (ht := Try.underlying9) (kh := .i64) (h0 := by omega) (h2 := by omega)]
            rfl
          have r2 : ∀ W, (Instr.slice 9 (.string sv) (some (.int .i64 (b : Int))) none none).run Try.prog W = .ok (.string (sv.extract b 128)) W := fun W => by
            rw [run_slice_string_l (ht := Try.underlying9) (kl := .i64) (h0 := by omega) (h1 := by omega), hsv]
            rfl
          have r3 : ∀ W, (Op.stringOp .add (y.extract 0 b) (sv.extract b 128)).run Try.prog W = .ok (.string (y.extract 0 b ++ sv.extract b 128)) W := fun W => run_string_add W _ _ (by rw [ByteArray.size_extract]; omega) (by rw [ByteArray.size_extract]; omega)
          generalize y.extract 0 b = y1 at *
          generalize sv.extract b 128 = y2 at *
          go_still_tail 19, (by kernel_rfl)
          change wpList _ _ _ _ _ w0.drew
          have Hd2 := Lib.hid (show DevAt w0.drew B F d gs c (.slice (some ⟨gp, 0, none⟩) s.puts.length cp) { s with sec := sec } from Hd1.out.below (Below.refl _ _).drew)
          have Htr2 := Lib.hid (show Turn (· = gs) w w0.drew from Htr.out.drew)
          clear r1 r2 r3 q0 q1 hsx m0 Hd1 Htr
          generalize w0.drew = w2 at *
          go_wp2_with fail
          refine (HLay.out _ _ Htz.out Hd2.out).mono ?_
          rintro e w3 ⟨rfl, h2, t2⟩
          have H2 := Lib.hid h2
          have T2 := Lib.hid (Htr2.out.trans t2)
          clear h2 t2
          go_wp2_with fail
          refine ⟨⟨k + 1, by omega, rfl, ?_, T2.out⟩, by simp [intOf]; omega⟩
          rw [Hnew.out]
          exact H2.out
        · have Hnew := Lib.hid (show cutTo keep torn b s.sec s.puts (k + 1) = cutTo keep torn b s.sec s.puts k by rw [Hsn.out]; unfold cut1; rw [if_neg hc, if_neg ht])
          have htb : ((k : Int) == torn) = false := by rw [beq_eq_false_iff_ne]; exact ht
          clear hc hc' Hsn ht HLay
          generalize s.puts[k].1 = x at *
          generalize s.puts[k].2 = y at *
          go_wp2_with fail
          refine HCo.out.mono ?_
          rintro e w' ⟨rfl, rfl⟩
          go_wp2_with fail
          refine ⟨⟨k + 1, by omega, rfl, ?_, Htr.out⟩, by simp [intOf]; omega⟩
          rw [Hnew.out]
          exact Hd1.out
    · have hke : k = s.puts.length := by omega
      subst hke
      obtain ⟨⟨k0, k1, k2, k3, k4, k5⟩, ⟨f0, f1, f2, f3, f4, f5⟩⟩ := Box.six hd.box
      have Key := Lib.hid (hd.cutted htr)
      clear hd htr k0 k3 k4 f0 f3 f4
      go_wp2_with fail
      go_ret
      exact ⟨rfl, Key.out⟩

end Go.Proofs.Ytbjjfbojcokmgaa.Dv
