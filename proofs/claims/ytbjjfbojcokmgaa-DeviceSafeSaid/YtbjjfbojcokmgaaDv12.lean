/- Layer 7: two images that are the same: the document's Same. -/
import Derived.Test.YtbjjfbojcokmgaaDv11
namespace Go.Proofs.Ytbjjfbojcokmgaa.Dv
open Go.RowKit Base
set_option linter.unusedVariables false
set_option linter.unusedSimpArgs false

theorem below_drewN {B : Nat} {a w : World} (h : Below B a w) (n : Nat) : Below B a (w.drewN n) := ⟨h.os, h.tape, h.output, h.size, h.block⟩
/-- writes as they lie in memory, wherever they point -/
def putI (l : List (Int × ByteArray)) : List Value := l.flatMap fun p => [.int .i64 p.1, .string p.2]
def toI (l : List (Nat × ByteArray)) : List (Int × ByteArray) := l.map fun p => ((p.1 : Int), p.2)
theorem putV_I (l : List (Nat × ByteArray)) : putV l = putI (toI l) := by
  unfold putV putI toI
  rw [List.flatMap_map]
theorem putI_len (l : List (Int × ByteArray)) : (putI l).length = l.length * 2 := by
  unfold putI
  induction l with
  | nil => rfl
  | cons a l ih => rw [List.flatMap_cons, List.length_append, ih]; simp; omega
theorem putI_at (l : List (Int × ByteArray)) (k : Nat) (h : k < l.length) : (putI l)[k * 2]? = some (.int .i64 l[k].1) ∧ (putI l)[k * 2 + 1]? = some (.string l[k].2) := by
  induction l generalizing k with
  | nil => simp at h
  | cons a l ih =>
    cases k with
    | zero => exact ⟨rfl, rfl⟩
    | succ k =>
      have h' : k < l.length := by simpa using h
      have := ih k h'
      rw [show (k + 1) * 2 = k * 2 + 2 by omega]
      exact this
/-- a write that a slice of writes shows -/
theorem Row.put {w : World} {B : Nat} {A : Option Addr} {l : List (Int × ByteArray)} (h : Row w B A (putI l)) (k : Nat) (hk : k < l.length) :
    ∃ b off, A = some ⟨b, off, none⟩ ∧ b < B ∧ w.cell? ⟨b, off + k * 2, none⟩ = some (.int .i64 l[k].1) ∧ w.cell? ⟨b, off + k * 2 + 1, none⟩ = some (.string l[k].2) := by
  have hl := putI_len l
  rcases h with h | ⟨b, off, e, hb, hc⟩
  · rw [h] at hl
    simp at hl
    omega
  · exact ⟨b, off, e, hb, hc _ _ (putI_at l k hk).1, by rw [Nat.add_assoc]; exact hc _ _ (putI_at l k hk).2⟩

set_option maxRecDepth 100000 in
set_option maxHeartbeats 1000000 in
theorem same_yes (A B A' B' : Option Addr) (c d c' d' : Nat) (l : List ByteArray) (ps : List (Int × ByteArray)) (w : World) (hl : l.length ≤ 1000000) (hp : ps.length ≤ 1000000)
    (hr : Row w w.heap.size A (l.map Value.string)) (hs : Row w w.heap.size B (l.map Value.string)) (hr' : Row w w.heap.size A' (putI ps)) (hs' : Row w w.heap.size B' (putI ps)) :
    Calls Try.prog 17 #[.agg #[.slice A l.length c, .slice A' ps.length c'], .agg #[.slice B l.length d, .slice B' ps.length d']] w fun e w' => e = .returned (.bool true) ∧ Below w.heap.size w w' := by
  have hb0 : Below w.heap.size w ((w.alloc (.cells #[.slice A l.length c, .slice A' ps.length c'] 38)).alloc (.cells #[.slice B l.length d, .slice B' ps.length d'] 38)) := (by repeat (first | exact Below.refl _ _ | assumption | refine Below.drew ?_ | (refine Below.alloc ?_ (by simp <;> omega) _) | (refine Below.setCell ?_ (by simp <;> omega) _)))
  have Hb0 := Lib.hid hb0
  have Hr := Lib.hid hr
  have Hs := Lib.hid hs
  have Hr' := Lib.hid hr'
  have Hs' := Lib.hid hs'
  have HA := Lib.hid ((Box.new w 38 #[.slice A l.length c, .slice A' ps.length c']).alloc (.cells #[.slice B l.length d, .slice B' ps.length d'] 38))
  have HB := Lib.hid (Box.lay (w := w.alloc (.cells #[.slice A l.length c, .slice A' ps.length c'] 38)) (t := 38) (cs := #[.slice B l.length d, .slice B' ps.length d']) (g := w.heap.size + 1) (by simp))
  have hsz : w.heap.size + 1 < ((w.alloc (.cells #[.slice A l.length c, .slice A' ps.length c'] 38)).alloc (.cells #[.slice B l.length d, .slice B' ps.length d'] 38)).heap.size := by simp
  have Hsz := Lib.hid hsz
  clear hr hs hr' hs' hb0 hsz
  have hne : ((l.length : Int) != (l.length : Int)) = false := by simp
  have hne' : ((ps.length : Int) != (ps.length : Int)) = false := by simp
  generalize hN : l.length = n at *
  generalize hM : ps.length = m at *
  have Hn := Lib.hid hN
  have Hm := Lib.hid hM
  clear hN hM
  go_enter Try.func17, Try.ntmps17
  go_upto_region 1 with fail
  generalize (w.alloc (.cells #[.slice A n c, .slice A' m c'] 38)).alloc (.cells #[.slice B n d, .slice B' m d'] 38) = w0 at *
  obtain ⟨a0, a1, _, _⟩ := Box.two HA.out
  obtain ⟨b0, b1, _, _⟩ := Box.two HB.out
  go_wp2_with fail
  go_loopw [5, 26] (fun _ i wr => ∃ (k : Nat), k ≤ n ∧ i = .int .i64 k ∧ Below w0.heap.size w0 wr) (fun _ i _ => n - (intOf i).toNat)
  case atStart => exact ⟨0, Nat.zero_le _, rfl, Below.refl _ _⟩
  case round =>
    obtain ⟨k, hk, rfl, hbe⟩ := hrel
    have hbw := Hb0.out.trans (hbe.mono Hb0.out.size)
    have ka0 := cell_keep hbe a0
    have kb0 := cell_keep hbe b0
    have ka1 := cell_keep hbe a1
    have kb1 := cell_keep hbe b1
    by_cases hkn : k < n
    · have hkl : k < l.length := by rw [Hn.out]; exact hkn
      obtain ⟨b, off, rfl, hb, hc⟩ := (Hr.out.below hbw).at_ (k := k) (by simpa using hkl)
      obtain ⟨b', off', rfl, hb', hc'⟩ := (Hs.out.below hbw).at_ (k := k) (by simpa using hkl)
      rw [List.getElem_map] at hc hc'
      have hi0 : (0 : Int) ≤ (k : Int) := by omega
      have hi1 : (k : Int) < (n : Int) := by omega
      generalize l[k]'hkl = x at *
      have hb2 : (x.toList != x.toList) = false := by simp
      have Hbe := Lib.hid hbe
      clear hbe hbw a0 a1 b0 b1 ka1 kb1
      go_wp2_with fail
      go_quiet (fail)
      go_wp2_with fail
      go_roundw
      case rel => exact ⟨k + 1, by omega, by go_num, below_drewN Hbe.out _⟩
      case measure => simp [intOf]; omega
    · have hke : k = n := by omega
      subst hke
      have Hbe := Lib.hid hbe
      clear hbe hbw a0 b0 ka0 kb0
      go_wp2_with fail
      go_loopw [6, 44] (fun _ i wr => ∃ (k : Nat), k ≤ m ∧ i = .int .i64 k ∧ Below w0.heap.size w0 wr) (fun _ i _ => m - (intOf i).toNat)
      case atStart => exact ⟨0, Nat.zero_le _, rfl, Hbe.out⟩
      case round =>
        obtain ⟨j, hj, rfl, hbe⟩ := hrel
        have hbw := Hb0.out.trans (hbe.mono Hb0.out.size)
        have ja1 := cell_keep hbe a1
        have jb1 := cell_keep hbe b1
        clear ka1 kb1
        by_cases hjm : j < m
        · have hjl : j < ps.length := by rw [Hm.out]; exact hjm
          obtain ⟨b, off, rfl, hb, hc, hc2⟩ := Row.put (Hr'.out.below hbw) j hjl
          obtain ⟨b', off', rfl, hb', hc', hc2'⟩ := Row.put (Hs'.out.below hbw) j hjl
          have hi0 : (0 : Int) ≤ (j : Int) := by omega
          have hi1 : (j : Int) < (m : Int) := by omega
          generalize (ps[j]'hjl).1 = x at *
          generalize (ps[j]'hjl).2 = y at *
          have hb1 : (x != x) = false := by simp
          have hb2 : (y.toList != y.toList) = false := by simp
          have Hbe' := Lib.hid hbe
          clear hbe hbw a1 b1
          go_wp2_with fail
          go_quiet (fail)
          go_wp2_with fail
          go_roundw
          case rel => exact ⟨j + 1, by omega, by go_num, below_drewN Hbe'.out _⟩
          case measure => simp [intOf]; omega
        · have Hbw := Lib.hid hbw
          clear hbe hbw
          go_wp2_with fail
          go_ret
          exact ⟨rfl, Hbw.out⟩

end Go.Proofs.Ytbjjfbojcokmgaa.Dv
