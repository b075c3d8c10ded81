/- The contracts of package exact and of its reference (layer 3), fourth part: the total of values. -/
import Derived.Test.YtlmgmojicpdbeaaEx3
namespace Go.Proofs.Ytlmgmojicpdbeaa.Ex
open Go.RowKit Base

set_option maxHeartbeats 800000 in
theorem of_any (A : Option Addr) (c : Nat) (l : List Int) (w : World) (hl : l.length ≤ 140737488355328) (hf : fitAll l) (hr : Row w w.heap.size A (ints l)) :
    Calls Try.prog 21 #[.slice A l.length c] w fun e w' => e = .returned (.tuple #[.agg #[.int .i64 ((ofFrom 0 0 l).getD (0, 0)).1, .int .i64 ((ofFrom 0 0 l).getD (0, 0)).2], .bool (ofFrom 0 0 l).isSome]) ∧ Below w.heap.size w w' := by
  have Hf := Lib.hid hf
  have Hr := Lib.hid hr
  clear hf hr
  generalize hn : l.length = n at *
  have Hn := Lib.hid hn
  clear hn
  go_enter Try.func21, Try.ntmps21
  go_wp2
  go_loopw [5, 11] (fun o i wr => ∃ (k : Nat) (p q : Int), k ≤ n ∧ i = .int .i64 k ∧ o = .bool true ∧ fit p ∧ fit q ∧ ofFrom 0 0 l = ofFrom p q (l.drop k) ∧
      Box wr w.heap.size 30 #[.int .i64 0, .int .i64 0] ∧ Box wr (w.heap.size + 1) 30 #[.int .i64 p, .int .i64 q] ∧ Below w.heap.size w wr) (fun _ i _ => n - (intOf i).toNat)
  case atStart => exact ⟨0, 0, 0, Nat.zero_le _, rfl, rfl, by unfold fit; omega, by unfold fit; omega, rfl, (Box.new _ _ _).alloc _, by simpa using Box.new (w.alloc (.cells #[.int .i64 0, .int .i64 0] 30)) 30 #[.int .i64 0, .int .i64 0], (by repeat (first | exact Below.refl _ _ | assumption | refine Below.drew ?_ | (refine Below.alloc ?_ (by simp <;> omega) _) | (refine Below.setCell ?_ (by simp <;> omega) _)))⟩
  case round =>
    obtain ⟨k, p, q, hk, rfl, rfl, hp, hq, he, hb0, hb1, hbe⟩ := hrel
    obtain ⟨c0, c1, f0, f1⟩ := hb1.two
    obtain ⟨d0, d1, g0, g1⟩ := hb0.two
    have He := Lib.hid he
    have Hp := Lib.hid hp
    have Hq := Lib.hid hq
    clear he hp hq
    by_cases hlt : k < n
    · have hkl : k < l.length := by rw [Hn.out]; exact hlt
      obtain ⟨b, off, rfl, hb, hc⟩ := (Hr.out.below hbe).at_ (k := k) (by simpa using hkl)
      rw [List.getElem_map] at hc
      have hfz : fit (l[k]'hkl) := Hf.out _ (List.getElem_mem _)
      have hst := ofFrom_step hkl p q
      rw [← He.out] at hst
      generalize l[k]'hkl = z at *
      rcases hg : grow p q z with _ | ⟨p', q'⟩
      · rw [hg] at hst
        have Hst := Lib.hid hst
        have Hg := Lib.hid hg
        have Hfz := Lib.hid hfz
        clear hst hg hfz
        go_wp2_with fail
        refine (grow_no _ _ _ _ Hp.out Hq.out Hfz.out Hg.out).mono ?_
        rintro e w1 ⟨rfl, hb2⟩
        have x0 := hb0.under hb2
        have x1 := hb1.under hb2
        clear c0 c1 f0 f1 d0 d1 g0 g1 hc
        obtain ⟨c0, c1, f0, f1⟩ := x1.two
        obtain ⟨d0, d1, g0, g1⟩ := x0.two
        go_wp2_with fail
        refine bodyPost_ret (v := .tuple #[.agg #[.int .i64 0, .int .i64 0], .bool false]) (by simp [results, Try.results21, go_sem, d0, d1]) rfl ⟨?_, ?_⟩
        · rw [Hst.out]; rfl
        · exact Below.setCell (Below.setCell (Below.setCell (Below.setCell (hbe.trans (hb2.mono hbe.size)) (by simp) _) (by simp) _) (by simp) _) (by simp) _
      · rw [hg] at hst
        have Hst := Lib.hid hst
        have Hg := Lib.hid hg
        have Hfz := Lib.hid hfz
        clear hst hg hfz
        go_wp2_with fail
        refine (grow_yes _ _ _ _ _ _ Hp.out Hq.out Hfz.out Hg.out).mono ?_
        rintro e w1 ⟨rfl, hb2⟩
        have x0 := hb0.under hb2
        have x1 := hb1.under hb2
        clear c0 c1 f0 f1 d0 d1 g0 g1 hc
        obtain ⟨c0, c1, f0, f1⟩ := x1.two
        obtain ⟨d0, d1, g0, g1⟩ := x0.two
        obtain ⟨hp', hq'⟩ := grow_fit Hp.out Hq.out Hg.out
        have Hp' := Lib.hid hp'
        have Hq' := Lib.hid hq'
        clear hp' hq'
        go_wp2_with fail
        go_roundw
        case rel => exact ⟨k + 1, p', q', by omega, by go_num, rfl, Hp'.out, Hq'.out, Hst.out, (x0.far (by simp) _).far (by simp) _, (x1.set 0 _).set 1 _, Below.setCell (Below.setCell (hbe.trans (hb2.mono hbe.size)) (by simp) _) (by simp) _⟩
        case measure => simp [intOf]; omega
    · go_wp2_with fail
      have hd : l.drop k = [] := List.drop_eq_nil_of_le (by rw [Hn.out]; omega)
      refine bodyPost_ret (v := .tuple #[.agg #[.int .i64 p, .int .i64 q], .bool true]) (by simp [results, Try.results21, go_sem, d0, d1]) rfl ⟨?_, ?_⟩
      · rw [He.out, hd]; rfl
      · exact Below.setCell (Below.setCell hbe (by simp) _) (by simp) _

end Go.Proofs.Ytlmgmojicpdbeaa.Ex
