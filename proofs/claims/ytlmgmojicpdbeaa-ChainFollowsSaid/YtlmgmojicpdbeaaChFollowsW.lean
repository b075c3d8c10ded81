/- The walk of ChainFollows: it returns true and writes nothing that was there. -/
import Derived.Test.YtlmgmojicpdbeaaCh12
import Derived.Test.YtlmgmojicpdbeaaPlain
namespace Go.Proofs.Ytlmgmojicpdbeaa.chainFollows
open Go.RowKit Base Crc Ch Plain Go.Maps
set_option linter.unusedVariables false

theorem enters : ∀ (args : Array Value) (w : World), (callFunc 48 args).run Try.prog w = .ok (.enter 48 args) w := by
  intro args w
  simp [callFunc, Try.func48, Try.f48, mark]
theorem fit_wf {a : Int} (h : (Lit.int .i64 a).wf = true) : fitI a := by
  have := bounds_i64 h
  exact ⟨by omega, by omega⟩

set_option maxHeartbeats 2000000 in
set_option maxRecDepth 100000 in
theorem walk (a0 a1 : Int) (A2 : Option Addr) (l2 : List ByteArray) (c2 : Nat) (w : World) (w0 : (Lit.int .i64 a0).wf = true) (w1 : (Lit.int .i64 a1).wf = true) (g2 : l2.length ≤ c2) (m2 : c2 ≤ maxLen) (r2 : Row w w.heap.size A2 (l2.map .string)) (w2 : ∀ s ∈ l2, s.size ≤ maxLen) :
    Calls Try.prog 12 #[.int .i64 a0, .int .i64 a1, .slice A2 l2.length c2] w fun e w' => e = .returned (.bool true) ∧ Below w.heap.size w w' := by
  have hf := Lib.hid (fit_wf w0)
  have hp := Lib.hid (fit_wf w1)
  have hbl : l2.length ≤ maxLen := by omega
  have HB := Lib.hid (fun w' hw => bytes_any A2 c2 l2 w' hbl hw)
  have Hr := Lib.hid r2
  have Hw := Lib.hid w2
  have hmf : ∀ (fn : Fn) (first cap : Array Value) (w : World), (Instr.makeFunc fn first cap).run Try.prog w = .ok (.func fn first cap) w := fun _ _ _ _ => rfl
  unfold maxLen at m2 hbl
  have hr1 := Lib.hid ((Row.below r2 ((Below.refl _ _).alloc (Nat.le_refl _) (.cells #[.slice A2 l2.length c2] 40))).more (B' := (w.alloc (.cells #[.slice A2 l2.length c2] 40)).heap.size) (by simp))
  clear w0 w1 r2 w2
  by_cases h30 : (30 : Int) < l2.length
  · clear hr1
    generalize l2.length = n at *
    go_enter Try.func12, Try.ntmps12
    go_wp2_with fail
    refine (awake_any _).mono ?_
    rintro e w1 ⟨rfl, hb⟩
    go_wp2_with fail
    go_ret
    exact ⟨rfl, ((Below.refl _ _).alloc (Nat.le_refl _) _).trans (hb.mono (by simp))⟩
  · have h30' : l2.length ≤ 30 := by omega
    have H30 := Lib.hid h30'
    clear h30'
    by_cases h5 : (5000 : Int) < ((bytesFrom 0 l2 : Nat) : Int)
    · generalize bytesFrom 0 l2 = Bt at *
      generalize l2.length = n at *
      go_enter Try.func12, Try.ntmps12
      go_wp2_with fail
      refine (HB.out _ hr1.out).mono ?_
      rintro e w' ⟨rfl, rfl⟩
      go_wp2_with fail
      refine (awake_any _).mono ?_
      rintro e w1 ⟨rfl, hb⟩
      go_wp2_with fail
      go_ret
      exact ⟨rfl, ((Below.refl _ _).alloc (Nat.le_refl _) _).trans (hb.mono (by simp))⟩
    · generalize bytesFrom 0 l2 = Bt at *
      generalize hN : l2.length = n at *
      have Hn := Lib.hid hN
      clear hN
      go_enter Try.func12, Try.ntmps12
      go_wp2_with fail
      refine (HB.out _ hr1.out).mono ?_
      rintro e w' ⟨rfl, rfl⟩
      go_wp2_with fail
      have hcat : ∀ x y : Value, (#[x, y] ++ #[.pointer (some ⟨w.heap.size + 1, 0, none⟩), .pointer (some ⟨w.heap.size + 2, 0, none⟩), .pointer (some ⟨w.heap.size, 0, none⟩)] : Array Value) = #[x, y, .pointer (some ⟨w.heap.size + 1, 0, none⟩), .pointer (some ⟨w.heap.size + 2, 0, none⟩), .pointer (some ⟨w.heap.size, 0, none⟩)] := fun _ _ => rfl
      refine (follow_any (rdTexts l2) a0 a1 48 #[.pointer (some ⟨w.heap.size + 1, 0, none⟩), .pointer (some ⟨w.heap.size + 2, 0, none⟩), .pointer (some ⟨w.heap.size, 0, none⟩)] (Reads w (w.heap.size + 1) (w.heap.size + 2) w.heap.size A2 c2 l2) _ hf.out hp.out ?h0 enters ?hI ?hyes ?hno ?hK ?hsz).mono ?_
      case h0 =>
        refine ⟨(Box.lay (by simp)).alloc _, Box.lay (by simp), ?_, ?_, (by repeat (first | exact Below.refl _ _ | assumption | refine Below.drew ?_ | (refine Below.alloc ?_ (by simp <;> omega) _) | (refine Below.setCell ?_ (by simp <;> omega) _)))⟩
        · rw [Hn.out]
          exact ((Box.lay rfl).alloc _).alloc _
        · exact Hr.out.below ((by repeat (first | exact Below.refl _ _ | assumption | refine Below.drew ?_ | (refine Below.alloc ?_ (by simp <;> omega) _) | (refine Below.setCell ?_ (by simp <;> omega) _))))
      case hI => exact fun i W W' h hb => h.keep hb (by simp) (by simp) (by simp <;> omega) (by simp <;> omega)
      case hyes =>
        intro i y W s hrd hi hy hI hW
        rw [hcat]
        exact read_yes w _ _ _ A2 c2 l2 _ (by omega) (by omega) (by omega) (by omega) (by omega) (by simp) (by simp) (by have := H30.out; have := Hn.out; omega) i y W s hrd hi hI
      case hno =>
        intro i y W hrd hi hy hI hW
        rw [hcat]
        exact read_no w _ _ _ A2 c2 l2 _ (by omega) (by omega) (by omega) (by omega) (by omega) (by simp) (by simp) (by have := H30.out; have := Hn.out; omega) i y W hrd hi hI
      case hK => exact fun i S h => Nat.le_trans (st_few hf.out i S h) (by have := H30.out; have := Hn.out; omega)
      case hsz => exact fun y i s h => Hw.out s (rdTexts_in h).2.2
      rintro e w4 ⟨A, B, c, d, o, l, x, rfl, hout, ho, hl, rA, rB, hs4, i, hI⟩
      have hRI := Lib.hid hI
      have Hout := Lib.hid hout
      have HrA := Lib.hid rA
      have HrB := Lib.hid rB
      have hs4' := Lib.hid (show w.heap.size + 3 ≤ w4.heap.size by simpa using hs4)
      obtain ⟨c40, f40⟩ := hI.text.one
      rw [Hn.out] at c40
      clear hI hout rA rB hs4
      go_wp2_with fail
      have hrf := rfollow_any a0 a1 A2 c2 l2 w4 hf.out hp.out (by have := H30.out; have := Hn.out; omega) Hw.out (hRI.out.row.more (by have := hs4'.out; omega))
      rw [Hn.out] at hrf
      refine hrf.mono ?_
      clear hrf
      rintro e w5 ⟨A', B', c', d', o', l', x', rfl, hout', ho', hl', rA', rB', _, _, hb5⟩
      rw [Hout.out] at hout'
      injection hout' with e1 e2
      injection e2 with e2 e3
      subst e1 e2 e3
      have rA5 := Lib.hid ((HrA.out.below hb5).more hb5.size)
      have rB5 := Lib.hid ((HrB.out.below hb5).more hb5.size)
      have HrA' := Lib.hid rA'
      have HrB' := Lib.hid rB'
      have Hb5 := Lib.hid hb5
      clear rA' rB' hb5 ho' hl'
      go_wp2_with fail
      refine (ints_any A A' c c' o o w5 (by unfold maxLen; omega) (by unfold maxLen; omega) rA5.out HrA'.out).mono ?_
      rintro e w6 ⟨rfl, hb6⟩
      rw [beq_self_eq_true]
      have Hb6 := Lib.hid hb6
      have rB6 := Lib.hid ((rB5.out.below hb6).more hb6.size)
      have rB6' := Lib.hid ((HrB'.out.below hb6).more hb6.size)
      clear hb6
      go_wp2_with fail
      refine (ints_any B B' d d' l l w6 (by unfold maxLen; omega) (by unfold maxLen; omega) rB6.out rB6'.out).mono ?_
      rintro e w7 ⟨rfl, hb7⟩
      rw [beq_self_eq_true]
      have hx : (x == x) = true := by simp
      obtain ⟨c70, f70⟩ := (((hRI.out.right.under Hb5.out).under Hb6.out).under hb7).one
      have hb47 := Lib.hid ((Hb5.out.trans (Hb6.out.mono Hb5.out.size)).trans (hb7.mono (Nat.le_trans Hb5.out.size Hb6.out.size)))
      clear hb7
      go_wp2_with fail
      refine (awake_any _).mono ?_
      rintro e w8 ⟨rfl, hb8⟩
      go_wp2_with fail
      go_ret
      have hsz0 := hs4'.out
      have hall := hRI.out.below.trans ((hb47.out.trans (hb8.mono hb47.out.size)).mono (by omega))
      exact ⟨by first | rfl | (simp; done), hall⟩

end Go.Proofs.Ytlmgmojicpdbeaa.chainFollows
