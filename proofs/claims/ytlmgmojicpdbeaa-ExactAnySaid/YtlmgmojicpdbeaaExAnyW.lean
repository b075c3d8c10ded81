/- The walk of ExactAny: it returns true and writes nothing that was there. -/
import Derived.Test.YtlmgmojicpdbeaaExAnyP
import Derived.Test.YtlmgmojicpdbeaaEx5
import Derived.Test.YtlmgmojicpdbeaaOpen
namespace Go.Proofs.Ytlmgmojicpdbeaa.exactAny
open Go.ChangeShapes Go.WideShapes Go.ChangeAt Go.RowKit Base Ex
set_option linter.unusedVariables false

theorem fit_of {l : List Int} (h : ∀ n ∈ l, (Lit.int .i64 n).wf = true) : fitAll l := fun n hn => by
  have := bounds_i64 (h n hn)
  unfold fit; omega
theorem take_rev {s : List Int} {k : Nat} (hk : k < s.length) : s.reverse.take (k + 1) = s.reverse.take k ++ [s[s.length - 1 - k]'(by omega)] := by
  rw [List.take_succ_eq_append_getElem (by simpa using hk)]
  congr 2
  rw [List.getElem_reverse]

theorem getD_lt {l : List Bool} {k : Nat} (h : k < l.length) : l.getD k false = l[k] := by simp [h]
theorem getD_ge {l : List Bool} {k : Nat} (h : l.length ≤ k) : l.getD k false = false := by simp [h]

set_option maxHeartbeats 1000000 in
theorem walk (A0 : Option Addr) (l0 : List Int) (c0 : Nat) (A1 : Option Addr) (l1 : List Bool) (c1 : Nat) (w : World) (g0 : l0.length ≤ c0) (m0 : c0 ≤ maxLen) (r0 : Row w w.heap.size A0 (ints l0)) (w0 : ∀ n ∈ l0, (Lit.int .i64 n).wf = true)
    (g1 : l1.length ≤ c1) (m1 : c1 ≤ maxLen) (r1 : Row w w.heap.size A1 (l1.map .bool)) :
    Calls Try.prog 7 #[.slice A0 l0.length c0, .slice A1 l1.length c1] w fun e w' => e = .returned (.bool true) ∧ Below w.heap.size w w' := by
  obtain ⟨i0, hi0, hz0, hz1, hz2⟩ := info_parts info_int64
  have Hf := Lib.hid (fit_of w0)
  have Hr := Lib.hid r0
  have Hs := Lib.hid r1
  unfold maxLen at m0 m1
  clear w0 r0 r1
  by_cases hl : 1000 < l0.length
  · go_enter Try.func7, Try.ntmps7
    go_wp2_with fail
    refine (awake_any _).mono ?_
    rintro e w' ⟨rfl, hb⟩
    go_wp2_with fail
    go_ret
    exact ⟨rfl, hb⟩
  · have hl1 : l0.length ≤ 140737488355328 := by omega
    generalize hn : l0.length = n at *
    have Hn := Lib.hid hn
    have hof := fun w => of_any A0 c0 l0 w (by omega) Hf.out
    clear hn
    generalize hm : l1.length = m at *
    have Hm := Lib.hid hm
    clear hm
    rcases ho : ofFrom 0 0 l0 with _ | ⟨P, N⟩
    · rw [ho] at hof
      have Ho := Lib.hid hof
      clear hof ho
      go_enter Try.func7, Try.ntmps7
      go_wp2_with fail
      rw [← Hn.out]
      refine (Ho.out _ Hr.out).mono ?_
      rintro e w1 ⟨rfl, hb1⟩
      go_wp2_with fail
      refine (awake_any _).mono ?_
      rintro e w2 ⟨rfl, hb2⟩
      go_wp2_with fail
      go_ret
      exact ⟨rfl, (hb1.alloc hb1.size _).trans (hb2.mono (by have := hb1.size; simp; omega))⟩
    · rw [ho] at hof
      have Ho := Lib.hid hof
      have Hlaw := Lib.hid (any_law l0 l1 P N ho)
      clear hof ho
      go_enter Try.func7, Try.ntmps7
      go_wp2_with fail
      rw [← Hn.out]
      refine (Ho.out _ Hr.out).mono ?_
      rw [Hn.out]
      rintro e w1 ⟨rfl, hb1⟩
      go_wp2_with fail
      have hs1 := hb1.size
      go_loopw [7, 29] (fun u i wr => ∃ (k : Nat), k ≤ n ∧ i = .int .i64 k ∧ wr.ownsRow (w1.heap.size + 1) 2 1 u (pick (l0.take k) l1).length (ints (pick (l0.take k) l1)) ∧
        Box wr w1.heap.size 30 #[.int .i64 P, .int .i64 N] ∧ Below w.heap.size w wr) (fun _ i _ => n - (intOf i).toNat)
      case atStart => exact ⟨0, Nat.zero_le _, rfl, World.ownsRow_nil _ _ _ _, Box.new _ _ _, hb1.alloc hb1.size _⟩
      case round =>
        obtain ⟨k, hk, rfl, ho1, hb0, hbe⟩ := hrel
        by_cases hlt : k < n
        · have hkl : k < l0.length := by rw [Hn.out]; exact hlt
          obtain ⟨b, off, rfl, hb, hc⟩ := (Hr.out.below hbe).at_ (k := k) (by simpa using hkl)
          rw [List.getElem_map] at hc
          have hsn := pick_snoc (l0.take k) l1 (l0[k]'hkl)
          rw [← take_snoc hkl, List.length_take, Nat.min_eq_left (by omega)] at hsn
          have hpl := pick_le (l0.take k) l1
          have htl : (l0.take k).length ≤ k := List.length_take_le _ _
          have hpl' : (pick (l0.take k) l1).length ≤ 1000 := by omega
          clear hpl htl
          generalize l0[k]'hkl = z at *
          generalize hU : pick (l0.take k) l1 = U at *
          clear hU
          by_cases hkm : k < m
          · have hkm' : k < l1.length := by rw [Hm.out]; exact hkm
            obtain ⟨b', off', rfl, hb', hc'⟩ := (Hs.out.below hbe).at_ (k := k) (by simpa using hkm')
            rw [List.getElem_map] at hc'
            rw [getD_lt hkm'] at hsn
            generalize l1[k]'hkm' = y at *
            rcases y with _ | _
            · simp only [Bool.false_eq_true, if_false] at hsn
              have Hsn := Lib.hid hsn
              clear hsn
              go_wp2
              go_roundw
              case rel => exact ⟨k + 1, by omega, by go_num, by rw [Hsn.out]; exact ho1, hb0, hbe⟩
              case measure => simp [intOf]; omega
            · simp only [if_true] at hsn
              have Hsn := Lib.hid hsn
              clear hsn
              go_wp2_with (at_builtin; refine wpList_append1 rfl (.tmp 42) (.tmp 47) 26 rfl (w1.heap.size + 1) 2 i0 (.int .i64 0) 8 Try.underlying26 hi0 hz0 hz1 hz2 rfl wr (.int .i64 z) rfl _ _ _ rfl ho1 rfl ?c1 (by decide) ?c2 ?_)
              case c1 => omega
              case c2 => have := hb0.lt; omega
              intro v' w2 hown1 happ
              have hw2 : Hid (Box w2 w1.heap.size 30 #[.int .i64 P, .int .i64 N] ∧ Below w.heap.size w w2) := ⟨happ.box hb0 ho1 (by omega), happ.below hbe ho1 (by omega) hbe.size⟩
              clear hc hc' hb0 hbe ho1 happ
              go_wp2
              go_roundw
              case rel => exact ⟨k + 1, by omega, by go_num, by rw [Hsn.out]; simpa using hown1, hw2.out.1, hw2.out.2⟩
              case measure => simp [intOf]; omega
          · rw [getD_ge (by rw [Hm.out]; omega)] at hsn
            simp only [Bool.false_eq_true, if_false] at hsn
            have Hsn := Lib.hid hsn
            clear hsn
            go_wp2
            go_roundw
            case rel => exact ⟨k + 1, by omega, by go_num, by rw [Hsn.out]; exact ho1, hb0, hbe⟩
            case measure => simp [intOf]; omega
        · have hkn : l0.take k = l0 := List.take_of_length_le (by rw [Hn.out]; omega)
          rw [hkn] at ho1
          have hpl := pick_le l0 l1
          rw [Hn.out] at hpl
          have fu : fitAll (pick l0 l1) := fun x hx => Hf.out x (pick_mem l0 l1 x hx)
          have Hfu := Lib.hid fu
          clear hkn fu
          have fr : fitAll (pick l0 l1).reverse := fun x hx => Hfu.out x (List.mem_reverse.1 hx)
          have Hfr := Lib.hid fr
          clear fr
          generalize pick l0 l1 = U at *
          have hpl' : U.length ≤ 1000 := by omega
          clear hpl
          generalize hNU : U.length = nu at *
          have HU := Lib.hid hNU
          clear hNU
          obtain ⟨A2, c2, e2⟩ := own_form ho1
          subst e2
          go_wp2_with fail
          go_loopw [8, 52] (fun u i wr => ∃ (k : Nat), k ≤ nu ∧ i = .int .i64 k ∧ wr.ownsRow (w1.heap.size + 1) 2 1 u (U.reverse.take k).length (ints (U.reverse.take k)) ∧
            wr.ownsRow (w1.heap.size + 1) 2 1 (.slice A2 nu c2) nu (ints U) ∧ Apart u (.slice A2 nu c2) ∧
            Box wr w1.heap.size 30 #[.int .i64 P, .int .i64 N] ∧ Below w.heap.size w wr) (fun _ i _ => nu - (intOf i).toNat)
          case atStart => exact ⟨0, Nat.zero_le _, rfl, World.ownsRow_nil _ _ _ _, ho1, .inl rfl, hb0, hbe⟩
          case round =>
            clear ho1 hb0 hbe hk hlt
            obtain ⟨k, hk, rfl, ho2, ho1, hap, hb0, hbe⟩ := hrel
            by_cases hlt : k < nu
            · have hkl : k < U.length := by rw [HU.out]; exact hlt
              have hx := take_rev hkl
              obtain ⟨b, off, rfl, hb, hc⟩ := (own_row ho1).at_ (k := nu - 1 - k) (by simp [HU.out]; omega)
              rw [List.getElem_map] at hc
              simp only [HU.out] at hx
              have hle : (U.reverse.take k).length ≤ 1000 := by simp [HU.out]; omega
              generalize hz : U[nu - 1 - k]'(by rw [HU.out]; omega) = z at *
              have hi0' : (0 : Int) ≤ (nu : Int) - 1 - k := by omega
              have hi1' : (nu : Int) - 1 - k < nu := by omega
              have Hx := Lib.hid hx
              clear hx hz
              generalize hV : U.reverse.take k = V at *
              clear hV
              go_wp2_with (at_builtin; refine wpList_append1 rfl (.tmp 55) (.tmp 64) 26 rfl (w1.heap.size + 1) 2 i0 (.int .i64 0) 8 Try.underlying26 hi0 hz0 hz1 hz2 rfl wr (.int .i64 z) rfl _ _ _ rfl ho2 rfl ?c1 (by decide) ?c2 ?_)
              case c1 => omega
              case c2 => have := hb0.lt; omega
              intro v' w2 hown1 happ
              have hw2 : Hid (w2.ownsRow (w1.heap.size + 1) 2 1 (.slice (some ⟨b, off, none⟩) nu c2) nu (ints U) ∧ Apart v' (.slice (some ⟨b, off, none⟩) nu c2) ∧ Box w2 w1.heap.size 30 #[.int .i64 P, .int .i64 N] ∧ Below w.heap.size w w2) :=
                ⟨happ.other ho1 hap.symm, (happ.apart ho1 hap.symm).symm, happ.box hb0 ho2 (by omega), happ.below hbe ho2 (by omega) hbe.size⟩
              clear hc hb0 hbe ho1 ho2 hap happ
              go_wp2
              go_roundw
              case rel => exact ⟨k + 1, by omega, by go_num, by rw [Hx.out]; simpa using hown1, hw2.out.1, hw2.out.2.1, hw2.out.2.2.1, hw2.out.2.2.2⟩
              case measure => simp [intOf]; omega
            · have hkn : U.reverse.take k = U.reverse := List.take_of_length_le (by simp [HU.out]; omega)
              have hrl : U.reverse.length = nu := by rw [List.length_reverse]; exact HU.out
              rw [hkn, hrl] at ho2
              clear hkn
              obtain ⟨A3, c3, e3⟩ := own_form ho2
              subst e3
              have Hr1 := Lib.hid (own_row ho1)
              have Hr2 := Lib.hid (own_row ho2)
              clear ho1 ho2 hap
              obtain ⟨d0, d1, q0, q1⟩ := hb0.two
              obtain ⟨x, hx1, hx2, hx3, hx4, hx5, hx6⟩ := Hlaw.out
              have hU1 : U.length ≤ 140737488355328 := by rw [HU.out]; omega
              have hU2 : U.reverse.length ≤ 140737488355328 := by rw [List.length_reverse]; omega
              have s1 := fun w => sum_any A2 c2 U w hU1 Hfu.out
              have s2 := fun w => sum_any A3 c3 U.reverse w hU2 Hfr.out
              rw [hx1] at s1
              rw [hx2] at s2
              rw [HU.out] at s1
              rw [hrl] at s2
              have S1 := Lib.hid s1
              have S2 := Lib.hid s2
              clear s1 s2 hx1 hx2 Hlaw hrl hU1 hU2
              have hx3' : decide (N ≤ x) = true := by simpa using hx3
              have hx4' : decide (x ≤ P) = true := by simpa using hx4
              have hx5' : decide (0 ≤ P) = true := by simpa using hx5
              have hx6' : decide (N ≤ 0) = true := by simpa using hx6
              have hH := fun w => holds_any P N x w
              have hM := fun w => may_any P N w
              rw [hx3', hx4'] at hH
              rw [hx5', hx6'] at hM
              simp only [Bool.and_self] at hH hM
              have HH := Lib.hid hH
              have HM := Lib.hid hM
              clear hH hM hx3 hx4 hx5 hx6 hx3' hx4' hx5' hx6'
              go_wp2_with fail
              refine (S1.out _ Hr1.out).mono ?_
              rintro e w2 ⟨rfl, rfl⟩
              go_wp2_with fail
              refine (S2.out _ Hr2.out).mono ?_
              rintro e w2 ⟨rfl, rfl⟩
              go_wp2_with fail
              refine (HH.out _).mono ?_
              rintro e w2 ⟨rfl, hb2⟩
              have hbx := hb0.under hb2
              clear d0 d1 q0 q1
              obtain ⟨d0, d1, q0, q1⟩ := hbx.two
              go_wp2_with fail
              refine (HM.out _).mono ?_
              rintro e w3 ⟨rfl, hb3⟩
              go_wp2_with fail
              refine (awake_any _).mono ?_
              rintro e w4 ⟨rfl, hb4⟩
              go_wp2_with fail
              go_ret
              have k1 := hbe.trans (hb2.mono hbe.size)
              have k2 := k1.trans (hb3.mono k1.size)
              exact ⟨rfl, k2.trans (hb4.mono k2.size)⟩

end Go.Proofs.Ytlmgmojicpdbeaa.exactAny
