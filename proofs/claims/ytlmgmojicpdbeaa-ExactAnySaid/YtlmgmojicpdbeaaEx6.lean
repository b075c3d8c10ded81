/- Layer 3: the reference's total of values. -/
import Derived.Test.YtlmgmojicpdbeaaEx4
import Derived.Test.YtlmgmojicpdbeaaOwn
namespace Go.Proofs.Ytlmgmojicpdbeaa.Ex
open Go.RowKit Base
set_option linter.unusedVariables false

def ups (l : List Int) : List Int := l.filter (fun x => !decide (x < 0))
def downs (l : List Int) : List Int := l.filter (fun x => decide (x < 0))

theorem ups_snoc (l : List Int) (x : Int) : ups (l ++ [x]) = if x < 0 then ups l else ups l ++ [x] := by
  unfold ups
  rw [List.filter_append]
  by_cases h : x < 0 <;> simp [h]
theorem downs_snoc (l : List Int) (x : Int) : downs (l ++ [x]) = if x < 0 then downs l ++ [x] else downs l := by
  unfold downs
  rw [List.filter_append]
  by_cases h : x < 0 <;> simp [h]
theorem take_snoc {l : List Int} {k : Nat} (hk : k < l.length) : l.take (k + 1) = l.take k ++ [l[k]] := by
  rw [List.take_succ_eq_append_getElem hk]
theorem ups_le (l : List Int) : (ups l).length ≤ l.length := List.length_filter_le _ _
theorem downs_le (l : List Int) : (downs l).length ≤ l.length := List.length_filter_le _ _

theorem of_sums (p n : Int) (l : List Int) : ofFrom p n l = match sumFrom p (ups l), sumFrom n (downs l) with | some a, some b => some (a, b) | _, _ => none := by
  induction l generalizing p n with
  | nil => rfl
  | cons x l ih =>
    by_cases h : x < 0
    · have e1 : ups (x :: l) = ups l := by simp [ups, h]
      have e2 : downs (x :: l) = x :: downs l := by simp [downs, h]
      rw [e1, e2]
      simp only [ofFrom, grow, h, if_true, sumFrom]
      by_cases hf : fit (n + x)
      · simp only [hf, if_true]; exact ih p (n + x)
      · simp only [hf, if_false]
        split <;> simp_all
    · have e1 : ups (x :: l) = x :: ups l := by simp [ups, h]
      have e2 : downs (x :: l) = downs l := by simp [downs, h]
      rw [e1, e2]
      simp only [ofFrom, grow, h, if_false, sumFrom]
      by_cases hf : fit (p + x)
      · simp only [hf, if_true]; exact ih (p + x) n
      · simp only [hf, if_false]

theorem info_int64 : (Try.prog.info? 2).map (fun i => (i.zero, i.size, i.bytes)) = some (some (.int .i64 0), 1, 8) := by kernel_rfl

set_option maxHeartbeats 800000 in
theorem rof_any (A : Option Addr) (c : Nat) (l : List Int) (w : World) (hl : l.length ≤ 1000) (hf : fitAll l) (hr : Row w w.heap.size A (ints l)) :
    Calls Try.prog 22 #[.slice A l.length c] w fun e w' => e = .returned (.tuple #[.agg #[.int .i64 ((ofFrom 0 0 l).getD (0, 0)).1, .int .i64 ((ofFrom 0 0 l).getD (0, 0)).2], .bool (ofFrom 0 0 l).isSome]) ∧ Below w.heap.size w w' := by
  obtain ⟨i0, hi0, hz0, hz1, hz2⟩ := info_parts info_int64
  have Hf := Lib.hid hf
  have Hr := Lib.hid hr
  clear hf hr
  generalize hn : l.length = n at *
  have Hn := Lib.hid hn
  clear hn
  go_enter Try.func22, Try.ntmps22
  go_wp2
  go_loopw [4, 5, 6] (fun u d i wr => ∃ (k : Nat), k ≤ n ∧ i = .int .i64 k ∧ wr.ownsRow (w.heap.size + 1) 2 1 u (ups (l.take k)).length (ints (ups (l.take k))) ∧
      wr.ownsRow (w.heap.size + 1) 2 1 d (downs (l.take k)).length (ints (downs (l.take k))) ∧ Apart u d ∧
      Box wr w.heap.size 30 #[.int .i64 0, .int .i64 0] ∧ Below w.heap.size w wr) (fun _ _ i _ => n - (intOf i).toNat)
  case atStart => exact ⟨0, Nat.zero_le _, rfl, World.ownsRow_nil _ _ _ _, World.ownsRow_nil _ _ _ _, .inl rfl, Box.new _ _ _, (by repeat (first | exact Below.refl _ _ | assumption | refine Below.drew ?_ | (refine Below.alloc ?_ (by simp <;> omega) _) | (refine Below.setCell ?_ (by simp <;> omega) _)))⟩
  case round =>
    obtain ⟨k, hk, rfl, ho1, ho2, hap, hb0, hbe⟩ := hrel
    by_cases hlt : k < n
    · have hkl : k < l.length := by rw [Hn.out]; exact hlt
      obtain ⟨b, off, rfl, hb, hc⟩ := (Hr.out.below hbe).at_ (k := k) (by simpa using hkl)
      rw [List.getElem_map] at hc
      have hsn := take_snoc hkl
      have hu := ups_snoc (l.take k) (l[k]'hkl)
      have hd := downs_snoc (l.take k) (l[k]'hkl)
      rw [← hsn] at hu hd
      clear hsn
      have hul := ups_le (l.take k)
      have hdl := downs_le (l.take k)
      have htl : (l.take k).length ≤ k := List.length_take_le _ _
      have hul' : (ups (l.take k)).length ≤ 1000 := by omega
      have hdl' : (downs (l.take k)).length ≤ 1000 := by omega
      clear hul hdl htl
      have hcn := fun o => (World.cell?_alloc_lt wr o ⟨b, off + k, none⟩ (Nat.lt_of_lt_of_le hb hbe.size)).trans hc
      generalize l[k]'hkl = z at *
      generalize hU : ups (l.take k) = U at *
      generalize hD : downs (l.take k) = D at *
      clear hU hD
      by_cases hz : z < 0
      · rw [if_pos hz] at hu hd
        have Hu := Lib.hid hu
        have Hd := Lib.hid hd
        clear hu hd hcn
        go_wp2_with (at_builtin; refine wpList_append1 rfl (.tmp 22) (.tmp 27) 26 rfl (w.heap.size + 1) 2 i0 (.int .i64 0) 8 Try.underlying26 hi0 hz0 hz1 hz2 rfl wr (.int .i64 z) rfl _ _ _ rfl ho2 rfl ?c1 (by decide) ?c2 ?_)
        case c1 => omega
        case c2 => have := hb0.lt; omega
        intro v' w1 hown1 happ
        have hw1 : Hid (w1.ownsRow (w.heap.size + 1) 2 1 u4 U.length (ints U) ∧ Apart u4 v' ∧ Box w1 w.heap.size 30 #[.int .i64 0, .int .i64 0] ∧ Below w.heap.size w w1) :=
          ⟨happ.other ho1 hap, happ.apart ho1 hap, happ.box hb0 ho2 (by omega), happ.below hbe ho2 (by omega) hbe.size⟩
        clear hc hb0 hbe ho1 ho2 hap happ
        go_wp2
        go_roundw
        case rel =>
          obtain ⟨q1, q2, q3, q4⟩ := hw1.out
          exact ⟨k + 1, by omega, by go_num, by rw [Hu.out]; exact q1, by rw [Hd.out]; simpa using hown1, q2, q3, q4⟩
        case measure => simp [intOf]; omega
      · rw [if_neg hz] at hu hd
        have Hu := Lib.hid hu
        have Hd := Lib.hid hd
        clear hu hd hcn
        go_wp2_with (at_builtin; refine wpList_append1 rfl (.tmp 29) (.tmp 34) 26 rfl (w.heap.size + 1) 2 i0 (.int .i64 0) 8 Try.underlying26 hi0 hz0 hz1 hz2 rfl wr (.int .i64 z) rfl _ _ _ rfl ho1 rfl ?c1 (by decide) ?c2 ?_)
        case c1 => omega
        case c2 => have := hb0.lt; omega
        intro v' w1 hown1 happ
        have hw1 : Hid (w1.ownsRow (w.heap.size + 1) 2 1 u5 D.length (ints D) ∧ Apart v' u5 ∧ Box w1 w.heap.size 30 #[.int .i64 0, .int .i64 0] ∧ Below w.heap.size w w1) :=
          ⟨happ.other ho2 hap.symm, (happ.apart ho2 hap.symm).symm, happ.box hb0 ho1 (by omega), happ.below hbe ho1 (by omega) hbe.size⟩
        clear hc hb0 hbe ho1 ho2 hap happ
        go_wp2
        go_roundw
        case rel =>
          obtain ⟨q1, q2, q3, q4⟩ := hw1.out
          exact ⟨k + 1, by omega, by go_num, by rw [Hu.out]; simpa using hown1, by rw [Hd.out]; exact q1, q2, q3, q4⟩
        case measure => simp [intOf]; omega
    · have hkn : l.take k = l := List.take_of_length_le (by rw [Hn.out]; omega)
      rw [hkn] at ho1 ho2
      clear hkn
      have hul := ups_le l
      have hdl := downs_le l
      have hul' : (ups l).length ≤ 140737488355328 := by have := Hn.out; omega
      have hdl' : (downs l).length ≤ 140737488355328 := by have := Hn.out; omega
      clear hul hdl
      have fu : fitAll (ups l) := fun x hx => Hf.out x (List.mem_filter.1 hx).1
      have fd : fitAll (downs l) := fun x hx => Hf.out x (List.mem_filter.1 hx).1
      have Hs := Lib.hid (of_sums 0 0 l)
      have Hfu := Lib.hid fu
      have Hfd := Lib.hid fd
      clear fu fd
      obtain ⟨A1, c1, e1⟩ := own_form ho1
      obtain ⟨A2, c2, e2⟩ := own_form ho2
      subst e1 e2
      have Hr1 := Lib.hid (own_row ho1)
      have Hr2 := Lib.hid (own_row ho2)
      clear ho1 ho2 hap
      generalize ups l = U at *
      generalize downs l = D at *
      obtain ⟨d0, d1, g0, g1⟩ := hb0.two
      go_wp2_with fail
      refine (rsum_any A1 c1 U _ hul' Hfu.out Hr1.out).mono ?_
      rintro e w1 ⟨rfl, rfl⟩
      go_wp2_with fail
      refine (rsum_any A2 c2 D _ hdl' Hfd.out Hr2.out).mono ?_
      rintro e w1 ⟨rfl, rfl⟩
      rcases hs1 : sumFrom 0 U with _ | s1
      · rw [hs1] at Hs
        simp only [Option.getD_none, Option.isSome_none]
        have Hs' := Hs.out
        clear hs1 Hs
        simp only at Hs'
        have Hs := Lib.hid Hs'
        clear Hs'
        go_wp2_with fail
        refine bodyPost_ret (v := .tuple #[.agg #[.int .i64 0, .int .i64 0], .bool false]) (by simp [results, Try.results22, go_sem, d0, d1]) rfl ⟨?_, ?_⟩
        · rw [Hs.out]; rfl
        · exact Below.setCell (Below.setCell hbe (by simp) _) (by simp) _
      · rcases hs2 : sumFrom 0 D with _ | s2
        · rw [hs1, hs2] at Hs
          simp only [Option.getD_none, Option.isSome_none, Option.getD_some, Option.isSome_some]
          have Hs' := Hs.out
          clear hs1 hs2 Hs
          simp only at Hs'
          have Hs := Lib.hid Hs'
          clear Hs'
          go_wp2_with fail
          refine bodyPost_ret (v := .tuple #[.agg #[.int .i64 0, .int .i64 0], .bool false]) (by simp [results, Try.results22, go_sem, d0, d1]) rfl ⟨?_, ?_⟩
          · rw [Hs.out]; rfl
          · exact Below.setCell (Below.setCell hbe (by simp) _) (by simp) _
        · rw [hs1, hs2] at Hs
          simp only [Option.getD_some, Option.isSome_some]
          have Hs' := Hs.out
          clear hs1 hs2 Hs
          simp only at Hs'
          have Hs := Lib.hid Hs'
          clear Hs'
          go_wp2_with fail
          refine bodyPost_ret (v := .tuple #[.agg #[.int .i64 s1, .int .i64 s2], .bool true]) (by simp [results, Try.results22, go_sem, d0, d1]) rfl ⟨?_, ?_⟩
          · rw [Hs.out]; rfl
          · exact Below.setCell (Below.setCell hbe (by simp) _) (by simp) _

end Go.Proofs.Ytlmgmojicpdbeaa.Ex
