/- The contracts of package chain (layer 12), third part: the piece of bytes. -/
import Derived.Test.YtlmgmojicpdbeaaCh2
import Derived.RegionTactic
import Derived.Laws.BitsAllLaws
import Derived.IntWalk
namespace Go.Proofs.Ytlmgmojicpdbeaa.Ch
open Go.RowKit Base Crc
set_option linter.unusedVariables false

/-- a byte pair as a number -/
def numAt (l : List UInt8) (i : Nat) : Int := ((l[2 * i]?.getD 0).toNat : Int) * 256 + ((l[2 * i + 1]?.getD 0).toNat : Int)
/-- the numbers of pairs 1 .. k -/
def pagesTo (l : List UInt8) (k : Nat) : List Int := (List.range (k - 1)).map fun i => numAt l (i + 1)
/-- all of pairs 0 .. k-1 may be -/
def okTo (l : List UInt8) (k : Nat) : Bool := (k == 0 || decide (numAt l 0 ≤ 2047)) && (pagesTo l k).all okPage
def formOk (l : List UInt8) : Bool := decide (2 ≤ l.length) && decide (l.length % 2 = 0) && decide (l.length ≤ 246)
/-- the piece whose bytes they are -/
def take? (l : List UInt8) : Option (Int × List Int) := if formOk l && okTo l (l.length / 2) then some (numAt l 0 - 1, pagesTo l (l.length / 2)) else none

theorem numAt_lo (l : List UInt8) (i : Nat) : 0 ≤ numAt l i ∧ numAt l i < 65536 := by
  unfold numAt
  have h1 := byte_lt (l[2 * i]?.getD 0)
  have h2 := byte_lt (l[2 * i + 1]?.getD 0)
  omega
theorem pagesTo_succ (l : List UInt8) (k : Nat) (hk : 0 < k) : pagesTo l (k + 1) = pagesTo l k ++ [numAt l k] := by
  obtain ⟨j, rfl⟩ : ∃ j, k = j + 1 := ⟨k - 1, by omega⟩
  unfold pagesTo
  rw [show j + 1 + 1 - 1 = j + 1 by omega, show j + 1 - 1 = j by omega, List.range_succ, List.map_append]
  rfl
theorem pagesTo_one (l : List UInt8) : pagesTo l 1 = [] := rfl
theorem pagesTo_len (l : List UInt8) (k : Nat) : (pagesTo l k).length = k - 1 := by simp [pagesTo]

theorem info_int : (Try.prog.info? 3).map (fun i => (i.zero, i.size, i.bytes)) = some (some (.int .i64 0), 1, 8) := by kernel_rfl

/-- a text whose form is another one -/
theorem take_form (s : ByteArray) (w : World) (hs : s.size ≤ maxLen) (h : formOk s.data.toList = false) :
    Calls Try.prog 39 #[.string s] w fun e w' => e = .returned (.tuple #[.int .i64 0, .slice none 0 0, .int .i64 15]) ∧ Below w.heap.size w w' := by
  unfold maxLen at hs
  have hl : s.data.toList.length = s.size := by simp
  unfold formOk at h
  rw [hl] at h
  by_cases h1 : s.size < 2
  · have h1' : (s.size : Int) < 2 := by omega
    clear h hl
    go_enter Try.func39, Try.ntmps39
    go_wp2
    go_ret3
    exact ⟨rfl, Below.refl _ _⟩
  · by_cases h2 : s.size % 2 = 0
    · have h3 : 246 < s.size := by
        simp [h2] at h
        omega
      have h2' : (((s.size : Int) % 2) != 0) = false := by simp; omega
      have h3' : (246 : Int) < s.size := by omega
      have h1' : ¬ (s.size : Int) < 2 := by omega
      clear h hl h1 h2
      go_enter Try.func39, Try.ntmps39
      go_wp2
      go_ret3
      exact ⟨rfl, Below.refl _ _⟩
    · have h2' : (((s.size : Int) % 2) != 0) = true := by rw [bne_iff_ne]; omega
      have h1' : ¬ (s.size : Int) < 2 := by omega
      clear h hl h1 h2
      go_enter Try.func39, Try.ntmps39
      go_wp2
      go_ret3
      exact ⟨rfl, Below.refl _ _⟩

theorem index_at (s : ByteArray) (j : Nat) (h : j < s.size) (W : World) : (Instr.index 9 (.string s) (.int .i64 (j : Int))).run Try.prog W = .ok (.int .u8 (s[j].toNat : Int)) W := by
  have h1 : (j : Int) < s.size := by omega
  simp [go_sem, Try.underlying9, h]
theorem num_at (s : ByteArray) (j k : Nat) (hj : j = 2 * k) (h : j + 1 < s.size) : numAt s.data.toList k = (s[j].toNat : Int) * 256 + (s[j + 1].toNat : Int) := by
  unfold numAt
  rw [← hj]
  have e0 : s.data.toList[j]? = some s[j] := by rw [List.getElem?_eq_getElem (by simp; omega)]; rfl
  have e1 : s.data.toList[j + 1]? = some s[j + 1] := by rw [List.getElem?_eq_getElem (by simp; omega)]; rfl
  rw [e0, e1]
  rfl

theorem or_at (x y : Nat) (hx : x < 256) (hy : y < 256) : bits .or .i64 ((x : Int) * 256) (y : Int) = (x : Int) * 256 + (y : Int) := by
  have hx' : x * 256 ||| y = x * 256 + y := nat_join 8 (x * 256) y (by omega) (by omega)
  have e : ((x : Int) * 256) = ((x * 256 : Nat) : Int) := by omega
  rw [e]
  show IntKind.i64.wrap ((BitVec.ofInt 64 ((x * 256 : Nat) : Int) ||| BitVec.ofInt 64 (y : Int)).toNat : Int) = _
  have h1 : (BitVec.ofInt 64 ((x * 256 : Nat) : Int)).toNat = x * 256 := by rw [BitVec.ofInt_natCast, BitVec.toNat_ofNat]; exact Nat.mod_eq_of_lt (by omega)
  have h2 : (BitVec.ofInt 64 (y : Int)).toNat = y := by rw [BitVec.ofInt_natCast, BitVec.toNat_ofNat]; exact Nat.mod_eq_of_lt (by omega)
  rw [BitVec.toNat_or, h1, h2, hx', IntKind.wrap_i64]
  omega
theorem okTo_one (l : List UInt8) : okTo l (0 + 1) = decide (numAt l 0 ≤ 2047) := by simp [okTo, pagesTo]
theorem okTo_succ (l : List UInt8) (k : Nat) (hk : 0 < k) : okTo l (k + 1) = (okTo l k && okPage (numAt l k)) := by
  unfold okTo
  rw [pagesTo_succ l k hk, List.all_append]
  have h1 : (k + 1 == 0) = false := by simp
  have h2 : (k == 0) = false := by simp; omega
  rw [h1, h2, Bool.and_assoc]
  simp
theorem okTo_stop (l : List UInt8) (k n : Nat) (hkn : k ≤ n) (h : okTo l k = false) : okTo l n = false := by
  rcases hn : okTo l n with _ | _
  · rfl
  · exfalso
    unfold okTo at h hn
    rw [Bool.and_eq_true, List.all_eq_true] at hn
    obtain ⟨h1, h2⟩ := hn
    rw [Bool.and_eq_false_iff] at h
    rcases h with h | h
    · simp at h h1
      omega
    · rw [List.all_eq_false] at h
      obtain ⟨x, hx, hx2⟩ := h
      refine hx2 (h2 x ?_)
      unfold pagesTo at hx ⊢
      rw [List.mem_map] at hx ⊢
      obtain ⟨i, hi, rfl⟩ := hx
      exact ⟨i, by rw [List.mem_range] at hi ⊢; omega, rfl⟩

set_option maxHeartbeats 2000000 in
theorem take_loop (s : ByteArray) (w : World) (n : Nat) (hn : s.size = 2 * n) (h0 : 1 ≤ n) (h1 : n ≤ 123) (P : Ending → World → Prop)
    (hyes : okTo s.data.toList n = true → ∀ v w', w'.ownsRow (w.heap.size + 1) 3 1 v (pagesTo s.data.toList n).length (nums (pagesTo s.data.toList n)) → Below w.heap.size w w' → P (.returned (.tuple #[.int .i64 (numAt s.data.toList 0 - 1), v, .int .i64 0])) w')
    (hno : okTo s.data.toList n = false → ∀ w', Below w.heap.size w w' → P (.returned (.tuple #[.int .i64 0, .slice none 0 0, .int .i64 15])) w') :
    Calls Try.prog 39 #[.string s] w P := by
  obtain ⟨i0, ti0, tz0, tz1, tz2⟩ := info_parts info_int
  have Hyes := Lib.hid hyes
  have Hno := Lib.hid hno
  clear hyes hno
  have b1 : ¬ (s.size : Int) < 2 := by omega
  have b2 : (((s.size : Int) % 2) != 0) = false := by simp; omega
  have b3 : ¬ (246 : Int) < s.size := by omega
  have Hn := Lib.hid hn
  have hs1 : s.size ≤ 246 := by omega
  clear hn
  go_enter Try.func39, Try.ntmps39
  go_wp2
  go_loopw [6] (fun i wr => ∃ (k j : Nat) (v : Value) (x : Int), k ≤ n ∧ j = 2 * k ∧ i = .int .i64 (j : Nat) ∧ (0 < k → x = numAt s.data.toList 0 - 1) ∧ Box wr w.heap.size 89 #[.int .i64 x, v] ∧
      wr.ownsRow (w.heap.size + 1) 3 1 v (pagesTo s.data.toList k).length (nums (pagesTo s.data.toList k)) ∧ okTo s.data.toList k = true ∧ Below w.heap.size w wr) (fun i _ => 2 * n + 1 - (intOf i).toNat)
  case atStart => exact ⟨0, 0, _, 0, by omega, rfl, rfl, by omega, Box.new _ _ _, World.ownsRow_nil _ _ _ _, rfl, (by repeat (first | exact Below.refl _ _ | assumption | refine Below.drew ?_ | (refine Below.alloc ?_ (by simp <;> omega) _) | (refine Below.setCell ?_ (by simp <;> omega) _)))⟩
  case round =>
    obtain ⟨k, j, v, x, hk, hj, rfl, hx, hbx, hown, hok, hbe⟩ := hrel
    have Hj := Lib.hid hj
    clear hj
    obtain ⟨c0, c1, f0, f1⟩ := hbx.two
    have Hx := Lib.hid hx
    have Hok := Lib.hid hok
    clear hx hok
    by_cases hkn : k < n
    · have hi0 : j < s.size := by rw [Hn.out, Hj.out]; omega
      have hi1 : j + 1 < s.size := by rw [Hn.out, Hj.out]; omega
      have hI0 := fun W => index_at s j hi0 W
      have hI1 := fun W => index_at s (j + 1) hi1 W
      rw [show ((j + 1 : Nat) : Int) = (j : Int) + 1 by omega] at hI1
      have hl0 := byte_lt s[j]
      have hl1 := byte_lt s[j + 1]
      have hw1 : IntKind.i64.wrap ((j : Int) + 1) = (j : Int) + 1 := IntWalk.i64_in _ (by omega)
      have hnum : numAt s.data.toList k = (s[j].toNat : Int) * 256 + (s[j + 1].toNat : Int) := num_at s j k Hj.out hi1
      have Hnum := Lib.hid hnum
      clear hnum
      have hor := or_at s[j].toNat s[j + 1].toNat hl0 hl1
      rw [← Hnum.out] at hor
      have hzb := numAt_lo s.data.toList k
      have hst1 := okTo_one s.data.toList
      have hst2 := okTo_succ s.data.toList k
      have hpg := pagesTo_succ s.data.toList k
      have hple := pagesTo_len s.data.toList k
      have hpl : (pagesTo s.data.toList k).length ≤ 200 := by omega
      have Hst1 := Lib.hid hst1
      have Hst2 := Lib.hid hst2
      have Hpg := Lib.hid hpg
      clear hst1 hst2 hpg hple Hnum
      by_cases hk0 : k = 0
      · subst hk0
        have hj0 : ((j : Int) == 0) = true := by have := Hj.out; simp; omega
        have hj1 : ¬ (0 : Int) < j := by have := Hj.out; omega
        generalize hz : numAt s.data.toList 0 = z at *
        have Hz := Lib.hid hz
        clear hz
        generalize s[j].toNat = x0 at *
        generalize s[j + 1].toNat = x1 at *
        by_cases hz2 : z ≤ 2047
        · go_wp2
          go_quiet (fail)
          go_wp2_with fail
          refine ⟨⟨1, j + 2, v, z - 1, by omega, by have := Hj.out; omega, by go_num, fun _ => rfl, hbx.set 0 _, ?_, ?_, ?_⟩, by simp [intOf]; omega⟩
          · exact ownsRow_setCell_below (w := wr) hown (by simp) _
          · show okTo s.data.toList (0 + 1) = true
            rw [Hst1.out]
            simpa using hz2
          · exact (below_drewN hbe _).setCell (by simp) _
        · go_wp2
          go_quiet (fail)
          go_wp2_with fail
          go_ret3
          refine Hno.out ?_ _ (below_drewN hbe _)
          refine okTo_stop _ (0 + 1) n (by omega) ?_
          rw [Hst1.out]
          simpa using hz2
      · have hj0 : ((j : Int) == 0) = false := by have := Hj.out; simp; omega
        have hj1 : (0 : Int) < j := by have := Hj.out; omega
        generalize hz : numAt s.data.toList k = z at *
        have Hz := Lib.hid hz
        clear hz
        generalize s[j].toNat = x0 at *
        generalize s[j + 1].toNat = x1 at *
        rcases hokz : okPage z with _ | _
        · have Hokz := Lib.hid hokz
          clear hokz
          go_wp2
          go_quiet (fail)
          go_wp2_with fail
          refine (may_no z _ Hokz.out).mono ?_
          rintro e w' ⟨rfl, rfl⟩
          go_wp2_with fail
          go_ret3
          refine Hno.out ?_ _ (below_drewN hbe _)
          refine okTo_stop _ (k + 1) n (by omega) ?_
          rw [Hst2.out (by omega), Hokz.out, Bool.and_false]
        · have Hokz := Lib.hid hokz
          clear hokz
          go_wp2
          go_quiet (fail)
          go_wp2_with fail
          refine (may_yes z _ Hokz.out).mono ?_
          rintro e w' ⟨rfl, rfl⟩
          go_wp2_with (at_builtin; refine wpList_append1 rfl (.tmp 58) (.tmp 60) 50 rfl (w.heap.size + 1) 3 i0 (.int .i64 0) 8 Try.underlying50 ti0 tz0 tz1 tz2 rfl (wr.drewN nq) (.int .i64 z) rfl v _ _ rfl (show (wr.drewN nq).ownsRow (w.heap.size + 1) 3 1 v (pagesTo s.data.toList k).length (nums (pagesTo s.data.toList k)) from hown) rfl ?c1 (by decide) ?c2 ?_)
          case c1 => omega
          case c2 => have := hbx.lt; exact this
          intro v' w1 hown1 happ
          have hbx1 := happ.box (show Box (wr.drewN nq) _ _ _ from hbx) (show (wr.drewN nq).ownsRow (w.heap.size + 1) 3 1 v (pagesTo s.data.toList k).length (nums (pagesTo s.data.toList k)) from hown) (by omega)
          have hbe1 := happ.below (below_drewN hbe nq) (show (wr.drewN nq).ownsRow (w.heap.size + 1) 3 1 v (pagesTo s.data.toList k).length (nums (pagesTo s.data.toList k)) from hown) (by omega) hbe.size
          obtain ⟨A', c', ev⟩ := own_form hown1
          clear c0 c1 f0 f1 hbx hbe happ
          subst ev
          obtain ⟨c0, c1, f0, f1⟩ := hbx1.two
          go_wp2_with fail
          refine ⟨⟨k + 1, j + 2, _, x, by omega, by have := Hj.out; omega, by go_num, fun _ => Hx.out (by omega), hbx1.set 1 _, ?_, ?_, ?_⟩, by have := Hj.out; simp [intOf]; omega⟩
          · rw [Hpg.out (by omega)]
            have := ownsRow_setCell_below hown1 (a := ⟨w.heap.size, 1, none⟩) (by simp) (.slice A' ((pagesTo s.data.toList k).length + 1) c')
            simpa using this
          · rw [Hst2.out (by omega), Hok.out, Hokz.out]; rfl
          · exact hbe1.setCell (by simp) _
    · have hkk : k = n := by omega
      have hjn : ¬ (j : Int) < s.size := by rw [Hn.out, Hj.out]; omega
      subst hkk
      obtain ⟨A', c', ev⟩ := own_form hown
      subst ev
      have hxx := Hx.out (by omega)
      have Hxx := Lib.hid hxx
      clear hxx
      go_wp2
      go_quiet (fail)
      go_wp2_with fail
      go_ret3
      rw [Hxx.out]
      exact Hyes.out Hok.out _ _ hown (below_drewN hbe _)

end Go.Proofs.Ytlmgmojicpdbeaa.Ch
