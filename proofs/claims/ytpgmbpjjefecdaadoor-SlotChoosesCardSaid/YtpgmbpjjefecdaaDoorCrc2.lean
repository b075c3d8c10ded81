/- The contracts of package crc (layer 2), second part: the sum goes on over bytes. -/
import Derived.Test.YtpgmbpjjefecdaaDoorCrc1
import Derived.Laws.Tables
namespace Go.Proofs.YtpgmbpjjefecdaaDoor.Crc
open Go.RowKit Base
set_option linter.unusedVariables false

theorem bytes_snoc (s : ByteArray) (k : Nat) (h : k < s.size) : s.data.toList.take (k + 1) = s.data.toList.take k ++ [s[k]] := by
  rw [List.take_succ_eq_append_getElem (by simpa using h)]; rfl
theorem xor32 (x y : Nat) (hx : x < 4294967296) (hy : y < 4294967296) : bits .xor .u32 (x : Int) (y : Int) = ((x ^^^ y : Nat) : Int) := u32_xor_nat x y hx hy
theorem inv_bits (n : Nat) (h : n < 4294967296) : bits .xor .u32 IntKind.u32.max (n : Int) = ((inv n : Nat) : Int) := by
  have := xor32 4294967295 n (by decide) h
  have hm : IntKind.u32.max = ((4294967295 : Nat) : Int) := by rfl
  rw [hm, this]
  congr 1
  have h2 := congrArg BitVec.toNat (BitVec.allOnes_xor (x := BitVec.ofNat 32 n))
  rw [BitVec.toNat_not] at h2
  simp [Nat.mod_eq_of_lt h] at h2
  exact h2
theorem info16 : (Tryd.prog.info? 129).map (·.size) = some 16 := by kernel_rfl

/-- a round's numbers, in the walk's own spelling -/
theorem round_facts (x : Nat) (b : UInt8) (hx : x < 4294967296) :
    ∃ y i1 v1 z i2 v2 t : Nat, bits .xor .u32 (x : Int) (b.toNat : Int) = (y : Int) ∧ bits .and .u32 (y : Int) 15 = (i1 : Int) ∧ i1 < 16 ∧ v1 = steps 4 i1 ∧
      bits .xor .u32 ((y : Int) / 16) (v1 : Int) = (z : Int) ∧ bits .and .u32 (z : Int) 15 = (i2 : Int) ∧ i2 < 16 ∧ v2 = steps 4 i2 ∧
      bits .xor .u32 ((z : Int) / 16) (v2 : Int) = (t : Int) ∧ one x b = t := by
  have hb := byte_lt b
  have hy : x ^^^ b.toNat < 4294967296 := lt32 hx (by omega)
  have hz : steps 4 (x ^^^ b.toNat) < 4294967296 := steps_lt 4 hy
  refine ⟨x ^^^ b.toNat, (x ^^^ b.toNat) % 16, _, steps 4 (x ^^^ b.toNat), steps 4 (x ^^^ b.toNat) % 16, _, steps 4 (steps 4 (x ^^^ b.toNat)), ?_, and15 _ hy, Nat.mod_lt _ (by decide), rfl, ?_, and15 _ hz, Nat.mod_lt _ (by decide), rfl, ?_, ?_⟩
  · exact xor32 _ _ hx (by omega)
  · have := xor32 ((x ^^^ b.toNat) / 16) (steps 4 ((x ^^^ b.toNat) % 16)) (by omega) (steps_lt 4 (by have := Nat.mod_lt (x ^^^ b.toNat) (show 16 > 0 by decide); omega))
    rw [half_step] at this
    rw [← this]; rfl
  · have := xor32 (steps 4 (x ^^^ b.toNat) / 16) (steps 4 (steps 4 (x ^^^ b.toNat) % 16)) (by omega) (steps_lt 4 (by have := Nat.mod_lt (steps 4 (x ^^^ b.toNat)) (show 16 > 0 by decide); omega))
    rw [half_step] at this
    rw [← this]; rfl
  · unfold one
    exact steps_add 4 4 _

set_option maxHeartbeats 400000 in
theorem more_any (sum : Nat) (s : ByteArray) (w : World) (hsum : sum < 4294967296) (hs : s.size ≤ maxLen) :
    Calls Tryd.prog 83 #[.int .u32 sum, .string s] w fun e w' => e = .returned (.int .u32 (more sum s.data.toList : Nat)) ∧ Below w.heap.size w w' := by
  unfold maxLen at hs
  go_enter Tryd.func83, Tryd.ntmps83
  go_wp2_with fail
  refine (table_any _).mono ?_
  rintro e w1 ⟨rfl, hb1⟩
  have hT := Lib.hid (rfl : tab = tab)
  go_wp2_with (refine wpList_store_row rfl 129 (.tmp 5) (.tmp 8) rfl w1.heap.size tab rfl rfl 129 _ (heap_alloc_new _ _) ?d1 ?d2 tab_cells ?_)
  case d1 => rw [tab_size]; kernel_rfl
  case d2 => rw [tab_size]; rfl
  have hbx : Box ((w1.alloc (.cells #[.int .u32 0, .int .u32 0, .int .u32 0, .int .u32 0, .int .u32 0, .int .u32 0, .int .u32 0, .int .u32 0, .int .u32 0, .int .u32 0, .int .u32 0, .int .u32 0, .int .u32 0, .int .u32 0, .int .u32 0, .int .u32 0] 129)).setRow w1.heap.size tab) w1.heap.size 129 tab := setRow_heap _ _ _ _ _ _ (heap_alloc_new _ _)
  have hbe : Below w.heap.size w ((w1.alloc (.cells #[.int .u32 0, .int .u32 0, .int .u32 0, .int .u32 0, .int .u32 0, .int .u32 0, .int .u32 0, .int .u32 0, .int .u32 0, .int .u32 0, .int .u32 0, .int .u32 0, .int .u32 0, .int .u32 0, .int .u32 0, .int .u32 0] 129)).setRow w1.heap.size tab) := below_setRow (hb1.alloc hb1.size _) hb1.size
  generalize ((w1.alloc (.cells #[.int .u32 0, .int .u32 0, .int .u32 0, .int .u32 0, .int .u32 0, .int .u32 0, .int .u32 0, .int .u32 0, .int .u32 0, .int .u32 0, .int .u32 0, .int .u32 0, .int .u32 0, .int .u32 0, .int .u32 0, .int .u32 0] 129)).setRow w1.heap.size tab) = W at *
  rw [inv_bits sum hsum]
  go_loop [6, 13] (fun v i => ∃ (k : Nat), k ≤ s.size ∧ i = .int .i64 k ∧ v = .int .u32 (run (inv sum) (s.data.toList.take k) : Nat)) (fun _ i => s.size - (intOf i).toNat)
  case atStart => exact ⟨0, Nat.zero_le _, rfl, rfl⟩
  case round =>
    obtain ⟨k, hk, rfl, rfl⟩ := hrel
    have hlt := run_lt (s.data.toList.take k) (inv_lt sum)
    by_cases hks : k < s.size
    · have hsn := run_snoc (inv sum) (s.data.toList.take k) s[k]
      rw [← bytes_snoc s k hks] at hsn
      have Hsn := Lib.hid hsn
      clear hsn
      generalize run (inv sum) (s.data.toList.take k) = x at *
      have hby := byte_lt s[k]
      obtain ⟨y, i1, v1, z, i2, v2, t, r1, r2, hi1, hv1, r3, r4, hi2, hv2, r5, ht⟩ := round_facts x s[k] hlt
      have c1 := (hbx.cell i1).trans (tab_at hi1)
      have c2 := (hbx.cell i2).trans (tab_at hi2)
      rw [← hv1] at c1
      rw [← hv2] at c2
      rw [ht] at Hsn
      have j1 : (i1 : Int) < 16 := by omega
      have j2 : (i2 : Int) < 16 := by omega
      clear hv1 hv2 ht hbx
      go_wp2
      go_round
      case rel => exact ⟨k + 1, by omega, by go_num, by rw [Hsn.out]⟩
      case measure => simp [intOf]; omega
    · go_wp2
      go_ret
      have hd : s.data.toList.take k = s.data.toList := List.take_of_length_le (by simp; omega)
      rw [hd]
      refine ⟨?_, hbe⟩
      have := inv_bits _ (run_lt s.data.toList (inv_lt sum))
      exact congrArg (fun x => Ending.returned (.int .u32 x)) this

end Go.Proofs.YtpgmbpjjefecdaaDoor.Crc
