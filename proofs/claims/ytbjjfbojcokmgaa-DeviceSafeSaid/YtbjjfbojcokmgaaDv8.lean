/- Layer 7: noughts; a device is made: New. -/
import Derived.Test.YtbjjfbojcokmgaaDv7
import Derived.Laws.CopyOwn
namespace Go.Proofs.Ytbjjfbojcokmgaa.Dv
open Go.RowKit Base
set_option linter.unusedVariables false
set_option linter.unusedSimpArgs false

def nought : ByteArray := ⟨(List.replicate 128 (0 : UInt8)).toArray⟩
theorem nought_size : nought.size = 128 := by
  show (List.replicate 128 (0 : UInt8)).toArray.size = 128
  simp
theorem info_string : (Try.prog.info? 9).map (fun i => (i.zero, i.size, i.bytes)) = some (some (.string ByteArray.empty), 1, 16) := by kernel_rfl
theorem info_byte : (Try.prog.info? 5).map (fun i => (i.zero, i.size, i.bytes)) = some (some (.int .u8 0), 1, 1) := by kernel_rfl
theorem made_one (z : Value) (n : Nat) : (madeCells #[z] (n * 1)).toList = List.replicate n z := by
  unfold madeCells
  rw [Nat.mul_one, Array.toList_map, Array.toList_range]
  rw [List.eq_replicate_iff]
  refine ⟨by simp, fun b hb => ?_⟩
  obtain ⟨k, _, rfl⟩ := List.mem_map.1 hb
  simp [Nat.mod_one]
def zeros (n : Nat) : ByteArray := ⟨(List.replicate n (0 : UInt8)).toArray⟩
set_option maxHeartbeats 400000 in
theorem noughts_nat (n : Nat) (hn : n ≤ 4096) (w : World) :
    Calls Try.prog 15 #[.int .i64 n] w fun e w' => e = .returned (.string (zeros n)) ∧ Below w.heap.size w w' := by
  obtain ⟨i0, ti0, tz0, tz1, tz2⟩ := info_parts info_byte
  have hcv := Lib.hid (fun (w' : World) (h : w'.ownsRow w.heap.size 5 1 (.slice (some ⟨w.heap.size, 0, none⟩) n n) n (List.replicate n (.int .u8 0))) => show (convert 70 9 (.slice (some ⟨w.heap.size, 0, none⟩) n n)).run Try.prog w' = .ok (.string (zeros n)) w' from by
    have := run_convert_bytes_back (P := Try.prog) w' 70 9 5 ⟨w.heap.size, 0, none⟩ n (List.replicate n 0) Try.underlying70 Try.underlying5 Try.underlying9 (by
      intro j hj
      rw [List.length_replicate] at hj
      rw [add_at, Nat.zero_add, h.cellAt j (by omega), List.getElem?_replicate, if_pos hj]
      simp)
    rw [List.length_replicate] at this
    exact this)
  have hmx : max (n : Int) 0 = n := by omega
  have Hn := Lib.hid hn
  go_enter Try.func15, Try.ntmps15
  go_wp2_with (refine wpList_make_full _ rfl _ _ 70 rfl w.heap.size 5 i0 (.int .u8 0) 1 Try.underlying70 ti0 tz0 tz1 .i64 .i64 n n n rfl rfl rfl rfl (by rw [tz2]; have := Hn.out; omega) (by have := Hn.out; unfold maxLen; omega) (Nat.le_refl _) ?_; intro w' hown hgr; rw [show (Value.int .u8 0).cells = #[.int .u8 0] from rfl, made_one] at hown; have hcv' := hcv.out w' hown; have Hgr := Lib.hid hgr; clear hown hgr)
  go_ret
  exact ⟨rfl, ((Below.refl _ _).grown Hgr.out (Nat.le_refl _) (by simp))⟩
theorem noughts_any (w : World) : Calls Try.prog 15 #[.int .i64 128] w fun e w' => e = .returned (.string nought) ∧ Below w.heap.size w w' := noughts_nat 128 (by omega) w

/-- a text as a sector's -/
def full (s : ByteArray) : ByteArray := (s ++ nought).extract 0 128
theorem full_size (s : ByteArray) : (full s).size = 128 := by
  unfold full
  rw [ByteArray.size_extract, ByteArray.size_append, nought_size]
  omega
set_option maxHeartbeats 400000 in
theorem full_any (s : ByteArray) (w : World) (hs : s.size ≤ 10000) :
    Calls Try.prog 11 #[.string s] w fun e w' => e = .returned (.string (full s)) ∧ Below w.heap.size w w' := by
  have hz := nought_size
  have r1 : ∀ W, (Op.stringOp .add s nought).run Try.prog W = .ok (.string (s ++ nought)) W := fun W => run_string_add W _ _ (by omega) (by omega)
  have r2 : ∀ W, (Instr.slice 9 (.string (s ++ nought)) none (some (.int .i64 128)) none).run Try.prog W = .ok (.string (full s)) W := fun W => by
    rw [run_slice_string_h (ht := Try.underlying9) (kh := .i64) (h0 := by omega) (h2 := by rw [ByteArray.size_append]; omega)]
    rfl
  have HN := Lib.hid noughts_any
  generalize s ++ nought = sn at *
  generalize full s = fs at *
  generalize nought = z at *
  clear hz hs
  go_enter Try.func11, Try.ntmps11
  go_wp2_with fail
  refine (HN.out _).mono ?_
  rintro e w1 ⟨rfl, hb⟩
  go_wp2_with fail
  go_ret
  exact ⟨rfl, hb⟩
set_option maxHeartbeats 400000 in
theorem empty_any (w : World) :
    Calls Try.prog 31 #[] w fun e w' => e = .returned (.string nought) ∧ Below w.heap.size w w' := by
  have HN := Lib.hid (show ∀ w, Calls Try.prog 46 #[.string ⟨#[0]⟩, .int .i64 128] w fun e w' => e = .returned (.string nought) ∧ Below w.heap.size w w' from fun w => by
    have := Try.strings_Repeat ⟨#[0]⟩ 128 w (by omega) (by decide)
    have e : Lib.repeatL (ByteArray.mk #[0]).data.toList 128 = List.replicate 128 0 := by decide +kernel
    rw [e] at this
    exact this)
  generalize nought = z at *
  go_enter Try.func31, Try.ntmps31
  go_wp2_with fail
  refine (HN.out _).mono ?_
  rintro e w1 ⟨rfl, hb⟩
  go_wp2_with fail
  go_ret
  exact ⟨rfl, hb⟩

end Go.Proofs.Ytbjjfbojcokmgaa.Dv
