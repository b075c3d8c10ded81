/- Texts: a byte of a text, a part of a text, two numbers joined by 'or'. -/
import Derived.Test.YtpgmbpjjefecdaaDoorCrc5
namespace Go.Proofs.YtpgmbpjjefecdaaDoor.Txt
open Go.RowKit Base Crc
set_option linter.unusedVariables false

theorem index_nb (l : List UInt8) (j : Nat) (h : j < l.length) (W : World) : (Instr.index 9 (.string (str l)) (.int .i64 (j : Int))).run Tryd.prog W = .ok (.int .u8 ((l.getD j 0).toNat : Int)) W := by
  have h0 : j < (str l).size := h
  have h1 : (j : Int) < (str l).size := by omega
  have e : (str l)[j] = l.getD j 0 := by
    rw [List.getD_eq_getElem?_getD, List.getElem?_eq_getElem h]
    rfl
  rw [← e]
  simp [go_sem, Tryd.underlying9, h0]
theorem cut_from (l : List UInt8) (a : Nat) (x : Int) (hx : x = a) (h : a ≤ l.length) (w : World) : (Instr.slice 9 (.string (str l)) (some (.int .i64 x)) none none).run Tryd.prog w = .ok (.string (str (l.drop a))) w := by
  subst hx
  have hs : (str l).size = l.length := rfl
  rw [run_slice_string_l (ht := Tryd.underlying9) (kl := .i64) (h0 := by omega) (h1 := by omega), extract_str]
  rw [Int.toNat_natCast, str_list, List.take_of_length_le (by rw [List.length_drop]; omega)]
theorem cut_upto (l : List UInt8) (b : Nat) (x : Int) (hx : x = b) (h : b ≤ l.length) (w : World) : (Instr.slice 9 (.string (str l)) none (some (.int .i64 x)) none).run Tryd.prog w = .ok (.string (str (l.take b))) w := by
  subst hx
  have hs : (str l).size = l.length := rfl
  rw [run_slice_string_h (ht := Tryd.underlying9) (kh := .i64) (h0 := by omega) (h2 := by omega), extract_str]
  rw [Int.toNat_natCast, str_list]
  rfl
theorem cut_mid (l : List UInt8) (a b : Nat) (x y : Int) (hx : x = a) (hy : y = b) (h : a ≤ b) (h2 : b ≤ l.length) (w : World) : (Instr.slice 9 (.string (str l)) (some (.int .i64 x)) (some (.int .i64 y)) none).run Tryd.prog w = .ok (.string (str ((l.drop a).take (b - a)))) w := by
  subst hx hy
  have hs : (str l).size = l.length := rfl
  rw [run_slice_string_if w 9 (str l) .i64 .i64 a b Tryd.underlying9, if_pos (by omega), if_pos (by omega), extract_str]
  rw [Int.toNat_natCast, Int.toNat_natCast, str_list]
theorem or_i64 (k a b : Nat) (ha : a % 2 ^ k = 0) (hb : b < 2 ^ k) (hlt : a + b < 4611686018427387904) : bits .or .i64 (a : Int) (b : Int) = ((a + b : Nat) : Int) := by
  have hx' : a ||| b = a + b := nat_join k a b ha hb
  show IntKind.i64.wrap ((BitVec.ofInt 64 (a : Int) ||| BitVec.ofInt 64 (b : Int)).toNat : Int) = _
  have h1 : (BitVec.ofInt 64 (a : Int)).toNat = a := by rw [BitVec.ofInt_natCast, BitVec.toNat_ofNat]; exact Nat.mod_eq_of_lt (by omega)
  have h2 : (BitVec.ofInt 64 (b : Int)).toNat = b := by rw [BitVec.ofInt_natCast, BitVec.toNat_ofNat]; exact Nat.mod_eq_of_lt (by omega)
  rw [BitVec.toNat_or, h1, h2, hx']
  exact IntWalk.i64_in _ (by omega)

end Go.Proofs.YtpgmbpjjefecdaaDoor.Txt
