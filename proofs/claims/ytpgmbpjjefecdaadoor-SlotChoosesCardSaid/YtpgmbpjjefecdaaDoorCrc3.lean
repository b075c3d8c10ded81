/- The contracts of package crc and of its reference (layer 2), third part: the reference's sum; the sum as four bytes. -/
import Derived.Test.YtpgmbpjjefecdaaDoorCrc2
import Derived.WalkSpells
import Derived.Laws.IdiomStrings
namespace Go.Proofs.YtpgmbpjjefecdaaDoor.Crc
open Go.RowKit Base
set_option linter.unusedVariables false

theorem bit_any (n : Nat) (w : World) (hn : n < 4294967296) :
    Calls Tryd.prog 106 #[.int .u32 n] w fun e w' => e = .returned (.int .u32 (n % 2 : Nat)) ∧ w = w' := by
  go_enter Tryd.func106, Tryd.ntmps106
  go_wp2
  go_ret
  exact ⟨by simp, rfl⟩

def rsteps : Nat → Nat → Nat → Nat × Nat
  | 0, n, v => (n, v)
  | k + 1, n, v => let p := rsteps k n v; rstep p.1 p.2
theorem rsteps_xor (k n v : Nat) : (rsteps k n v).1 ^^^ (rsteps k n v).2 = steps k (n ^^^ v) := by
  induction k with
  | zero => rfl
  | succ k ih =>
    show (rstep (rsteps k n v).1 (rsteps k n v).2).1 ^^^ (rstep (rsteps k n v).1 (rsteps k n v).2).2 = _
    rw [rstep_xor, ih, steps_add k 1]
    rfl
theorem rsteps_snd (k n v : Nat) : (rsteps k n v).2 = v / 2 ^ k := by
  induction k with
  | zero => simp [rsteps]
  | succ k ih =>
    show (rsteps k n v).2 / 2 = _
    rw [ih, Nat.div_div_eq_div_mul, Nat.pow_succ]
theorem rsteps_lt (k n v : Nat) (hn : n < 4294967296) (hv : v < 256) : (rsteps k n v).1 < 4294967296 ∧ (rsteps k n v).2 < 256 := by
  induction k with
  | zero => exact ⟨hn, hv⟩
  | succ k ih =>
    refine ⟨?_, ?_⟩
    · show (rsteps k n v).1 / 2 ^^^ (if _ then 0 else poly) < _
      refine lt32 (by omega) ?_
      split <;> decide
    · show (rsteps k n v).2 / 2 < 256
      omega
theorem rsteps_one (n : Nat) (b : UInt8) : (rsteps 8 n b.toNat).1 = one n b := by
  have h := rsteps_xor 8 n b.toNat
  rw [rsteps_snd, Nat.div_eq_of_lt (by have := byte_lt b; omega), Nat.xor_zero] at h
  exact h

set_option maxHeartbeats 400000 in
theorem rone_any (n : Nat) (b : UInt8) (w : World) (hn : n < 4294967296) :
    Calls Tryd.prog 93 #[.int .u32 n, .int .u8 b.toNat] w fun e w' => e = .returned (.int .u32 (one n b : Nat)) ∧ w = w' := by
  have hb := byte_lt b
  go_enter Tryd.func93, Tryd.ntmps93
  go_wp2
  go_loop [0, 5, 6] (fun x y i => ∃ (k : Nat), k ≤ 8 ∧ i = .int .i64 k ∧ x = .int .u32 ((rsteps k n b.toNat).1 : Nat) ∧ y = .int .u32 ((rsteps k n b.toNat).2 : Nat)) (fun _ _ i => 8 - (intOf i).toNat)
  case atStart => exact ⟨0, by omega, rfl, rfl, rfl⟩
  case round =>
    obtain ⟨k, hk, rfl, rfl, rfl⟩ := hrel
    have hl := rsteps_lt k n b.toNat hn hb
    have h1 : (rsteps (k + 1) n b.toNat).1 = (rsteps k n b.toNat).1 / 2 ^^^ (if (rsteps k n b.toNat).1 % 2 = (rsteps k n b.toNat).2 % 2 then 0 else poly) := rfl
    have h2 : (rsteps (k + 1) n b.toNat).2 = (rsteps k n b.toNat).2 / 2 := rfl
    have H1 := Lib.hid h1
    have H2 := Lib.hid h2
    obtain ⟨l1, l2⟩ := hl
    clear h1 h2
    by_cases hk8 : k < 8
    · generalize (rsteps k n b.toNat).1 = x at *
      generalize (rsteps k n b.toNat).2 = y at *
      by_cases he : x % 2 = y % 2
      · rw [if_pos he, Nat.xor_zero] at H1
        have ht : (((x % 2 : Nat) : Int) != ((y % 2 : Nat) : Int)) = false := by rw [he]; simp
        clear he
        go_wp2_with fail
        refine (bit_any x _ l1).mono ?_
        rintro e w' ⟨rfl, rfl⟩
        go_wp2_with fail
        refine (bit_any y _ (by omega)).mono ?_
        rintro e w' ⟨rfl, rfl⟩
        go_wp2_with fail
        refine ⟨⟨k + 1, by omega, by go_num, ?_, ?_⟩, by simp [intOf]; omega⟩
        · rw [H1.out]; rfl
        · rw [H2.out]; rfl
      · rw [if_neg he] at H1
        have ht : (((x % 2 : Nat) : Int) != ((y % 2 : Nat) : Int)) = true := by rw [bne_iff_ne]; omega
        have hx := xorp (x / 2) (by omega)
        rw [Int.natCast_ediv] at hx
        clear he
        go_wp2_with fail
        refine (bit_any x _ l1).mono ?_
        rintro e w' ⟨rfl, rfl⟩
        go_wp2_with fail
        refine (bit_any y _ (by omega)).mono ?_
        rintro e w' ⟨rfl, rfl⟩
        go_wp2_with fail
        refine ⟨⟨k + 1, by omega, by go_num, ?_, ?_⟩, by simp [intOf]; omega⟩
        · rw [H1.out]; first | rfl | exact congrArg (Value.int IntKind.u32) hx
        · rw [H2.out]; rfl
    · go_wp2
      go_ret
      have h8 : k = 8 := by omega
      rw [h8, rsteps_one]
      exact ⟨rfl, rfl⟩

def str (l : List UInt8) : ByteArray := ⟨l.toArray⟩
def byt (n : Nat) : UInt8 := UInt8.ofNat n
def tail4 (n : Nat) : List UInt8 := [byt n, byt (n / 256), byt (n / 65536), byt (n / 16777216)]

theorem byt_mod (n : Nat) : byt ((n : Int) % 256).toNat = byt n := by
  unfold byt
  apply UInt8.toNat_inj.1
  rw [UInt8.toNat_ofNat', UInt8.toNat_ofNat']
  omega
theorem byt_nat {x : Int} (h0 : 0 ≤ x) (h1 : x < 256) : ((byt x.toNat).toNat : Int) = x := by
  unfold byt
  rw [UInt8.toNat_ofNat']
  omega
/-- string(b) of bytes that were just laid -/
theorem conv_new (w : World) (xs : List Int) (hx : ∀ x ∈ xs, 0 ≤ x ∧ x < 256) :
    (convert 63 9 (.slice (some ⟨w.heap.size, 0, none⟩) xs.length xs.length)).run Tryd.prog (w.alloc (.cells (xs.map (Value.int .u8)).toArray 5)) = .ok (.string (str (xs.map fun x => byt x.toNat))) (w.alloc (.cells (xs.map (Value.int .u8)).toArray 5)) := by
  have h := run_convert_bytes_back (P := Tryd.prog) (w.alloc (.cells (xs.map (Value.int .u8)).toArray 5)) 63 9 5 ⟨w.heap.size, 0, none⟩ xs.length (xs.map fun x => byt x.toNat) Tryd.underlying63 Tryd.underlying5 Tryd.underlying9 ?_
  · rw [List.length_map] at h
    exact h
  · intro j hj
    rw [List.length_map] at hj
    rw [add_at, Nat.zero_add, (Box.new w 5 (xs.map (Value.int .u8)).toArray).cell]
    have := hx _ (List.getElem_mem hj)
    simp [hj, byt_nat this.1 this.2]

set_option maxHeartbeats 400000 in
theorem tail_any (n : Nat) (w : World) (hn : n < 4294967296) :
    Calls Tryd.prog 59 #[.int .u32 n] w fun e w' => e = .returned (.string (str (tail4 n))) ∧ Below w.heap.size w w' := by
  have hc : ∀ w : World, (convert 63 9 (.slice (some ⟨w.heap.size, 0, none⟩) 4 4)).run Tryd.prog (w.alloc (.cells #[.int .u8 ((n : Int) % 256), .int .u8 ((n : Int) / 256 % 256), .int .u8 ((n : Int) / 65536 % 256), .int .u8 ((n : Int) / 16777216)] 5)) = .ok (.string (str (tail4 n))) (w.alloc (.cells #[.int .u8 ((n : Int) % 256), .int .u8 ((n : Int) / 256 % 256), .int .u8 ((n : Int) / 65536 % 256), .int .u8 ((n : Int) / 16777216)] 5)) := fun w => by
    have h := conv_new w [(n : Int) % 256, (n : Int) / 256 % 256, (n : Int) / 65536 % 256, (n : Int) / 16777216] (by intro x hx; simp at hx; omega)
    have e : [(n : Int) % 256, (n : Int) / 256 % 256, (n : Int) / 65536 % 256, (n : Int) / 16777216].map (fun x => byt x.toNat) = tail4 n := by
      unfold tail4
      simp only [List.map_cons, List.map_nil, List.cons.injEq, and_true]
      refine ⟨byt_mod _, byt_mod (n / 256), byt_mod (n / 65536), rfl⟩
    rw [e] at h
    exact h
  go_enter Tryd.func59, Tryd.ntmps59
  go_wp2
  go_ret
  exact ⟨rfl, (by repeat (first | exact Below.refl _ _ | assumption | refine Below.drew ?_ | (refine Below.alloc ?_ (by simp <;> omega) _) | (refine Below.setCell ?_ (by simp <;> omega) _)))⟩

end Go.Proofs.YtpgmbpjjefecdaaDoor.Crc
