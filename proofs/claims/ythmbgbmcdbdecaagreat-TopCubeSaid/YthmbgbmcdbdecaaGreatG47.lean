/- Parts of a proof: The schema and the rows of 'plain'. -/
import Derived.Test.YthmbgbmcdbdecaaGreatG04
import Derived.Test.YthmbgbmcdbdecaaGreatG23
namespace Go.Proofs.YthmbgbmcdbdecaaGreat.Tc
open Go.RowKit Base
set_option linter.unusedVariables false
set_option linter.unusedSimpArgs false
def plainS (B : Nat) : Sch := ⟨some ⟨B + 7, 0, none⟩, [⟨⟨#[100]⟩, some ⟨B + 2, 0, none⟩, [⟨⟨#[116]⟩, some ⟨B + 1, 0, none⟩, [⟨#[97]⟩, ⟨#[98]⟩], 2, none, [], 0⟩], 1⟩, ⟨⟨#[101]⟩, some ⟨B + 6, 0, none⟩, [⟨⟨#[108, 111, 119]⟩, some ⟨B + 3, 0, none⟩, [⟨#[120]⟩, ⟨#[121]⟩, ⟨#[122]⟩], 3, some ⟨B + 4, 0, none⟩, [0, 0, 1], 3⟩, ⟨⟨#[116, 111, 112]⟩, some ⟨B + 5, 0, none⟩, [⟨#[112]⟩, ⟨#[113]⟩], 2, none, [], 0⟩], 2⟩], 2, some ⟨B + 8, 0, none⟩, [⟨#[109]⟩], 1⟩
def plainR (B : Nat) : List Rw := [⟨some ⟨B + 10, 0, none⟩, [⟨#[97]⟩, ⟨#[120]⟩], 2, some ⟨B + 11, 0, none⟩, [3], 1⟩, ⟨some ⟨B + 12, 0, none⟩, [⟨#[98]⟩, ⟨#[121]⟩], 2, some ⟨B + 13, 0, none⟩, [-4], 1⟩, ⟨some ⟨B + 14, 0, none⟩, [⟨#[97]⟩, ⟨#[122]⟩], 2, some ⟨B + 15, 0, none⟩, [5], 1⟩]
def PlainRet (w : World) (e : Ending) (w' : World) : Prop := e = .returned (.tuple #[.agg (schC (plainS w.heap.size)), .slice (some ⟨w.heap.size + 16, 0, none⟩) 3 3]) ∧ SchAt w' w'.heap.size (plainS w.heap.size) ∧ RwsAt w' w'.heap.size (some ⟨w.heap.size + 16, 0, none⟩) (plainR w.heap.size) ∧ Below w.heap.size w w'
theorem plain_sz1 (a : UInt8) : ∀ s ∈ ([⟨#[a]⟩] : List ByteArray), s.size ≤ maxLen := fun s hs => by
 rcases List.mem_cons.1 hs with rfl | hs
 ·exact (show (1 : Nat) ≤ maxLen by decide)
 ·cases hs
theorem plain_sz2 (a b : UInt8) : ∀ s ∈ ([⟨#[a]⟩, ⟨#[b]⟩] : List ByteArray), s.size ≤ maxLen := fun s hs => by
 rcases List.mem_cons.1 hs with rfl | hs
 ·exact (show (1 : Nat) ≤ maxLen by decide)
 ·exact plain_sz1 b s hs
theorem plain_sz3 (a b c : UInt8) : ∀ s ∈ ([⟨#[a]⟩, ⟨#[b]⟩, ⟨#[c]⟩] : List ByteArray), s.size ≤ maxLen := fun s hs => by
 rcases List.mem_cons.1 hs with rfl | hs
 ·exact (show (1 : Nat) ≤ maxLen by decide)
 ·exact plain_sz2 b c s hs
theorem row_box {w : World} {g : Nat} {t : TypeId} {cs : Array Value} (h : Box w g t cs) : Row w w.heap.size (some ⟨g, 0, none⟩) cs.toList := by
 refine .inr ⟨g, 0, rfl, h.lt, fun i v hv => ?_⟩
 rw [Nat.zero_add, h.cell i]
 simpa using hv
set_option maxRecDepth 100000 in
set_option maxHeartbeats 8000000 in
theorem plain_any (w : World) : Calls Tryz.prog 19 #[] w (PlainRet w) := by
 have HQ := kp (show ∀ w', SchAt w' w'.heap.size (plainS w.heap.size) → RwsAt w' w'.heap.size (some ⟨w.heap.size + 16, 0, none⟩) (plainR w.heap.size) → Below w.heap.size w w' → PlainRet w (.returned (.tuple #[.agg #[.slice (some ⟨w.heap.size + 7, 0, none⟩) 2 2, .slice (some ⟨w.heap.size + 8, 0, none⟩) 1 1], .slice (some ⟨w.heap.size + 16, 0, none⟩) 3 3])) w' from fun w' h1 h2 h3 => ⟨rfl, h1, h2, h3⟩)
 generalize PlainRet w = Q at *
 have hb := Below.refl w.heap.size w
 have hz0 : w.heap.size = w.heap.size := rfl
 have hb := hb.alloc (Nat.le_refl _) (.cells #[.slice none 0 0, .slice none 0 0] 25)
 have HB0 := kp (show Box (w.alloc (.cells #[.slice none 0 0, .slice none 0 0] 25)) (w.heap.size) 25 #[.slice none 0 0, .slice none 0 0] from Box.lay rfl)
 have hz1 : (w.alloc (.cells #[.slice none 0 0, .slice none 0 0] 25)).heap.size = w.heap.size + 1 := by simp
 generalize hW0 : w.alloc (.cells #[.slice none 0 0, .slice none 0 0] 25) = W0 at *
 have hb := hb.alloc (by rw [hz1]; omega) (.cells #[.string ⟨#[97]⟩, .string ⟨#[98]⟩] 9)
 have HB1 := kp (show Box (W0.alloc (.cells #[.string ⟨#[97]⟩, .string ⟨#[98]⟩] 9)) (w.heap.size + 1) 9 #[.string ⟨#[97]⟩, .string ⟨#[98]⟩] from Box.lay hz1)
 have HA : ∀ {g : Nat} {t : TypeId} {cs : Array Value}, Box W0 g t cs → Box (W0.alloc (.cells #[.string ⟨#[97]⟩, .string ⟨#[98]⟩] 9)) g t cs := fun h => h.alloc _
 have hz2 : (W0.alloc (.cells #[.string ⟨#[97]⟩, .string ⟨#[98]⟩] 9)).heap.size = w.heap.size + 2 := by simp [hz1]
 generalize hW1 : W0.alloc (.cells #[.string ⟨#[97]⟩, .string ⟨#[98]⟩] 9) = W1 at *
 have HB0 := kp (HA HB0.out)
 clear HA
 have hb := hb.alloc (by rw [hz2]; omega) (.cells #[.string ⟨#[116]⟩, .slice (some ⟨w.heap.size + 1, 0, none⟩) 2 2, .slice none 0 0] 63)
 have HB2 := kp (show Box (W1.alloc (.cells #[.string ⟨#[116]⟩, .slice (some ⟨w.heap.size + 1, 0, none⟩) 2 2, .slice none 0 0] 63)) (w.heap.size + 2) 63 #[.string ⟨#[116]⟩, .slice (some ⟨w.heap.size + 1, 0, none⟩) 2 2, .slice none 0 0] from Box.lay hz2)
 have HA : ∀ {g : Nat} {t : TypeId} {cs : Array Value}, Box W1 g t cs → Box (W1.alloc (.cells #[.string ⟨#[116]⟩, .slice (some ⟨w.heap.size + 1, 0, none⟩) 2 2, .slice none 0 0] 63)) g t cs := fun h => h.alloc _
 have hz3 : (W1.alloc (.cells #[.string ⟨#[116]⟩, .slice (some ⟨w.heap.size + 1, 0, none⟩) 2 2, .slice none 0 0] 63)).heap.size = w.heap.size + 3 := by simp [hz2]
 generalize hW2 : W1.alloc (.cells #[.string ⟨#[116]⟩, .slice (some ⟨w.heap.size + 1, 0, none⟩) 2 2, .slice none 0 0] 63) = W2 at *
 have HB0 := kp (HA HB0.out)
 have HB1 := kp (HA HB1.out)
 clear HA
 have hb := hb.alloc (by rw [hz3]; omega) (.cells #[.string ⟨#[120]⟩, .string ⟨#[121]⟩, .string ⟨#[122]⟩] 9)
 have HB3 := kp (show Box (W2.alloc (.cells #[.string ⟨#[120]⟩, .string ⟨#[121]⟩, .string ⟨#[122]⟩] 9)) (w.heap.size + 3) 9 #[.string ⟨#[120]⟩, .string ⟨#[121]⟩, .string ⟨#[122]⟩] from Box.lay hz3)
 have HA : ∀ {g : Nat} {t : TypeId} {cs : Array Value}, Box W2 g t cs → Box (W2.alloc (.cells #[.string ⟨#[120]⟩, .string ⟨#[121]⟩, .string ⟨#[122]⟩] 9)) g t cs := fun h => h.alloc _
 have hz4 : (W2.alloc (.cells #[.string ⟨#[120]⟩, .string ⟨#[121]⟩, .string ⟨#[122]⟩] 9)).heap.size = w.heap.size + 4 := by simp [hz3]
 generalize hW3 : W2.alloc (.cells #[.string ⟨#[120]⟩, .string ⟨#[121]⟩, .string ⟨#[122]⟩] 9) = W3 at *
 have HB0 := kp (HA HB0.out)
 have HB1 := kp (HA HB1.out)
 have HB2 := kp (HA HB2.out)
 clear HA
 have hb := hb.alloc (by rw [hz4]; omega) (.cells #[.int .i64 0, .int .i64 0, .int .i64 1] 3)
 have HB4 := kp (show Box (W3.alloc (.cells #[.int .i64 0, .int .i64 0, .int .i64 1] 3)) (w.heap.size + 4) 3 #[.int .i64 0, .int .i64 0, .int .i64 1] from Box.lay hz4)
 have HA : ∀ {g : Nat} {t : TypeId} {cs : Array Value}, Box W3 g t cs → Box (W3.alloc (.cells #[.int .i64 0, .int .i64 0, .int .i64 1] 3)) g t cs := fun h => h.alloc _
 have hz5 : (W3.alloc (.cells #[.int .i64 0, .int .i64 0, .int .i64 1] 3)).heap.size = w.heap.size + 5 := by simp [hz4]
 generalize hW4 : W3.alloc (.cells #[.int .i64 0, .int .i64 0, .int .i64 1] 3) = W4 at *
 have HB0 := kp (HA HB0.out)
 have HB1 := kp (HA HB1.out)
 have HB2 := kp (HA HB2.out)
 have HB3 := kp (HA HB3.out)
 clear HA
 have hb := hb.alloc (by rw [hz5]; omega) (.cells #[.string ⟨#[112]⟩, .string ⟨#[113]⟩] 9)
 have HB5 := kp (show Box (W4.alloc (.cells #[.string ⟨#[112]⟩, .string ⟨#[113]⟩] 9)) (w.heap.size + 5) 9 #[.string ⟨#[112]⟩, .string ⟨#[113]⟩] from Box.lay hz5)
 have HA : ∀ {g : Nat} {t : TypeId} {cs : Array Value}, Box W4 g t cs → Box (W4.alloc (.cells #[.string ⟨#[112]⟩, .string ⟨#[113]⟩] 9)) g t cs := fun h => h.alloc _
 have hz6 : (W4.alloc (.cells #[.string ⟨#[112]⟩, .string ⟨#[113]⟩] 9)).heap.size = w.heap.size + 6 := by simp [hz5]
 generalize hW5 : W4.alloc (.cells #[.string ⟨#[112]⟩, .string ⟨#[113]⟩] 9) = W5 at *
 have HB0 := kp (HA HB0.out)
 have HB1 := kp (HA HB1.out)
 have HB2 := kp (HA HB2.out)
 have HB3 := kp (HA HB3.out)
 have HB4 := kp (HA HB4.out)
 clear HA
 have hb := hb.alloc (by rw [hz6]; omega) (.cells #[.string ⟨#[108, 111, 119]⟩, .slice (some ⟨w.heap.size + 3, 0, none⟩) 3 3, .slice (some ⟨w.heap.size + 4, 0, none⟩) 3 3, .string ⟨#[116, 111, 112]⟩, .slice (some ⟨w.heap.size + 5, 0, none⟩) 2 2, .slice none 0 0] 63)
 have HB6 := kp (show Box (W5.alloc (.cells #[.string ⟨#[108, 111, 119]⟩, .slice (some ⟨w.heap.size + 3, 0, none⟩) 3 3, .slice (some ⟨w.heap.size + 4, 0, none⟩) 3 3, .string ⟨#[116, 111, 112]⟩, .slice (some ⟨w.heap.size + 5, 0, none⟩) 2 2, .slice none 0 0] 63)) (w.heap.size + 6) 63 #[.string ⟨#[108, 111, 119]⟩, .slice (some ⟨w.heap.size + 3, 0, none⟩) 3 3, .slice (some ⟨w.heap.size + 4, 0, none⟩) 3 3, .string ⟨#[116, 111, 112]⟩, .slice (some ⟨w.heap.size + 5, 0, none⟩) 2 2, .slice none 0 0] from Box.lay hz6)
 have HA : ∀ {g : Nat} {t : TypeId} {cs : Array Value}, Box W5 g t cs → Box (W5.alloc (.cells #[.string ⟨#[108, 111, 119]⟩, .slice (some ⟨w.heap.size + 3, 0, none⟩) 3 3, .slice (some ⟨w.heap.size + 4, 0, none⟩) 3 3, .string ⟨#[116, 111, 112]⟩, .slice (some ⟨w.heap.size + 5, 0, none⟩) 2 2, .slice none 0 0] 63)) g t cs := fun h => h.alloc _
 have hz7 : (W5.alloc (.cells #[.string ⟨#[108, 111, 119]⟩, .slice (some ⟨w.heap.size + 3, 0, none⟩) 3 3, .slice (some ⟨w.heap.size + 4, 0, none⟩) 3 3, .string ⟨#[116, 111, 112]⟩, .slice (some ⟨w.heap.size + 5, 0, none⟩) 2 2, .slice none 0 0] 63)).heap.size = w.heap.size + 7 := by simp [hz6]
 generalize hW6 : W5.alloc (.cells #[.string ⟨#[108, 111, 119]⟩, .slice (some ⟨w.heap.size + 3, 0, none⟩) 3 3, .slice (some ⟨w.heap.size + 4, 0, none⟩) 3 3, .string ⟨#[116, 111, 112]⟩, .slice (some ⟨w.heap.size + 5, 0, none⟩) 2 2, .slice none 0 0] 63) = W6 at *
 have HB0 := kp (HA HB0.out)
 have HB1 := kp (HA HB1.out)
 have HB2 := kp (HA HB2.out)
 have HB3 := kp (HA HB3.out)
 have HB4 := kp (HA HB4.out)
 have HB5 := kp (HA HB5.out)
 clear HA
 have hb := hb.alloc (by rw [hz7]; omega) (.cells #[.string ⟨#[100]⟩, .slice (some ⟨w.heap.size + 2, 0, none⟩) 1 1, .string ⟨#[101]⟩, .slice (some ⟨w.heap.size + 6, 0, none⟩) 2 2] 61)
 have HB7 := kp (show Box (W6.alloc (.cells #[.string ⟨#[100]⟩, .slice (some ⟨w.heap.size + 2, 0, none⟩) 1 1, .string ⟨#[101]⟩, .slice (some ⟨w.heap.size + 6, 0, none⟩) 2 2] 61)) (w.heap.size + 7) 61 #[.string ⟨#[100]⟩, .slice (some ⟨w.heap.size + 2, 0, none⟩) 1 1, .string ⟨#[101]⟩, .slice (some ⟨w.heap.size + 6, 0, none⟩) 2 2] from Box.lay hz7)
 have HA : ∀ {g : Nat} {t : TypeId} {cs : Array Value}, Box W6 g t cs → Box (W6.alloc (.cells #[.string ⟨#[100]⟩, .slice (some ⟨w.heap.size + 2, 0, none⟩) 1 1, .string ⟨#[101]⟩, .slice (some ⟨w.heap.size + 6, 0, none⟩) 2 2] 61)) g t cs := fun h => h.alloc _
 have hz8 : (W6.alloc (.cells #[.string ⟨#[100]⟩, .slice (some ⟨w.heap.size + 2, 0, none⟩) 1 1, .string ⟨#[101]⟩, .slice (some ⟨w.heap.size + 6, 0, none⟩) 2 2] 61)).heap.size = w.heap.size + 8 := by simp [hz7]
 generalize hW7 : W6.alloc (.cells #[.string ⟨#[100]⟩, .slice (some ⟨w.heap.size + 2, 0, none⟩) 1 1, .string ⟨#[101]⟩, .slice (some ⟨w.heap.size + 6, 0, none⟩) 2 2] 61) = W7 at *
 have HB0 := kp (HA HB0.out)
 have HB1 := kp (HA HB1.out)
 have HB2 := kp (HA HB2.out)
 have HB3 := kp (HA HB3.out)
 have HB4 := kp (HA HB4.out)
 have HB5 := kp (HA HB5.out)
 have HB6 := kp (HA HB6.out)
 clear HA
 have hb := hb.alloc (by rw [hz8]; omega) (.cells #[.string ⟨#[109]⟩] 9)
 have HB8 := kp (show Box (W7.alloc (.cells #[.string ⟨#[109]⟩] 9)) (w.heap.size + 8) 9 #[.string ⟨#[109]⟩] from Box.lay hz8)
 have HA : ∀ {g : Nat} {t : TypeId} {cs : Array Value}, Box W7 g t cs → Box (W7.alloc (.cells #[.string ⟨#[109]⟩] 9)) g t cs := fun h => h.alloc _
 have hz9 : (W7.alloc (.cells #[.string ⟨#[109]⟩] 9)).heap.size = w.heap.size + 9 := by simp [hz8]
 generalize hW8 : W7.alloc (.cells #[.string ⟨#[109]⟩] 9) = W8 at *
 have HB0 := kp (HA HB0.out)
 have HB1 := kp (HA HB1.out)
 have HB2 := kp (HA HB2.out)
 have HB3 := kp (HA HB3.out)
 have HB4 := kp (HA HB4.out)
 have HB5 := kp (HA HB5.out)
 have HB6 := kp (HA HB6.out)
 have HB7 := kp (HA HB7.out)
 clear HA
 have hb := hb.alloc (by rw [hz9]; omega) (.cells #[.slice (some ⟨w.heap.size + 7, 0, none⟩) 2 2, .slice (some ⟨w.heap.size + 8, 0, none⟩) 1 1] 25)
 have HB9 := kp (show Box (W8.alloc (.cells #[.slice (some ⟨w.heap.size + 7, 0, none⟩) 2 2, .slice (some ⟨w.heap.size + 8, 0, none⟩) 1 1] 25)) (w.heap.size + 9) 25 #[.slice (some ⟨w.heap.size + 7, 0, none⟩) 2 2, .slice (some ⟨w.heap.size + 8, 0, none⟩) 1 1] from Box.lay hz9)
 have HA : ∀ {g : Nat} {t : TypeId} {cs : Array Value}, Box W8 g t cs → Box (W8.alloc (.cells #[.slice (some ⟨w.heap.size + 7, 0, none⟩) 2 2, .slice (some ⟨w.heap.size + 8, 0, none⟩) 1 1] 25)) g t cs := fun h => h.alloc _
 have hz10 : (W8.alloc (.cells #[.slice (some ⟨w.heap.size + 7, 0, none⟩) 2 2, .slice (some ⟨w.heap.size + 8, 0, none⟩) 1 1] 25)).heap.size = w.heap.size + 10 := by simp [hz9]
 generalize hW9 : W8.alloc (.cells #[.slice (some ⟨w.heap.size + 7, 0, none⟩) 2 2, .slice (some ⟨w.heap.size + 8, 0, none⟩) 1 1] 25) = W9 at *
 have HB0 := kp (HA HB0.out)
 have HB1 := kp (HA HB1.out)
 have HB2 := kp (HA HB2.out)
 have HB3 := kp (HA HB3.out)
 have HB4 := kp (HA HB4.out)
 have HB5 := kp (HA HB5.out)
 have HB6 := kp (HA HB6.out)
 have HB7 := kp (HA HB7.out)
 have HB8 := kp (HA HB8.out)
 clear HA
 obtain ⟨s0, s1, _, _⟩ := HB9.out.two
 have hb := hb.alloc (by rw [hz10]; omega) (.cells #[.string ⟨#[97]⟩, .string ⟨#[120]⟩] 9)
 have HB10 := kp (show Box (W9.alloc (.cells #[.string ⟨#[97]⟩, .string ⟨#[120]⟩] 9)) (w.heap.size + 10) 9 #[.string ⟨#[97]⟩, .string ⟨#[120]⟩] from Box.lay hz10)
 have HA : ∀ {g : Nat} {t : TypeId} {cs : Array Value}, Box W9 g t cs → Box (W9.alloc (.cells #[.string ⟨#[97]⟩, .string ⟨#[120]⟩] 9)) g t cs := fun h => h.alloc _
 have hz11 : (W9.alloc (.cells #[.string ⟨#[97]⟩, .string ⟨#[120]⟩] 9)).heap.size = w.heap.size + 11 := by simp [hz10]
 generalize hW10 : W9.alloc (.cells #[.string ⟨#[97]⟩, .string ⟨#[120]⟩] 9) = W10 at *
 have HB0 := kp (HA HB0.out)
 have HB1 := kp (HA HB1.out)
 have HB2 := kp (HA HB2.out)
 have HB3 := kp (HA HB3.out)
 have HB4 := kp (HA HB4.out)
 have HB5 := kp (HA HB5.out)
 have HB6 := kp (HA HB6.out)
 have HB7 := kp (HA HB7.out)
 have HB8 := kp (HA HB8.out)
 have HB9 := kp (HA HB9.out)
 clear HA
 have hb := hb.alloc (by rw [hz11]; omega) (.cells #[.int .i64 3] 2)
 have HB11 := kp (show Box (W10.alloc (.cells #[.int .i64 3] 2)) (w.heap.size + 11) 2 #[.int .i64 3] from Box.lay hz11)
 have HA : ∀ {g : Nat} {t : TypeId} {cs : Array Value}, Box W10 g t cs → Box (W10.alloc (.cells #[.int .i64 3] 2)) g t cs := fun h => h.alloc _
 have hz12 : (W10.alloc (.cells #[.int .i64 3] 2)).heap.size = w.heap.size + 12 := by simp [hz11]
 generalize hW11 : W10.alloc (.cells #[.int .i64 3] 2) = W11 at *
 have HB0 := kp (HA HB0.out)
 have HB1 := kp (HA HB1.out)
 have HB2 := kp (HA HB2.out)
 have HB3 := kp (HA HB3.out)
 have HB4 := kp (HA HB4.out)
 have HB5 := kp (HA HB5.out)
 have HB6 := kp (HA HB6.out)
 have HB7 := kp (HA HB7.out)
 have HB8 := kp (HA HB8.out)
 have HB9 := kp (HA HB9.out)
 have HB10 := kp (HA HB10.out)
 clear HA
 have hb := hb.alloc (by rw [hz12]; omega) (.cells #[.string ⟨#[98]⟩, .string ⟨#[121]⟩] 9)
 have HB12 := kp (show Box (W11.alloc (.cells #[.string ⟨#[98]⟩, .string ⟨#[121]⟩] 9)) (w.heap.size + 12) 9 #[.string ⟨#[98]⟩, .string ⟨#[121]⟩] from Box.lay hz12)
 have HA : ∀ {g : Nat} {t : TypeId} {cs : Array Value}, Box W11 g t cs → Box (W11.alloc (.cells #[.string ⟨#[98]⟩, .string ⟨#[121]⟩] 9)) g t cs := fun h => h.alloc _
 have hz13 : (W11.alloc (.cells #[.string ⟨#[98]⟩, .string ⟨#[121]⟩] 9)).heap.size = w.heap.size + 13 := by simp [hz12]
 generalize hW12 : W11.alloc (.cells #[.string ⟨#[98]⟩, .string ⟨#[121]⟩] 9) = W12 at *
 have HB0 := kp (HA HB0.out)
 have HB1 := kp (HA HB1.out)
 have HB2 := kp (HA HB2.out)
 have HB3 := kp (HA HB3.out)
 have HB4 := kp (HA HB4.out)
 have HB5 := kp (HA HB5.out)
 have HB6 := kp (HA HB6.out)
 have HB7 := kp (HA HB7.out)
 have HB8 := kp (HA HB8.out)
 have HB9 := kp (HA HB9.out)
 have HB10 := kp (HA HB10.out)
 have HB11 := kp (HA HB11.out)
 clear HA
 have hb := hb.alloc (by rw [hz13]; omega) (.cells #[.int .i64 (-4)] 2)
 have HB13 := kp (show Box (W12.alloc (.cells #[.int .i64 (-4)] 2)) (w.heap.size + 13) 2 #[.int .i64 (-4)] from Box.lay hz13)
 have HA : ∀ {g : Nat} {t : TypeId} {cs : Array Value}, Box W12 g t cs → Box (W12.alloc (.cells #[.int .i64 (-4)] 2)) g t cs := fun h => h.alloc _
 have hz14 : (W12.alloc (.cells #[.int .i64 (-4)] 2)).heap.size = w.heap.size + 14 := by simp [hz13]
 generalize hW13 : W12.alloc (.cells #[.int .i64 (-4)] 2) = W13 at *
 have HB0 := kp (HA HB0.out)
 have HB1 := kp (HA HB1.out)
 have HB2 := kp (HA HB2.out)
 have HB3 := kp (HA HB3.out)
 have HB4 := kp (HA HB4.out)
 have HB5 := kp (HA HB5.out)
 have HB6 := kp (HA HB6.out)
 have HB7 := kp (HA HB7.out)
 have HB8 := kp (HA HB8.out)
 have HB9 := kp (HA HB9.out)
 have HB10 := kp (HA HB10.out)
 have HB11 := kp (HA HB11.out)
 have HB12 := kp (HA HB12.out)
 clear HA
 have hb := hb.alloc (by rw [hz14]; omega) (.cells #[.string ⟨#[97]⟩, .string ⟨#[122]⟩] 9)
 have HB14 := kp (show Box (W13.alloc (.cells #[.string ⟨#[97]⟩, .string ⟨#[122]⟩] 9)) (w.heap.size + 14) 9 #[.string ⟨#[97]⟩, .string ⟨#[122]⟩] from Box.lay hz14)
 have HA : ∀ {g : Nat} {t : TypeId} {cs : Array Value}, Box W13 g t cs → Box (W13.alloc (.cells #[.string ⟨#[97]⟩, .string ⟨#[122]⟩] 9)) g t cs := fun h => h.alloc _
 have hz15 : (W13.alloc (.cells #[.string ⟨#[97]⟩, .string ⟨#[122]⟩] 9)).heap.size = w.heap.size + 15 := by simp [hz14]
 generalize hW14 : W13.alloc (.cells #[.string ⟨#[97]⟩, .string ⟨#[122]⟩] 9) = W14 at *
 have HB0 := kp (HA HB0.out)
 have HB1 := kp (HA HB1.out)
 have HB2 := kp (HA HB2.out)
 have HB3 := kp (HA HB3.out)
 have HB4 := kp (HA HB4.out)
 have HB5 := kp (HA HB5.out)
 have HB6 := kp (HA HB6.out)
 have HB7 := kp (HA HB7.out)
 have HB8 := kp (HA HB8.out)
 have HB9 := kp (HA HB9.out)
 have HB10 := kp (HA HB10.out)
 have HB11 := kp (HA HB11.out)
 have HB12 := kp (HA HB12.out)
 have HB13 := kp (HA HB13.out)
 clear HA
 have hb := hb.alloc (by rw [hz15]; omega) (.cells #[.int .i64 5] 2)
 have HB15 := kp (show Box (W14.alloc (.cells #[.int .i64 5] 2)) (w.heap.size + 15) 2 #[.int .i64 5] from Box.lay hz15)
 have HA : ∀ {g : Nat} {t : TypeId} {cs : Array Value}, Box W14 g t cs → Box (W14.alloc (.cells #[.int .i64 5] 2)) g t cs := fun h => h.alloc _
 have hz16 : (W14.alloc (.cells #[.int .i64 5] 2)).heap.size = w.heap.size + 16 := by simp [hz15]
 generalize hW15 : W14.alloc (.cells #[.int .i64 5] 2) = W15 at *
 have HB0 := kp (HA HB0.out)
 have HB1 := kp (HA HB1.out)
 have HB2 := kp (HA HB2.out)
 have HB3 := kp (HA HB3.out)
 have HB4 := kp (HA HB4.out)
 have HB5 := kp (HA HB5.out)
 have HB6 := kp (HA HB6.out)
 have HB7 := kp (HA HB7.out)
 have HB8 := kp (HA HB8.out)
 have HB9 := kp (HA HB9.out)
 have HB10 := kp (HA HB10.out)
 have HB11 := kp (HA HB11.out)
 have HB12 := kp (HA HB12.out)
 have HB13 := kp (HA HB13.out)
 have HB14 := kp (HA HB14.out)
 clear HA
 have hb := hb.alloc (by rw [hz16]; omega) (.cells #[.slice (some ⟨w.heap.size + 10, 0, none⟩) 2 2, .slice (some ⟨w.heap.size + 11, 0, none⟩) 1 1, .slice (some ⟨w.heap.size + 12, 0, none⟩) 2 2, .slice (some ⟨w.heap.size + 13, 0, none⟩) 1 1, .slice (some ⟨w.heap.size + 14, 0, none⟩) 2 2, .slice (some ⟨w.heap.size + 15, 0, none⟩) 1 1] 73)
 have HB16 := kp (show Box (W15.alloc (.cells #[.slice (some ⟨w.heap.size + 10, 0, none⟩) 2 2, .slice (some ⟨w.heap.size + 11, 0, none⟩) 1 1, .slice (some ⟨w.heap.size + 12, 0, none⟩) 2 2, .slice (some ⟨w.heap.size + 13, 0, none⟩) 1 1, .slice (some ⟨w.heap.size + 14, 0, none⟩) 2 2, .slice (some ⟨w.heap.size + 15, 0, none⟩) 1 1] 73)) (w.heap.size + 16) 73 #[.slice (some ⟨w.heap.size + 10, 0, none⟩) 2 2, .slice (some ⟨w.heap.size + 11, 0, none⟩) 1 1, .slice (some ⟨w.heap.size + 12, 0, none⟩) 2 2, .slice (some ⟨w.heap.size + 13, 0, none⟩) 1 1, .slice (some ⟨w.heap.size + 14, 0, none⟩) 2 2, .slice (some ⟨w.heap.size + 15, 0, none⟩) 1 1] from Box.lay hz16)
 have HA : ∀ {g : Nat} {t : TypeId} {cs : Array Value}, Box W15 g t cs → Box (W15.alloc (.cells #[.slice (some ⟨w.heap.size + 10, 0, none⟩) 2 2, .slice (some ⟨w.heap.size + 11, 0, none⟩) 1 1, .slice (some ⟨w.heap.size + 12, 0, none⟩) 2 2, .slice (some ⟨w.heap.size + 13, 0, none⟩) 1 1, .slice (some ⟨w.heap.size + 14, 0, none⟩) 2 2, .slice (some ⟨w.heap.size + 15, 0, none⟩) 1 1] 73)) g t cs := fun h => h.alloc _
 have hz17 : (W15.alloc (.cells #[.slice (some ⟨w.heap.size + 10, 0, none⟩) 2 2, .slice (some ⟨w.heap.size + 11, 0, none⟩) 1 1, .slice (some ⟨w.heap.size + 12, 0, none⟩) 2 2, .slice (some ⟨w.heap.size + 13, 0, none⟩) 1 1, .slice (some ⟨w.heap.size + 14, 0, none⟩) 2 2, .slice (some ⟨w.heap.size + 15, 0, none⟩) 1 1] 73)).heap.size = w.heap.size + 17 := by simp [hz16]
 generalize hW16 : W15.alloc (.cells #[.slice (some ⟨w.heap.size + 10, 0, none⟩) 2 2, .slice (some ⟨w.heap.size + 11, 0, none⟩) 1 1, .slice (some ⟨w.heap.size + 12, 0, none⟩) 2 2, .slice (some ⟨w.heap.size + 13, 0, none⟩) 1 1, .slice (some ⟨w.heap.size + 14, 0, none⟩) 2 2, .slice (some ⟨w.heap.size + 15, 0, none⟩) 1 1] 73) = W16 at *
 have HB0 := kp (HA HB0.out)
 have HB1 := kp (HA HB1.out)
 have HB2 := kp (HA HB2.out)
 have HB3 := kp (HA HB3.out)
 have HB4 := kp (HA HB4.out)
 have HB5 := kp (HA HB5.out)
 have HB6 := kp (HA HB6.out)
 have HB7 := kp (HA HB7.out)
 have HB8 := kp (HA HB8.out)
 have HB9 := kp (HA HB9.out)
 have HB10 := kp (HA HB10.out)
 have HB11 := kp (HA HB11.out)
 have HB12 := kp (HA HB12.out)
 have HB13 := kp (HA HB13.out)
 have HB14 := kp (HA HB14.out)
 have HB15 := kp (HA HB15.out)
 clear HA
 clear hz0
 have Hb := kp hb
 clear hb
 have HR := kp (show Box (setAll W16 w.heap.size 0 [.slice (some ⟨w.heap.size + 7, 0, none⟩) 2 2, .slice (some ⟨w.heap.size + 8, 0, none⟩) 1 1]) w.heap.size 25 #[.slice (some ⟨w.heap.size + 7, 0, none⟩) 2 2, .slice (some ⟨w.heap.size + 8, 0, none⟩) 1 1] from box_setAll0 HB0.out [.slice (some ⟨w.heap.size + 7, 0, none⟩) 2 2, .slice (some ⟨w.heap.size + 8, 0, none⟩) 1 1] rfl)
 have Hbf := kp (below_setAll (Nat.le_refl w.heap.size) [.slice (some ⟨w.heap.size + 7, 0, none⟩) 2 2, .slice (some ⟨w.heap.size + 8, 0, none⟩) 1 1] W16 0 Hb.out)
 have HF1 := kp (row_box (show Box (setAll W16 w.heap.size 0 [.slice (some ⟨w.heap.size + 7, 0, none⟩) 2 2, .slice (some ⟨w.heap.size + 8, 0, none⟩) 1 1]) (w.heap.size + 1) 9 #[.string ⟨#[97]⟩, .string ⟨#[98]⟩] from (setAll_other (by omega) _ _ _).trans HB1.out))
 have HF2 := kp (row_box (show Box (setAll W16 w.heap.size 0 [.slice (some ⟨w.heap.size + 7, 0, none⟩) 2 2, .slice (some ⟨w.heap.size + 8, 0, none⟩) 1 1]) (w.heap.size + 2) 63 #[.string ⟨#[116]⟩, .slice (some ⟨w.heap.size + 1, 0, none⟩) 2 2, .slice none 0 0] from (setAll_other (by omega) _ _ _).trans HB2.out))
 have HF3 := kp (row_box (show Box (setAll W16 w.heap.size 0 [.slice (some ⟨w.heap.size + 7, 0, none⟩) 2 2, .slice (some ⟨w.heap.size + 8, 0, none⟩) 1 1]) (w.heap.size + 3) 9 #[.string ⟨#[120]⟩, .string ⟨#[121]⟩, .string ⟨#[122]⟩] from (setAll_other (by omega) _ _ _).trans HB3.out))
 have HF4 := kp (row_box (show Box (setAll W16 w.heap.size 0 [.slice (some ⟨w.heap.size + 7, 0, none⟩) 2 2, .slice (some ⟨w.heap.size + 8, 0, none⟩) 1 1]) (w.heap.size + 4) 3 #[.int .i64 0, .int .i64 0, .int .i64 1] from (setAll_other (by omega) _ _ _).trans HB4.out))
 have HF5 := kp (row_box (show Box (setAll W16 w.heap.size 0 [.slice (some ⟨w.heap.size + 7, 0, none⟩) 2 2, .slice (some ⟨w.heap.size + 8, 0, none⟩) 1 1]) (w.heap.size + 5) 9 #[.string ⟨#[112]⟩, .string ⟨#[113]⟩] from (setAll_other (by omega) _ _ _).trans HB5.out))
 have HF6 := kp (row_box (show Box (setAll W16 w.heap.size 0 [.slice (some ⟨w.heap.size + 7, 0, none⟩) 2 2, .slice (some ⟨w.heap.size + 8, 0, none⟩) 1 1]) (w.heap.size + 6) 63 #[.string ⟨#[108, 111, 119]⟩, .slice (some ⟨w.heap.size + 3, 0, none⟩) 3 3, .slice (some ⟨w.heap.size + 4, 0, none⟩) 3 3, .string ⟨#[116, 111, 112]⟩, .slice (some ⟨w.heap.size + 5, 0, none⟩) 2 2, .slice none 0 0] from (setAll_other (by omega) _ _ _).trans HB6.out))
 have HF7 := kp (row_box (show Box (setAll W16 w.heap.size 0 [.slice (some ⟨w.heap.size + 7, 0, none⟩) 2 2, .slice (some ⟨w.heap.size + 8, 0, none⟩) 1 1]) (w.heap.size + 7) 61 #[.string ⟨#[100]⟩, .slice (some ⟨w.heap.size + 2, 0, none⟩) 1 1, .string ⟨#[101]⟩, .slice (some ⟨w.heap.size + 6, 0, none⟩) 2 2] from (setAll_other (by omega) _ _ _).trans HB7.out))
 have HF8 := kp (row_box (show Box (setAll W16 w.heap.size 0 [.slice (some ⟨w.heap.size + 7, 0, none⟩) 2 2, .slice (some ⟨w.heap.size + 8, 0, none⟩) 1 1]) (w.heap.size + 8) 9 #[.string ⟨#[109]⟩] from (setAll_other (by omega) _ _ _).trans HB8.out))
 have HF10 := kp (row_box (show Box (setAll W16 w.heap.size 0 [.slice (some ⟨w.heap.size + 7, 0, none⟩) 2 2, .slice (some ⟨w.heap.size + 8, 0, none⟩) 1 1]) (w.heap.size + 10) 9 #[.string ⟨#[97]⟩, .string ⟨#[120]⟩] from (setAll_other (by omega) _ _ _).trans HB10.out))
 have HF11 := kp (row_box (show Box (setAll W16 w.heap.size 0 [.slice (some ⟨w.heap.size + 7, 0, none⟩) 2 2, .slice (some ⟨w.heap.size + 8, 0, none⟩) 1 1]) (w.heap.size + 11) 2 #[.int .i64 3] from (setAll_other (by omega) _ _ _).trans HB11.out))
 have HF12 := kp (row_box (show Box (setAll W16 w.heap.size 0 [.slice (some ⟨w.heap.size + 7, 0, none⟩) 2 2, .slice (some ⟨w.heap.size + 8, 0, none⟩) 1 1]) (w.heap.size + 12) 9 #[.string ⟨#[98]⟩, .string ⟨#[121]⟩] from (setAll_other (by omega) _ _ _).trans HB12.out))
 have HF13 := kp (row_box (show Box (setAll W16 w.heap.size 0 [.slice (some ⟨w.heap.size + 7, 0, none⟩) 2 2, .slice (some ⟨w.heap.size + 8, 0, none⟩) 1 1]) (w.heap.size + 13) 2 #[.int .i64 (-4)] from (setAll_other (by omega) _ _ _).trans HB13.out))
 have HF14 := kp (row_box (show Box (setAll W16 w.heap.size 0 [.slice (some ⟨w.heap.size + 7, 0, none⟩) 2 2, .slice (some ⟨w.heap.size + 8, 0, none⟩) 1 1]) (w.heap.size + 14) 9 #[.string ⟨#[97]⟩, .string ⟨#[122]⟩] from (setAll_other (by omega) _ _ _).trans HB14.out))
 have HF15 := kp (row_box (show Box (setAll W16 w.heap.size 0 [.slice (some ⟨w.heap.size + 7, 0, none⟩) 2 2, .slice (some ⟨w.heap.size + 8, 0, none⟩) 1 1]) (w.heap.size + 15) 2 #[.int .i64 5] from (setAll_other (by omega) _ _ _).trans HB15.out))
 have HF16 := kp (row_box (show Box (setAll W16 w.heap.size 0 [.slice (some ⟨w.heap.size + 7, 0, none⟩) 2 2, .slice (some ⟨w.heap.size + 8, 0, none⟩) 1 1]) (w.heap.size + 16) 73 #[.slice (some ⟨w.heap.size + 10, 0, none⟩) 2 2, .slice (some ⟨w.heap.size + 11, 0, none⟩) 1 1, .slice (some ⟨w.heap.size + 12, 0, none⟩) 2 2, .slice (some ⟨w.heap.size + 13, 0, none⟩) 1 1, .slice (some ⟨w.heap.size + 14, 0, none⟩) 2 2, .slice (some ⟨w.heap.size + 15, 0, none⟩) 1 1] from (setAll_other (by omega) _ _ _).trans HB16.out))
 obtain ⟨u0, u1, g0, g1⟩ := HB0.out.two
 generalize hWr : setAll W16 w.heap.size 0 _ = Wr at *
 simp only [setAll, Nat.zero_add, Nat.reduceAdd] at hWr
 have HS := kp (show SchAt Wr Wr.heap.size (plainS w.heap.size) from by
  refine ⟨(show (2 : Nat) ≤ maxLen by decide), HF7.out, ?_, (show (1 : Nat) ≤ maxLen by decide), HF8.out, plain_sz1 _⟩
  intro d hd
  rcases List.mem_cons.1 hd with rfl | hd
  ·refine ⟨(show (1 : Nat) ≤ maxLen by decide), (show (1 : Nat) ≤ maxLen by decide), HF2.out, fun t ht => ?_⟩
   rcases List.mem_cons.1 ht with rfl | ht
   ·exact ⟨(show (1 : Nat) ≤ maxLen by decide), HF1.out, .inl rfl, (show (2 : Nat) ≤ maxLen by decide), (show (0 : Nat) ≤ maxLen by decide), plain_sz2 _ _⟩
   ·cases ht
  ·rcases List.mem_cons.1 hd with rfl | hd
   ·refine ⟨(show (1 : Nat) ≤ maxLen by decide), (show (2 : Nat) ≤ maxLen by decide), HF6.out, fun t ht => ?_⟩
    rcases List.mem_cons.1 ht with rfl | ht
    ·exact ⟨(show (3 : Nat) ≤ maxLen by decide), HF3.out, HF4.out, (show (3 : Nat) ≤ maxLen by decide), (show (3 : Nat) ≤ maxLen by decide), plain_sz3 _ _ _⟩
    ·rcases List.mem_cons.1 ht with rfl | ht
     ·exact ⟨(show (3 : Nat) ≤ maxLen by decide), HF5.out, .inl rfl, (show (2 : Nat) ≤ maxLen by decide), (show (0 : Nat) ≤ maxLen by decide), plain_sz2 _ _⟩
     ·cases ht
   ·cases hd)
 have HRw := kp (show RwsAt Wr Wr.heap.size (some ⟨w.heap.size + 16, 0, none⟩) (plainR w.heap.size) from by
  refine ⟨(show (3 : Nat) ≤ maxLen by decide), HF16.out, ?_⟩
  intro r hr
  rcases List.mem_cons.1 hr with rfl | hr
  ·exact ⟨(show (2 : Nat) ≤ maxLen by decide), HF10.out, plain_sz2 _ _, (show (1 : Nat) ≤ maxLen by decide), HF11.out, show ∀ n ∈ ([3] : List Int), (Lit.int .i64 n).wf = true from by decide +kernel⟩
  ·rcases List.mem_cons.1 hr with rfl | hr
   ·exact ⟨(show (2 : Nat) ≤ maxLen by decide), HF12.out, plain_sz2 _ _, (show (1 : Nat) ≤ maxLen by decide), HF13.out, show ∀ n ∈ ([-4] : List Int), (Lit.int .i64 n).wf = true from by decide +kernel⟩
   ·rcases List.mem_cons.1 hr with rfl | hr
    ·exact ⟨(show (2 : Nat) ≤ maxLen by decide), HF14.out, plain_sz2 _ _, (show (1 : Nat) ≤ maxLen by decide), HF15.out, show ∀ n ∈ ([5] : List Int), (Lit.int .i64 n).wf = true from by decide +kernel⟩
    ·cases hr)
 have Hfin := kp (HQ.out Wr HS.out HRw.out Hbf.out)
 obtain ⟨t0, t1, _, _⟩ := HR.out.two
 clear HB0 HB1 HB2 HB3 HB4 HB5 HB6 HB7 HB8 HB9 HB10 HB11 HB12 HB13 HB14 HB15 HB16 HF1 HF2 HF3 HF4 HF5 HF6 HF7 HF8 HF10 HF11 HF12 HF13 HF14 HF15 HF16 HS HRw HQ Hb Hbf HR
 go_enter Tryz.func19, Tryz.ntmps19
 go_wp2_with fail
 refine bodyPost_ret (v := .tuple #[.agg #[.slice (some ⟨w.heap.size + 7, 0, none⟩) 2 2, .slice (some ⟨w.heap.size + 8, 0, none⟩) 1 1], .slice (some ⟨w.heap.size + 16, 0, none⟩) 3 3]) ?_ rfl Hfin.out
 simp [results, Tryz.results19, go_sem, t0, t1]
end Go.Proofs.YthmbgbmcdbdecaaGreat.Tc
