/- The walk of CrcBurst: it returns true and writes nothing that was there. -/
import Derived.Test.YtlmgmojicpdbeaaCrcBurstP
import Derived.Test.YtlmgmojicpdbeaaCrc6
import Derived.RegionTactic
import Derived.BigRegion
namespace Go.Proofs.Ytlmgmojicpdbeaa.crcBurst
open Go.RowKit Base Crc
set_option linter.unusedVariables false

/-- the block's first cells are these bytes, none of them shut -/
def Bys (w : World) (g : Nat) (l : List UInt8) : Prop := ∀ j (hj : j < l.length), w.cell? ⟨g, j, none⟩ = some (.int .u8 (l[j].toNat : Int)) ∧ w.frozen? ⟨g, j, none⟩ = false
theorem Bys.set {w : World} {g : Nat} {l : List UInt8} (h : Bys w g l) (j : Nat) (b : UInt8) (hj : j < l.length) : Bys (w.setCell ⟨g, j, none⟩ (.int .u8 (b.toNat : Int))) g (l.set j b) := by
  intro i hi
  rw [List.length_set] at hi
  refine ⟨?_, by rw [World.frozen?_setCell]; exact (h i hi).2⟩
  by_cases e : i = j
  · subst e
    rw [World.cell?_setCell_same _ _ _ (h i hj).1]
    simp
  · rw [World.cell?_setCell_other _ _ _ _ (by intro hh; injection hh with _ h2 _; exact e h2.symm), (h i hi).1]
    rw [List.getElem_set_ne (fun hh => e hh.symm)]
theorem Bys.new (w : World) (s : ByteArray) (cap : Nat) (t : TypeId) : Bys (w.alloc (.cells (bytesRow s cap) t ((bytesRow s cap).size, (bytesRow s cap).size + 1))) w.heap.size s.data.toList := by
  intro j hj
  have hj' : j < s.size := by simpa using hj
  have hb : (bytesRow s cap)[j]? = some (.int .u8 ((s.data.toList[j]).toNat : Int)) := by
    unfold bytesRow
    rw [Array.getElem?_append_left (by simpa using hj')]
    simp [hj']
  refine ⟨by rw [World.cell?_alloc_mark, hb], ?_⟩
  have hlt : j < (bytesRow s cap).size := by
    by_cases h : j < (bytesRow s cap).size
    · exact h
    · rw [Array.getElem?_eq_none (by omega)] at hb; cases hb
  have hh : (w.alloc (.cells (bytesRow s cap) t ((bytesRow s cap).size, (bytesRow s cap).size + 1))).heap[w.heap.size]? = some (.cells (bytesRow s cap) t ((bytesRow s cap).size, (bytesRow s cap).size + 1)) := heap_alloc_new w _
  unfold World.frozen?
  rw [hh]
  simp
  omega

theorem byt_xor (b : UInt8) {r : Nat} (hr : r < 8) : (byt (b.toNat ^^^ 2 ^ r)).toNat = b.toNat ^^^ 2 ^ r := by
  rw [byt_toNat]
  refine Nat.mod_eq_of_lt (Nat.xor_lt_two_pow (n := 8) (byte_lt b) (Nat.pow_lt_pow_right (by decide) hr))
theorem xor_byte (b : UInt8) (r : Nat) (hr : r < 8) : bits .xor .u8 (b.toNat : Int) ((2 : Int) ^ r % 256) = ((byt (b.toNat ^^^ 2 ^ r)).toNat : Int) := by
  have hp : 2 ^ r < 256 := Nat.pow_lt_pow_right (n := 8) (by decide) hr
  have e : (2 : Int) ^ r % 256 = ((2 ^ r : Nat) : Int) := by
    have h2 : (2 : Int) ^ r = ((2 ^ r : Nat) : Int) := by simp
    rw [h2]
    generalize 2 ^ r = P at *
    omega
  rw [e, byt_xor b hr]
  exact u8_xor_nat _ _ (byte_lt b) hp
theorem and_bit (n k : Nat) (hn : n < 4294967296) : bits .and .u32 ((n : Int) / 2 ^ k) 1 = ((n / 2 ^ k % 2 : Nat) : Int) := by
  have := and1 (n / 2 ^ k) (Nat.lt_of_le_of_lt (Nat.div_le_self _ _) hn)
  rw [Int.natCast_ediv] at this
  rw [← this]
  simp
theorem mod_next (n k : Nat) : n % 2 ^ (k + 1) = n % 2 ^ k ^^^ (n / 2 ^ k % 2) * 2 ^ k := by
  rw [Nat.pow_succ, Nat.mod_mul]
  have h := Nat.two_pow_add_eq_or_of_lt (i := k) (b := n % 2 ^ k) (Nat.mod_lt _ (Nat.two_pow_pos k)) (n / 2 ^ k % 2)
  rw [Nat.add_comm, h]
  apply Nat.eq_of_testBit_eq
  intro i
  rw [Nat.testBit_xor, Nat.testBit_or, Nat.mul_comm (n / 2 ^ k % 2), Nat.testBit_two_pow_mul]
  by_cases hi : k ≤ i
  · have : (n % 2 ^ k).testBit i = false := Nat.testBit_lt_two_pow (Nat.lt_of_lt_of_le (Nat.mod_lt _ (Nat.two_pow_pos k)) (Nat.pow_le_pow_right (n := 2) (by decide) hi))
    simp [hi, this]
  · simp [hi]

set_option maxHeartbeats 1000000 in
theorem go (s : ByteArray) (at_ turn : Nat) (w : World) (hs : s.size ≤ 1000) (hat : at_ + 32 ≤ 8 * (closed s.data.toList).length) (ht : turn < 4294967296) (h0 : turn ≠ 0) :
    Calls Try.prog 11 #[.string s, .int .i64 at_, .int .u32 turn] w fun e w' => e = .returned (.bool true) ∧ Below w.heap.size w w' := by
  have hm : s.size ≤ 140737488355328 := by omega
  have hcl : (closed s.data.toList).length = s.size + 4 := by simp [closed, tail4]
  have hsz : (str (closed s.data.toList)).size = s.size + 4 := hcl
  have hconv := fun W => run_bytes_of_string (P := Try.prog) W 9 67 5 (str (closed s.data.toList)) Try.underlying9 Try.underlying67 Try.underlying5
  rw [hsz] at hconv
  have Hconv := Lib.hid hconv
  have Hcl := Lib.hid hcl
  rw [hcl] at hat
  clear hconv hsz hcl
  have b1 : decide ((s.size : Int) + 4 < 4) = false := by simp; omega
  have b2 : decide ((at_ : Int) < 0) = false := by simp
  have b3 : decide (8 * ((s.size : Int) + 4) - 32 < at_) = false := by simp; omega
  have h0' : ((turn : Int) == 0) = false := by simpa using h0
  go_enter Try.func11, Try.ntmps11
  go_wp2_with fail
  refine (close_any s _ hm).mono ?_
  rintro e w1 ⟨rfl, hb1⟩
  have hconv := Hconv.out
  have hnew := Bys.new w1.drew (str (closed s.data.toList)) (grownCap w1 (s.size + 4) 0 5) 5
  rw [str_list] at hnew
  have Hnew := Lib.hid hnew
  clear hnew
  go_wp2_with fail
  have hbe : Below w.heap.size w (w1.alloc (.cells (bytesRow (str (closed s.data.toList)) (grownCap w1 (s.size + 4) 0 5)) 5 ((bytesRow (str (closed s.data.toList)) (grownCap w1 (s.size + 4) 0 5)).size, (bytesRow (str (closed s.data.toList)) (grownCap w1 (s.size + 4) 0 5)).size + 1))).drew := (hb1.alloc hb1.size _).drew
  generalize grownCap w1 (s.size + 4) 0 5 = cap at *
  clear hconv Hconv
  go_loopw [38] (fun i wr => ∃ (k : Nat) (m : List UInt8), k ≤ 32 ∧ i = .int .i64 k ∧ m.length = s.size + 4 ∧ val m = val (closed s.data.toList) ^^^ (turn % 2 ^ k) * 2 ^ at_ ∧ Bys wr w1.heap.size m ∧ Below w.heap.size w wr) (fun i _ => 32 - (intOf i).toNat)
  case atStart => exact ⟨0, closed s.data.toList, by omega, rfl, Hcl.out, by simp [Nat.mod_one], Hnew.out, hbe⟩
  case round =>
    clear hbe Hnew
    obtain ⟨k, m, hk, rfl, hlen, hv, hby, hbe⟩ := hrel
    have Hlen := Lib.hid hlen
    have Hv := Lib.hid hv
    clear hlen hv
    by_cases hk32 : k < 32
    · rcases Nat.mod_two_eq_zero_or_one (turn / 2 ^ k) with hb | hb
      · have ha : bits .and .u32 ((turn : Int) / 2 ^ k) 1 = 0 := by rw [and_bit turn k ht, hb]; rfl
        have Hb := Lib.hid hb
        clear hb
        go_wp2
        refine ⟨⟨k + 1, m, by omega, by go_num, Hlen.out, ?_, hby, hbe⟩, by simp [intOf]; omega⟩
        rw [Hv.out, mod_next, Hb.out]
        simp
      · have ha : bits .and .u32 ((turn : Int) / 2 ^ k) 1 = 1 := by rw [and_bit turn k ht, hb]; rfl
        have Hb := Lib.hid hb
        have hj : (at_ + k) / 8 < m.length := by have := Hlen.out; omega
        obtain ⟨c1, c2⟩ := hby ((at_ + k) / 8) hj
        have hj1 : ((at_ : Int) + k) / 8 < (s.size : Int) + 4 := by omega
        have hj0 : (0 : Int) ≤ ((at_ : Int) + k) / 8 := by omega
        clear hb
        go_wp2
        go_region
        go_wp2
        refine ⟨⟨k + 1, m.set ((at_ + k) / 8) (byt ((m[(at_ + k) / 8]'hj).toNat ^^^ 2 ^ ((at_ + k) % 8))), by omega, by go_num, by rw [List.length_set]; exact Hlen.out, ?_, ?_, ?_⟩, by simp [intOf]; omega⟩
        · rw [val_set m _ (2 ^ ((at_ + k) % 8)) _ hj (byt_xor _ (Nat.mod_lt _ (by decide))), Hv.out, mod_next, Hb.out, Nat.one_mul, xor_mul, ← Nat.pow_add, ← Nat.pow_add, Nat.xor_assoc]
          rw [show (at_ + k) % 8 + 8 * ((at_ + k) / 8) = k + at_ by omega]
        · rw [xor_byte _ _ (Nat.mod_lt _ (by decide))]
          exact hby.set _ _ hj
        · exact (hbe.setCell (p := ⟨w1.heap.size, (at_ + k) / 8, none⟩) hb1.size _).drew
    · have h32 : k = 32 := by omega
      rw [h32] at Hv
      have hv := Hv.out
      rw [Nat.mod_eq_of_lt (by omega)] at hv
      have hlen2 : m.length = (closed s.data.toList).length := by rw [Hlen.out, Hcl.out]
      have hno := burst s.data.toList m at_ turn hlen2 (by rw [Hlen.out]; omega) ht h0 hv
      have hback := run_convert_bytes_back (P := Try.prog) wr 67 9 5 ⟨w1.heap.size, 0, none⟩ cap m Try.underlying67 Try.underlying5 Try.underlying9 (fun j hj => by rw [add_at, Nat.zero_add]; exact (hby j hj).1)
      rw [Hlen.out] at hback
      have ho := fun w => open_any (str m) w (by rw [str_size, Hlen.out]; omega)
      rw [str_list, opened, hno, if_neg (by simp)] at ho
      have Ho := Lib.hid ho
      have hback' : (convert 67 9 (.slice (some ⟨w1.heap.size, 0, none⟩) (s.size + 4) cap)).run Try.prog wr = .ok (.string (str m)) wr := hback
      clear ho hno hback hv Hv hlen2 h32
      generalize str m = M at *
      go_wp2_with fail
      refine (Ho.out _).mono ?_
      rintro e w2 ⟨rfl, hb2⟩
      go_wp2_with fail
      refine (awake_any _).mono ?_
      rintro e w3 ⟨rfl, hb3⟩
      go_wp2_with fail
      go_ret
      have k2 := hbe.trans (hb2.mono hbe.size)
      exact ⟨rfl, k2.trans (hb3.mono k2.size)⟩

theorem nat_of {a : Int} (h : (Lit.int .u32 a).wf = true) : ∃ n : Nat, a = n ∧ n < 4294967296 := by
  have := bounds_u32 h
  exact ⟨a.toNat, by omega, by omega⟩

set_option maxHeartbeats 1000000 in
theorem walk (s0 : ByteArray) (a1 a2 : Int) (w : World) (w0 : s0.size ≤ maxLen) (w1 : (Lit.int .i64 a1).wf = true) (w2 : (Lit.int .u32 a2).wf = true) :
    Calls Try.prog 11 #[.string s0, .int .i64 a1, .int .u32 a2] w fun e w' => e = .returned (.bool true) ∧ Below w.heap.size w w' := by
  obtain ⟨turn, rfl, ht⟩ := nat_of w2
  have hb := bounds_i64 w1
  unfold maxLen at w0
  clear w1 w2
  by_cases hl : (1000 : Int) < s0.size
  · go_enter Try.func11, Try.ntmps11
    go_wp2_with fail
    refine (awake_any _).mono ?_
    rintro e w1 ⟨rfl, hb⟩
    go_wp2_with fail
    go_ret
    exact ⟨rfl, hb⟩
  · have hcl : (closed s0.data.toList).length = s0.size + 4 := by simp [closed, tail4]
    by_cases hg : 0 ≤ a1 ∧ a1 ≤ 8 * ((s0.size : Int) + 4) - 32 ∧ turn ≠ 0
    · obtain ⟨h1, h2, h3⟩ := hg
      obtain ⟨n, rfl⟩ := Int.eq_ofNat_of_zero_le h1
      exact go s0 n turn w (by omega) (by rw [hcl]; omega) ht h3
    · have hm : s0.size ≤ 140737488355328 := by omega
      have hsz : (str (closed s0.data.toList)).size = s0.size + 4 := hcl
      have hconv := fun W => run_bytes_of_string (P := Try.prog) W 9 67 5 (str (closed s0.data.toList)) Try.underlying9 Try.underlying67 Try.underlying5
      rw [hsz] at hconv
      have Hconv := Lib.hid hconv
      clear hconv hsz hcl
      have b1 : decide ((s0.size : Int) + 4 < 4) = false := by simp; omega
      have hg' : a1 < 0 ∨ (¬ a1 < 0 ∧ 8 * ((s0.size : Int) + 4) - 32 < a1) ∨ (¬ a1 < 0 ∧ ¬ 8 * ((s0.size : Int) + 4) - 32 < a1 ∧ ((turn : Int) == 0) = true) := by
        by_cases h1 : a1 < 0
        · exact .inl h1
        · by_cases h2 : 8 * ((s0.size : Int) + 4) - 32 < a1
          · exact .inr (.inl ⟨h1, h2⟩)
          · refine .inr (.inr ⟨h1, h2, ?_⟩)
            have : turn = 0 := by
              by_cases h3 : turn = 0
              · exact h3
              · exact absurd ⟨by omega, by omega, h3⟩ hg
            simp [this]
      clear hg
      rcases hg' with h1 | ⟨h1, h2⟩ | ⟨h1, h2, h3⟩
      all_goals
        go_enter Try.func11, Try.ntmps11
        go_wp2_with fail
        refine (close_any s0 _ hm).mono ?_
        rintro e w1 ⟨rfl, hb1⟩
        have hconv := Hconv.out
        go_wp2_with fail
        refine (awake_any _).mono ?_
        rintro e w2 ⟨rfl, hb2⟩
        go_wp2_with fail
        go_ret
        exact ⟨rfl, ((hb1.alloc hb1.size _).drew).trans (hb2.mono (by have := hb1.size; simp; omega))⟩

end Go.Proofs.Ytlmgmojicpdbeaa.crcBurst
