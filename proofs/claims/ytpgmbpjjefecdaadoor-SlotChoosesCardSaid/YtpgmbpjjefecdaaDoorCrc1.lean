/- The contracts of package crc (layer 2), first part: four bits, the table. -/
import Derived.Test.YtpgmbpjjefecdaaDoorCrcP
import Derived.Test.YtpgmbpjjefecdaaDoorOpen
import Derived.Laws.BitsAllLaws
import Derived.WalkLawsBesides
namespace Go.Proofs.YtpgmbpjjefecdaaDoor.Crc
open Go.RowKit Base
set_option linter.unusedVariables false

theorem below_setRow {B : Nat} {a w : World} {g : Nat} {cs : Array Value} (h : Below B a w) (hg : B ≤ g) : Below B a (w.setRow g cs) :=
  h.trans ⟨rfl, rfl, rfl, by simp, fun k hk => setRow_other w g k cs (by omega)⟩
theorem and1 (x : Nat) (hx : x < 4294967296) : bits .and .u32 (x : Int) 1 = ((x % 2 : Nat) : Int) := by
  have := u32_and_nat x 1 hx (by decide)
  rw [nat_mask1] at this
  exact this
theorem and15 (x : Nat) (hx : x < 4294967296) : bits .and .u32 (x : Int) 15 = ((x % 16 : Nat) : Int) := by
  have := u32_and_nat x 15 hx (by decide)
  rw [nat_mask4] at this
  exact this
theorem xorp (x : Nat) (hx : x < 4294967296) : bits .xor .u32 (x : Int) 2197175160 = ((x ^^^ poly : Nat) : Int) := u32_xor_nat x poly hx (by decide)

set_option maxHeartbeats 400000 in
theorem half_any (n : Nat) (w : World) (hn : n < 4294967296) :
    Calls Tryd.prog 109 #[.int .u32 n] w fun e w' => e = .returned (.int .u32 (steps 4 n : Nat)) ∧ w = w' := by
  go_enter Tryd.func109, Tryd.ntmps109
  go_wp2
  go_loop [0, 4] (fun v i => ∃ (k : Nat), k ≤ 4 ∧ i = .int .i64 k ∧ v = .int .u32 (steps k n : Nat)) (fun _ i => 4 - (intOf i).toNat)
  case atStart => exact ⟨0, by omega, rfl, rfl⟩
  case round =>
    obtain ⟨k, hk, rfl, rfl⟩ := hrel
    have hs : steps (k + 1) n = step (steps k n) := steps_add k 1 n
    have hlt := steps_lt k hn
    have Hs := Lib.hid hs
    clear hs
    generalize hx : steps k n = x at *
    have Hx := Lib.hid hx
    clear hx
    by_cases hlt4 : k < 4
    · rcases Nat.mod_two_eq_zero_or_one x with h2 | h2
      · have ha : bits .and .u32 (x : Int) 1 = 0 := by rw [and1 x hlt, h2]; rfl
        have H2 := Lib.hid h2
        clear h2
        go_wp2
        refine ⟨⟨k + 1, by omega, by go_num, ?_⟩, by simp [intOf]; omega⟩
        rw [Hs.out]
        unfold step
        rw [H2.out]
        simp
      · have ha : bits .and .u32 (x : Int) 1 = 1 := by rw [and1 x hlt, h2]; rfl
        have H2 := Lib.hid h2
        clear h2
        go_wp2
        refine ⟨⟨k + 1, by omega, by go_num, ?_⟩, by simp [intOf]; omega⟩
        rw [Hs.out]
        unfold step
        rw [H2.out, Nat.one_mul]
        have := xorp (x / 2) (by omega)
        rw [Int.natCast_ediv] at this
        exact congrArg (Value.int IntKind.u32) this
    · go_wp2
      go_ret
      have h4 : k = 4 := by omega
      have := Hx.out
      rw [h4] at this
      rw [this]
      exact ⟨rfl, rfl⟩

/-- the table, its first k entries filled -/
def tabA (k : Nat) : Array Value := Array.ofFn (n := 16) fun i => .int .u32 (if i.val < k then (steps 4 i.val : Nat) else 0 : Int)
def tab : Array Value := Array.ofFn (n := 16) fun i => .int .u32 (steps 4 i.val : Nat)
theorem tabA_full : tabA 16 = tab := by
  unfold tabA tab
  congr 1
  funext i
  rw [if_pos i.isLt]
theorem tabA_at {k : Nat} (hk : k < 16) : (tabA k)[k]? = some (.int .u32 0) := by
  unfold tabA
  rw [Array.getElem?_ofFn]
  simp [hk]
theorem tabA_set {k : Nat} (hk : k < 16) : (tabA k).setIfInBounds k (.int .u32 (steps 4 k : Nat)) = tabA (k + 1) := by
  apply Array.ext
  · simp [tabA]
  · intro i h1 h2
    simp only [tabA, Array.size_setIfInBounds, Array.size_ofFn] at h1 h2
    rw [Array.getElem_setIfInBounds (by simp [tabA]; omega)]
    simp only [tabA, Array.getElem_ofFn]
    by_cases h : k = i
    · subst h; simp
    · rw [if_neg h]
      by_cases h' : i < k
      · simp [h', Nat.lt_succ_of_lt h']
      · have : ¬ i < k + 1 := by omega
        simp [h', this]
theorem tab_size : tab.size = 16 := by simp [tab]
theorem tab_at {k : Nat} (hk : k < 16) : tab[k]? = some (.int .u32 (steps 4 k : Nat)) := by
  unfold tab
  rw [Array.getElem?_ofFn]
  simp [hk]
theorem tab_cells : tab.all (·.oneCell') = true := by
  rw [Array.all_eq_true]
  intro i hi
  simp only [tab, Array.getElem_ofFn]
  rfl

set_option maxHeartbeats 400000 in
theorem table_any (w : World) :
    Calls Tryd.prog 100 #[] w fun e w' => e = .returned (.agg tab) ∧ Below w.heap.size w w' := by
  go_enter Tryd.func100, Tryd.ntmps100
  go_wp2
  go_loopw [3] (fun i wr => ∃ (k : Nat), k ≤ 16 ∧ i = .int .i64 k ∧ Box wr w.heap.size 129 (tabA 0) ∧ Box wr (w.heap.size + 1) 129 (tabA k) ∧ Below w.heap.size w wr) (fun i _ => 16 - (intOf i).toNat)
  case atStart => exact ⟨0, by omega, rfl, (Box.lay rfl).alloc _, Box.lay (by simp), (by repeat (first | exact Below.refl _ _ | assumption | refine Below.drew ?_ | (refine Below.alloc ?_ (by simp <;> omega) _) | (refine Below.setCell ?_ (by simp <;> omega) _)))⟩
  case round =>
    obtain ⟨k, hk, rfl, hb0, hb1, hbe⟩ := hrel
    by_cases hlt : k < 16
    · have hc := (hb1.cell k).trans (tabA_at hlt)
      have hf := hb1.free k
      have Hset := Lib.hid (tabA_set hlt)
      go_wp2_with fail
      refine (half_any k _ (by omega)).mono ?_
      rintro e w' ⟨rfl, rfl⟩
      generalize steps 4 k = x at *
      go_wp2_with fail
      go_roundw
      case rel => exact ⟨k + 1, by omega, by go_num, hb0.far (by simp) _, by rw [← Hset.out]; exact hb1.set k _, hbe.setCell (by simp) _⟩
      case measure => simp [intOf]; omega
    · obtain rfl : k = 16 := by omega
      rw [tabA_full] at hb1
      clear hk hlt
      go_wp2_with (first
        | (refine wpList_load_row rfl 129 (.tmp 1) rfl (w.heap.size + 1) rfl 129 tab (0, 0) _ hb1 Tryd.underlying129 rfl ?c1 ?_)
        | (refine wpList_store_row rfl 129 (.tmp 0) (.tmp 12) rfl w.heap.size tab rfl rfl 129 (tabA 0) hb0 ?d1 ?d2 tab_cells ?_))
      case c1 => rw [tab_size]; kernel_rfl
      case d1 => rw [tab_size]; kernel_rfl
      case d2 => rw [tab_size]; simp [tabA]
      refine bodyPost_ret (results_cell_row (p := 0) (ty := 129) rfl _ _ w.heap.size 129 tab (0, 0) _ rfl (setRow_heap _ _ _ _ _ _ hb0) Tryd.underlying129 rfl (by rw [tab_size]; kernel_rfl)) rfl ⟨rfl, below_setRow hbe (Nat.le_refl _)⟩

end Go.Proofs.YtpgmbpjjefecdaaDoor.Crc
