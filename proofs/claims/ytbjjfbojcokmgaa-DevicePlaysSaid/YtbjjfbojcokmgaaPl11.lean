/- Layer 7: an act done by both, whatever its kind. -/
import Derived.Test.YtbjjfbojcokmgaaPl10
namespace Go.Proofs.Ytbjjfbojcokmgaa.Dv
open Go.RowKit Base
set_option linter.unusedVariables false
set_option linter.unusedSimpArgs false

def actD (s : Dv) (a : Ac) : Dv :=
  if a.kind = 1 then (readR s a.at_).1
  else if a.kind = 2 then (writeR s a.at_ (if a.raw = true then a.data else full a.data)).1
  else if a.kind = 3 then (syncR s).1
  else if a.kind = 4 then (fuseR s a.at_).1
  else if a.kind = 5 then cutD s a.keep a.torn a.at_
  else bootD s
/-- how much a call may add -/
def Less (s t : Dv) : Prop := t.sec.length = s.sec.length ∧ t.reads ≤ s.reads + 1 ∧ t.steps ≤ s.steps + 1 ∧ t.puts.length ≤ s.puts.length + 1
theorem less_step (s : Dv) : Less s (stepD s) := by
  unfold stepD
  split
  · exact ⟨rfl, Nat.le_succ _, Nat.le_succ _, Nat.le_succ _⟩
  · exact ⟨rfl, Nat.le_succ _, Nat.le_refl _, Nat.le_succ _⟩
theorem less_refl (s : Dv) : Less s s := ⟨rfl, Nat.le_succ _, Nat.le_succ _, Nat.le_succ _⟩
theorem less_act (s : Dv) (a : Ac) : Less s (actD s a) := by
  unfold actD
  split
  · unfold readR
    split
    · exact ⟨rfl, Nat.le_refl _, Nat.le_succ _, Nat.le_succ _⟩
    · exact less_refl s
  · split
    · generalize (if a.raw = true then a.data else full a.data) = x
      unfold writeR
      split
      · split
        · split
          · exact less_step s
          · have := less_step s
            refine ⟨this.1, this.2.1, this.2.2.1, ?_⟩
            show (s.puts ++ [_]).length ≤ _
            simp
        · exact less_refl s
      · exact less_refl s
    · split
      · unfold syncR
        split
        · exact less_refl s
        · split
          · exact less_step s
          · have := less_step s
            exact ⟨layAll_len _ _, this.2.1, this.2.2.1, Nat.zero_le _⟩
      · split
        · unfold fuseR
          split
          · exact less_refl s
          · split
            · exact less_refl s
            · exact ⟨rfl, Nat.le_succ _, Nat.le_succ _, Nat.le_succ _⟩
        · split
          · exact ⟨cutTo_len _ _ _ _ _ _, Nat.le_succ _, Nat.le_succ _, Nat.zero_le _⟩
          · exact ⟨rfl, Nat.le_succ _, Nat.le_succ _, Nat.zero_le _⟩
theorem does_any {w : World} {B : Nat} {F X : Nat → Prop} {d gs c : Nat} {pv v : Value} {s : Dv} (h : Calm w B F X d gs c pv v s) (a : Ac) (hda : a.data.size ≤ 10000) (hkl : a.keep.length ≤ 10000) (hat : a.at_ ≤ 9223372036854775807) (hkr : Row w B a.A (a.keep.map (Value.int .i64))) :
    Calls Try.prog 16 #[.pointer (some ⟨d, 0, none⟩), v, .agg #[.int .i64 a.kind, .int .i64 a.at_, .int .i64 a.torn, .string a.data, .bool a.raw, .slice a.A a.keep.length a.c]] w (Does B F X d gs c (actD s a) w) := by
  unfold actD
  by_cases h1 : a.kind = 1
  · rw [if_pos h1, h1]
    exact does_read h 0 a.at_ a.torn a.data a.raw a.A a.keep a.c
  · rw [if_neg h1]
    by_cases h2 : a.kind = 2
    · rw [if_pos h2, h2]
      by_cases hr : a.raw = true
      · rw [if_pos hr, hr]
        exact does_wraw h 0 a.at_ a.torn a.data true a.A a.keep a.c hda
      · rw [if_neg hr, show a.raw = false by simpa using hr]
        exact does_wfull h 0 a.at_ a.torn a.data true a.A a.keep a.c hda
    · rw [if_neg h2]
      by_cases h3 : a.kind = 3
      · rw [if_pos h3, h3]
        exact does_sync h 0 a.at_ a.torn a.data a.raw a.A a.keep a.c
      · rw [if_neg h3]
        by_cases h4 : a.kind = 4
        · rw [if_pos h4, h4]
          exact does_fuse h 0 a.at_ a.torn a.data a.raw a.A a.keep a.c hat
        · rw [if_neg h4]
          by_cases h5 : a.kind = 5
          · rw [if_pos h5, h5]
            exact does_cut h 0 a.at_ a.torn a.data a.raw a.A a.keep a.c hkl hkr
          · rw [if_neg h5]
            exact does_boot h a.kind a.at_ a.torn a.data a.raw a.A a.keep a.c h1 h2 h3 h4 h5
/-- the same, spelled out -/
def DoesX (B : Nat) (F X : Nat → Prop) (d gs c n : Nat) (s : Dv) (w : World) (e : Ending) (w' : World) : Prop := ∃ F' pv A A' k k', e = .returned (.tuple #[.agg #[.slice A n k, .slice A' s.puts.length k', .bool s.off, .int .i64 s.fuse, .int .i64 s.reads, .int .i64 s.steps], .bool true]) ∧ DevAt w' B F' d gs c pv s ∧ Free w' (FX F' X) A (s.sec.map .string) ∧ Free w' (FX F' X) A' (putV s.puts) ∧ Turn F w w' ∧ ∀ k, F' k → F k ∨ w.heap.size ≤ k
theorem does_x {w : World} {B : Nat} {F X : Nat → Prop} {d gs c n : Nat} {A A' : Option Addr} {k k' : Nat} {pv : Value} {s : Dv} (hdv : DevAt w B F d gs c pv s) (hn : s.sec.length = n) (h1 : Free w (FX F X) A (s.sec.map .string)) (h2 : Free w (FX F X) A' (putV s.puts)) (hX : ∀ k, X k → k < w.heap.size) (l1 : s.reads < 1000000) (l2 : s.steps < 1000000) (l3 : s.puts.length < 1000000) (a : Ac) (hda : a.data.size ≤ 10000) (hkl : a.keep.length ≤ 10000) (hat : a.at_ ≤ 9223372036854775807) (hkr : Row w B a.A (a.keep.map (Value.int .i64))) :
    Calls Try.prog 16 #[.pointer (some ⟨d, 0, none⟩), .agg #[.slice A n k, .slice A' s.puts.length k', .bool s.off, .int .i64 s.fuse, .int .i64 s.reads, .int .i64 s.steps], .agg #[.int .i64 a.kind, .int .i64 a.at_, .int .i64 a.torn, .string a.data, .bool a.raw, .slice a.A a.keep.length a.c]] w (DoesX B F X d gs c n (actD s a) w) := by
  subst hn
  refine (does_any (v := qv A A' k k' s) ⟨hdv, ⟨A, A', k, k', rfl, h1, h2⟩, hX, l1, l2, l3⟩ a hda hkl hat hkr).mono ?_
  rintro e w' ⟨v, F', pv', rfl, hd, ⟨A1, A1', c1, c1', rfl, f1, f2⟩, ht, hF⟩
  refine ⟨F', pv', A1, A1', c1, c1', ?_, hd, f1, f2, ht, hF⟩
  unfold qv
  rw [(less_act s a).1]

end Go.Proofs.Ytbjjfbojcokmgaa.Dv
