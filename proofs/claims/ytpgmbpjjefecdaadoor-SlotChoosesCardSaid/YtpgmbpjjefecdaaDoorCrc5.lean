/- The contracts of package crc and of its reference (layer 2), fifth part: texts opened. -/
import Derived.Test.YtpgmbpjjefecdaaDoorCrc4
import Derived.Deep.RegionHeld3
import Derived.Deep.QuietTactic
import Derived.BigQuiet
namespace Go.Proofs.YtpgmbpjjefecdaaDoor.Crc
open Go.RowKit Base
set_option linter.unusedVariables false

/-- the last four bytes, and what is ahead of them -/
def front (l : List UInt8) : List UInt8 := l.take (l.length - 4)
def back (l : List UInt8) : List UInt8 := l.drop (l.length - 4)
/-- a text that is closed -/
def isClosed (l : List UInt8) : Bool := decide (4 ≤ l.length) && (tail4 (more 0 (front l)) == back l)

theorem below_drewN {B : Nat} {a w : World} (h : Below B a w) (n : Nat) : Below B a (w.drewN n) := ⟨h.os, h.tape, h.output, h.size, h.block⟩

theorem extract_str (s : ByteArray) (a b : Nat) : s.extract a b = str ((s.data.toList.drop a).take (b - a)) := by
  rw [← Lib.extract_data]
  exact (str_of _).symm

section
variable (s : ByteArray) (h4 : 4 ≤ s.size)
include h4
theorem cut_front (w : World) : (Instr.slice 9 (.string s) none (some (.int .i64 ((s.size : Int) - 4))) none).run Tryd.prog w = .ok (.string (str (front s.data.toList))) w := by
  rw [run_slice_string_h (ht := Tryd.underlying9) (kh := .i64) (h0 := by omega) (h2 := by omega), extract_str]
  have e : ((s.size : Int) - 4).toNat = s.data.toList.length - 4 := by simp; omega
  rw [e]
  rfl
theorem cut_back (w : World) : (Instr.slice 9 (.string s) (some (.int .i64 ((s.size : Int) - 4))) none none).run Tryd.prog w = .ok (.string (str (back s.data.toList))) w := by
  rw [run_slice_string_l (ht := Tryd.underlying9) (kl := .i64) (h0 := by omega) (h1 := by omega), extract_str]
  have e : ((s.size : Int) - 4).toNat = s.data.toList.length - 4 := by simp; omega
  have e2 : s.size = s.data.toList.length := by simp
  rw [e, e2, List.take_of_length_le (by simp)]
  rfl
end
theorem front_len (s : ByteArray) : (str (front s.data.toList)).size ≤ s.size := by
  rw [str_size]
  unfold front
  rw [List.length_take]
  simp

theorem row_new (w : World) (s : ByteArray) : Row (w.alloc (.cells #[.string s] 9)) (w.alloc (.cells #[.string s] 9)).heap.size (some ⟨w.heap.size, 0, none⟩) (texts [s]) := by
  refine .inr ⟨w.heap.size, 0, rfl, by simp, fun i v hv => ?_⟩
  rw [(Box.new w 9 #[.string s]).cell]
  simpa [texts] using hv
/-- the sum of one text that was just laid -/
theorem of_new (w w0 : World) (s : ByteArray) (hm : s.size ≤ maxLen) (hw : w = w0.alloc (.cells #[.string s] 9)) :
    Calls Tryd.prog 60 #[.slice (some ⟨w0.heap.size, 0, none⟩) 1 1] w fun e w' => e = .returned (.int .u32 (more 0 s.data.toList : Nat)) ∧ Below w.heap.size w w' := by
  subst hw
  have h1 := of_any (some ⟨w0.heap.size, 0, none⟩) 1 [s] _ (by simp) (by simpa using hm) (row_new w0 s)
  simpa only [List.flatMap_cons, List.flatMap_nil, List.append_nil, List.length_cons, List.length_nil] using h1

set_option maxHeartbeats 1000000 in
theorem open_short (s : ByteArray) (w : World) (hs : s.size < 4) :
    Calls Tryd.prog 44 #[.string s] w fun e w' => e = .returned (.tuple #[.string ⟨#[]⟩, .bool false]) ∧ Below w.heap.size w w' := by
  have hk : decide ((s.size : Int) - 4 < 0) = true := by simp; omega
  go_enter Tryd.func44, Tryd.ntmps44
  go_wp2_with fail
  go_quiet (fail)
  go_wp2
  go_ret2
  exact ⟨rfl, below_drewN (Below.refl _ _) _⟩

set_option maxHeartbeats 1000000 in
theorem open_yes (s : ByteArray) (w : World) (hs : 4 ≤ s.size) (hm : s.size ≤ 140737488355328) (hc : tail4 (more 0 (front s.data.toList)) = back s.data.toList) :
    Calls Tryd.prog 44 #[.string s] w fun e w' => e = .returned (.tuple #[.string (str (front s.data.toList)), .bool true]) ∧ Below w.heap.size w w' := by
  have hk : decide ((s.size : Int) - 4 < 0) = false := by simp; omega
  have q1 := cut_front s hs
  have q2 := cut_back s hs
  have hf := front_len s
  have hfm : (str (front s.data.toList)).size ≤ maxLen := by unfold maxLen; omega
  have hlt := more_lt 0 (front s.data.toList)
  have hcmp : ((str (tail4 (more 0 (str (front s.data.toList)).data.toList))).toList == (str (back s.data.toList)).toList) = true := by
    rw [ByteArray.toList_eq, ByteArray.toList_eq, str_list, str_list, str_list]
    rw [hc]; simp
  clear hc
  generalize str (front s.data.toList) = F at *
  generalize str (back s.data.toList) = T at *
  go_enter Tryd.func44, Tryd.ntmps44
  go_wp2_with fail
  go_region_held3 (fun w' => Below w.heap.size w w') (first | exact (Below.refl _ _).drew | exact (‹Below w.heap.size w _›).trans ((by assumption : Below _ _ _).mono (‹Below w.heap.size w _›).size) | exact (((Below.refl _ _).alloc (Nat.le_refl _) _).drew))
    (first
      | (go_at_call 60; refine (of_new _ w.drew F hfm rfl).mono ?_; rintro e w1 ⟨rfl, hb⟩)
      | (go_at_call 59; refine (tail_any _ _ (more_lt _ _)).mono ?_; rintro e w2 ⟨rfl, hb⟩))
  go_wp2_with fail
  go_ret2
  exact ⟨rfl, by assumption⟩

set_option maxHeartbeats 1000000 in
theorem open_no (s : ByteArray) (w : World) (hs : 4 ≤ s.size) (hm : s.size ≤ 140737488355328) (hc : ¬ tail4 (more 0 (front s.data.toList)) = back s.data.toList) :
    Calls Tryd.prog 44 #[.string s] w fun e w' => e = .returned (.tuple #[.string ⟨#[]⟩, .bool false]) ∧ Below w.heap.size w w' := by
  have hk : decide ((s.size : Int) - 4 < 0) = false := by simp; omega
  have q1 := cut_front s hs
  have q2 := cut_back s hs
  have hf := front_len s
  have hfm : (str (front s.data.toList)).size ≤ maxLen := by unfold maxLen; omega
  have hlt := more_lt 0 (front s.data.toList)
  have hcmp : ((str (tail4 (more 0 (str (front s.data.toList)).data.toList))).toList == (str (back s.data.toList)).toList) = false := by
    rw [ByteArray.toList_eq, ByteArray.toList_eq, str_list, str_list, str_list]
    simpa using hc
  clear hc
  generalize str (front s.data.toList) = F at *
  generalize str (back s.data.toList) = T at *
  go_enter Tryd.func44, Tryd.ntmps44
  go_wp2_with fail
  go_region_held3 (fun w' => Below w.heap.size w w') (first | exact (Below.refl _ _).drew | exact (‹Below w.heap.size w _›).trans ((by assumption : Below _ _ _).mono (‹Below w.heap.size w _›).size) | exact (((Below.refl _ _).alloc (Nat.le_refl _) _).drew))
    (first
      | (go_at_call 60; refine (of_new _ w.drew F hfm rfl).mono ?_; rintro e w1 ⟨rfl, hb⟩)
      | (go_at_call 59; refine (tail_any _ _ (more_lt _ _)).mono ?_; rintro e w2 ⟨rfl, hb⟩))
  go_wp2_with fail
  go_ret2
  exact ⟨rfl, by assumption⟩

/-- what an Open answers -/
def opened (l : List UInt8) : ByteArray := if isClosed l then str (front l) else ⟨#[]⟩

theorem open_any (s : ByteArray) (w : World) (hm : s.size ≤ 140737488355328) :
    Calls Tryd.prog 44 #[.string s] w fun e w' => e = .returned (.tuple #[.string (opened s.data.toList), .bool (isClosed s.data.toList)]) ∧ Below w.heap.size w w' := by
  have hl : s.data.toList.length = s.size := by simp
  by_cases hs : 4 ≤ s.size
  · by_cases hc : tail4 (more 0 (front s.data.toList)) = back s.data.toList
    · have e : isClosed s.data.toList = true := by simp [isClosed, hc, hs]
      rw [opened, e, if_pos rfl]
      exact open_yes s w hs hm hc
    · have e : isClosed s.data.toList = false := by simp [isClosed, hc]
      rw [opened, e, if_neg (by simp)]
      exact open_no s w hs hm hc
  · have e : isClosed s.data.toList = false := by simp [isClosed, hs]
    rw [opened, e, if_neg (by simp)]
    exact open_short s w (by omega)

theorem closed_front (l : List UInt8) : front (closed l) = l := by
  have : (closed l).length - 4 = l.length := by simp [closed, tail4]
  unfold front
  rw [this]
  simp [closed]
theorem closed_back (l : List UInt8) : back (closed l) = tail4 (more 0 l) := by
  have : (closed l).length - 4 = l.length := by simp [closed, tail4]
  unfold back
  rw [this]
  simp [closed]
theorem isClosed_closed (l : List UInt8) : isClosed (closed l) = true := by
  unfold isClosed
  rw [closed_front, closed_back]
  simp [closed, tail4]
theorem opened_closed (l : List UInt8) : opened (closed l) = str l := by
  unfold opened
  rw [isClosed_closed, if_pos rfl, closed_front]
/-- closed texts are just the closings -/
theorem isClosed_iff (l : List UInt8) : isClosed l = true ↔ 4 ≤ l.length ∧ closed (front l) = l := by
  unfold isClosed closed
  simp only [Bool.and_eq_true, decide_eq_true_eq, beq_iff_eq]
  constructor
  · rintro ⟨h, e⟩
    refine ⟨h, ?_⟩
    rw [e]
    exact List.take_append_drop _ _
  · rintro ⟨h, e⟩
    refine ⟨h, ?_⟩
    have e2 : front l ++ tail4 (more 0 (front l)) = front l ++ back l := by rw [e]; exact (List.take_append_drop _ _).symm
    exact List.append_cancel_left e2

end Go.Proofs.YtpgmbpjjefecdaaDoor.Crc
