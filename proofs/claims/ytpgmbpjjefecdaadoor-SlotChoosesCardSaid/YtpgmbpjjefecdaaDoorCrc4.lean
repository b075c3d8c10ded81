/- The contracts of package crc and of its reference (layer 2), fourth part: texts closed and opened. -/
import Derived.Test.YtpgmbpjjefecdaaDoorCrc3
namespace Go.Proofs.YtpgmbpjjefecdaaDoor.Crc
open Go.RowKit Base
set_option linter.unusedVariables false

theorem str_app (a b : List UInt8) : str a ++ str b = str (a ++ b) := by
  unfold str
  apply ByteArray.ext
  simp
theorem str_size (l : List UInt8) : (str l).size = l.length := rfl
theorem str_list (l : List UInt8) : (str l).data.toList = l := rfl
theorem str_of (s : ByteArray) : str s.data.toList = s := by
  unfold str
  apply ByteArray.ext
  simp

set_option maxHeartbeats 400000 in
theorem rmore_any (sum : Nat) (s : ByteArray) (w : World) (hsum : sum < 4294967296) (hs : s.size ≤ maxLen) :
    Calls Tryd.prog 75 #[.int .u32 sum, .string s] w fun e w' => e = .returned (.int .u32 (more sum s.data.toList : Nat)) ∧ w = w' := by
  unfold maxLen at hs
  have hi : ((4294967295 : Int) - sum) = ((inv sum : Nat) : Int) := by unfold inv; omega
  have Hi := Lib.hid hi
  clear hi
  go_enter Tryd.func75, Tryd.ntmps75
  go_wp2
  rw [Hi.out]
  go_loop [5, 6] (fun v i => ∃ (k : Nat), k ≤ s.size ∧ i = .int .i64 k ∧ v = .int .u32 (run (inv sum) (s.data.toList.take k) : Nat)) (fun _ i => s.size - (intOf i).toNat)
  case atStart => exact ⟨0, Nat.zero_le _, rfl, rfl⟩
  case round =>
    obtain ⟨k, hk, rfl, rfl⟩ := hrel
    have hlt := run_lt (s.data.toList.take k) (inv_lt sum)
    by_cases hks : k < s.size
    · have hsn := run_snoc (inv sum) (s.data.toList.take k) s[k]
      rw [← bytes_snoc s k hks] at hsn
      have Hsn := Lib.hid hsn
      clear hsn
      generalize run (inv sum) (s.data.toList.take k) = x at *
      go_wp2_with fail
      refine (rone_any x s[k] _ hlt).mono ?_
      rintro e w' ⟨rfl, rfl⟩
      go_wp2_with fail
      go_round
      case rel => exact ⟨k + 1, by omega, by go_num, by rw [Hsn.out]⟩
      case measure => simp [intOf]; omega
    · go_wp2
      go_ret
      have hd : s.data.toList.take k = s.data.toList := List.take_of_length_le (by simp; omega)
      rw [hd]
      refine ⟨?_, rfl⟩
      have : (4294967295 : Int) - (run (inv sum) s.data.toList : Nat) = ((more sum s.data.toList : Nat) : Int) := by
        have := run_lt s.data.toList (inv_lt sum)
        unfold more inv at *; omega
      exact congrArg (fun x => Ending.returned (.int .u32 x)) this

theorem tail_take (n k : Nat) (hk : k < 4) : (tail4 n).take (k + 1) = (tail4 n).take k ++ [byt (n / 256 ^ k)] := by
  unfold tail4
  match k, hk with
  | 0, _ => simp
  | 1, _ => simp
  | 2, _ => simp
  | 3, _ => simp
theorem conv_one (w : World) (x : Int) (h0 : 0 ≤ x) (h1 : x < 256) :
    (convert 63 9 (.slice (some ⟨w.heap.size, 0, none⟩) 1 1)).run Tryd.prog (w.alloc (.cells #[.int .u8 x] 5)) = .ok (.string (str [byt x.toNat])) (w.alloc (.cells #[.int .u8 x] 5)) :=
  conv_new w [x] (by intro y hy; simp at hy; omega)

set_option maxHeartbeats 400000 in
theorem rtail_any (n : Nat) (w : World) (hn : n < 4294967296) :
    Calls Tryd.prog 74 #[.int .u32 n] w fun e w' => e = .returned (.string (str (tail4 n))) ∧ Below w.heap.size w w' := by
  go_enter Tryd.func74, Tryd.ntmps74
  go_wp2
  go_loopw [0, 3, 4] (fun v o i wr => ∃ (k : Nat), k ≤ 4 ∧ i = .int .i64 k ∧ v = .int .u32 (n / 256 ^ k : Nat) ∧ o = .string (str ((tail4 n).take k)) ∧ Below w.heap.size w wr) (fun _ _ i _ => 4 - (intOf i).toNat)
  case atStart => exact ⟨0, by omega, rfl, by simp, rfl, Below.refl _ _⟩
  case round =>
    obtain ⟨k, hk, rfl, rfl, rfl, hbe⟩ := hrel
    by_cases hlt : k < 4
    · have ht := tail_take n k hlt
      have hq : n / 256 ^ (k + 1) = n / 256 ^ k / 256 := by rw [Nat.pow_succ, Nat.div_div_eq_div_mul]
      have hql : n / 256 ^ k < 4294967296 := Nat.lt_of_le_of_lt (Nat.div_le_self _ _) hn
      have Ht := Lib.hid ht
      have Hq := Lib.hid hq
      clear ht hq
      generalize n / 256 ^ k = x at *
      have hc := fun w => conv_one w ((x : Int) % 256) (by omega) (by omega)
      have z1 : (str ((tail4 n).take k)).size ≤ 4 := by rw [str_size, List.length_take]; omega
      have z2 : (str [byt (x % 256)]).size ≤ 1 := by rw [str_size]; simp
      go_wp2
      refine ⟨⟨k + 1, by omega, by go_num, ?_, ?_, hbe.alloc hbe.size _⟩, by simp [intOf]; omega⟩
      · rw [Hq.out]; rfl
      · rw [Ht.out, str_app]
        have : byt (x % 256) = byt x := byt_mod x
        rw [this]
    · go_wp2
      go_ret
      have h4 : k = 4 := by omega
      rw [h4]
      exact ⟨rfl, hbe⟩

theorem more_nil : more 0 [] = 0 := by simp [more, run, inv]
/-- the sum of texts, one behind the other -/
theorem more_all (l : List ByteArray) (k : Nat) (hk : k < l.length) (s : Nat) : more s ((l.take (k + 1)).flatMap (fun t => t.data.toList)) = more (more s ((l.take k).flatMap (fun t => t.data.toList))) (l[k]).data.toList := by
  rw [more_append, List.take_succ_eq_append_getElem hk, List.flatMap_append]
  simp

def texts (l : List ByteArray) : List Value := l.map .string

set_option maxHeartbeats 400000 in
theorem of_any (A : Option Addr) (c : Nat) (l : List ByteArray) (w : World) (hl : l.length ≤ 140737488355328) (hf : ∀ t ∈ l, t.size ≤ maxLen) (hr : Row w w.heap.size A (texts l)) :
    Calls Tryd.prog 60 #[.slice A l.length c] w fun e w' => e = .returned (.int .u32 (more 0 (l.flatMap fun t => t.data.toList) : Nat)) ∧ Below w.heap.size w w' := by
  have Hf := Lib.hid hf
  have Hr := Lib.hid hr
  clear hf hr
  generalize hn : l.length = n at *
  have Hn := Lib.hid hn
  clear hn
  go_enter Tryd.func60, Tryd.ntmps60
  go_wp2
  go_loopw [3, 8] (fun v i wr => ∃ (k : Nat), k ≤ n ∧ i = .int .i64 k ∧ v = .int .u32 (more 0 ((l.take k).flatMap fun t => t.data.toList) : Nat) ∧ Below w.heap.size w wr) (fun _ i _ => n - (intOf i).toNat)
  case atStart => exact ⟨0, Nat.zero_le _, rfl, by rw [List.take_zero, List.flatMap_nil, more_nil]; rfl, Below.refl _ _⟩
  case round =>
    obtain ⟨k, hk, rfl, rfl, hbe⟩ := hrel
    have hlt := more_lt 0 ((l.take k).flatMap fun t => t.data.toList)
    by_cases hkn : k < n
    · have hkl : k < l.length := by rw [Hn.out]; exact hkn
      have hst := more_all l k hkl 0
      obtain ⟨b, off, rfl, hb, hc⟩ := (Hr.out.below hbe).at_ (k := k) (by simpa [texts] using hkl)
      have hsz := Hf.out _ (List.getElem_mem hkl)
      simp only [texts, List.getElem_map] at hc
      have Hst := Lib.hid hst
      clear hst
      generalize more 0 ((l.take k).flatMap fun t => t.data.toList) = x at *
      generalize l[k]'hkl = s at *
      go_wp2_with fail
      refine (more_any x s _ hlt hsz).mono ?_
      rintro e w1 ⟨rfl, hb1⟩
      clear hc
      go_wp2_with fail
      go_roundw
      case rel => exact ⟨k + 1, by omega, by go_num, by rw [Hst.out], hbe.trans (hb1.mono hbe.size)⟩
      case measure => simp [intOf]; omega
    · go_wp2
      go_ret
      have hd : l.take k = l := List.take_of_length_le (by rw [Hn.out]; omega)
      rw [hd]
      exact ⟨rfl, hbe⟩

/-- a text with its sum behind it -/
def closed (l : List UInt8) : List UInt8 := l ++ tail4 (more 0 l)

set_option maxHeartbeats 400000 in
theorem close_any (s : ByteArray) (w : World) (hs : s.size ≤ 140737488355328) :
    Calls Tryd.prog 42 #[.string s] w fun e w' => e = .returned (.string (str (closed s.data.toList))) ∧ Below w.heap.size w w' := by
  have hlt := more_lt 0 s.data.toList
  have hm : s.size ≤ maxLen := by unfold maxLen; omega
  go_enter Tryd.func42, Tryd.ntmps42
  go_wp2_with fail
  have hr : Row (w.alloc (.cells #[.string s] 9)) (w.alloc (.cells #[.string s] 9)).heap.size (some ⟨w.heap.size, 0, none⟩) (texts [s]) := by
    refine .inr ⟨w.heap.size, 0, rfl, by simp, fun i v hv => ?_⟩
    rw [(Box.new w 9 #[.string s]).cell]
    simpa [texts] using hv
  have h1 := of_any (some ⟨w.heap.size, 0, none⟩) 1 [s] _ (by simp) (by simpa using hm) hr
  simp only [List.flatMap_cons, List.flatMap_nil, List.append_nil, List.length_cons, List.length_nil] at h1
  refine h1.mono ?_
  clear h1 hr
  rintro e w1 ⟨rfl, hb1⟩
  go_wp2_with fail
  refine (tail_any _ _ hlt).mono ?_
  rintro e w2 ⟨rfl, hb2⟩
  have z1 : (str (tail4 (more 0 s.data.toList))).size ≤ 4 := by rw [str_size]; simp [tail4]
  have hk := (((Below.refl w.heap.size w).alloc (Nat.le_refl _) _).trans (hb1.mono (by simp)))
  go_wp2_with fail
  go_ret
  refine ⟨?_, hk.trans (hb2.mono hk.size)⟩
  unfold closed
  rw [← str_app, str_of]
  rfl

set_option maxHeartbeats 400000 in
theorem rclose_any (s : ByteArray) (w : World) (hs : s.size ≤ 140737488355328) :
    Calls Tryd.prog 46 #[.string s] w fun e w' => e = .returned (.string (str (closed s.data.toList))) ∧ Below w.heap.size w w' := by
  have hlt := more_lt 0 s.data.toList
  have hm : s.size ≤ maxLen := by unfold maxLen; omega
  go_enter Tryd.func46, Tryd.ntmps46
  go_wp2_with fail
  refine (rmore_any 0 s _ (by decide) hm).mono ?_
  rintro e w1 ⟨rfl, rfl⟩
  go_wp2_with fail
  refine (rtail_any _ _ hlt).mono ?_
  rintro e w2 ⟨rfl, hb2⟩
  have z1 : (str (tail4 (more 0 s.data.toList))).size ≤ 4 := by rw [str_size]; simp [tail4]
  go_wp2_with fail
  go_ret
  refine ⟨?_, hb2⟩
  unfold closed
  rw [← str_app, str_of]
  rfl

end Go.Proofs.YtpgmbpjjefecdaaDoor.Crc
