/- Layer 1, contracts: num.Put. -/
import Derived.Test.YtpgmbpjjefecdaaDoorNm3
import Derived.Deep.RegionWith
namespace Go.Proofs.YtpgmbpjjefecdaaDoor.Nm
open Go.RowKit Base Crc Txt Plain
set_option linter.unusedVariables false

abbrev bytesV (l : List UInt8) : Array Value := (l.map fun b => Value.int .u8 (b.toNat : Int)).toArray
/-- the nine bytes behind t rounds -/
def nine (s n t : Nat) : List UInt8 := List.replicate (s - t) 0 ++ be t n ++ List.replicate (9 - s) 0
theorem nine_zero (s n : Nat) (h : s ≤ 9) : nine s n 0 = List.replicate 9 0 := by
  unfold nine
  rw [be, List.append_nil, List.replicate_append_replicate]
  congr 1
  omega
theorem nine_set (s n t : Nat) (h : t < s) : (nine s n t).set (s - 1 - t) (byt (n / 256 ^ t)) = nine s n (t + 1) := by
  unfold nine
  have e : s - t = (s - (t + 1)) + 1 := by omega
  rw [e, List.replicate_succ', List.append_assoc, List.append_assoc, List.append_assoc]
  rw [show s - 1 - t = (List.replicate (s - (t + 1)) (0 : UInt8)).length by simp; omega]
  rw [List.set_append_right _ _ (Nat.le_refl _), Nat.sub_self]
  simp [be]
theorem nine_len (s n t : Nat) (h : t ≤ s) (h9 : s ≤ 9) : (nine s n t).length = 9 := by
  unfold nine
  simp [be_len]
  omega
theorem bytesV_set (l : List UInt8) (i : Nat) (b : UInt8) : (bytesV l).setIfInBounds i (.int .u8 (b.toNat : Int)) = bytesV (l.set i b) := by
  unfold bytesV
  rw [List.setIfInBounds_toArray, List.map_set]
theorem nine_full (n s : Nat) (hs : s = nsize n) (h : n < 18446744073709551616) : ∃ b r, nine s n s = b :: r ∧ b.toNat = n / 256 ^ (s - 1) % 256 ∧ (s < 9 → (byt (lead s + b.toNat)) :: r.take (s - 1) = nput n) ∧ (s = 9 → (byt 255) :: r.take (s - 1) = nput n) ∧ (s < 9 → b.toNat < 2 ^ (8 - s)) := by
  have hb := nsize_bd n
  obtain ⟨t, rfl⟩ : ∃ t, s = t + 1 := ⟨s - 1, by omega⟩
  refine ⟨byt (n / 256 ^ t), be t n ++ List.replicate (9 - (t + 1)) 0, ?_, ?_, ?_, ?_, ?_⟩
  · unfold nine
    rw [Nat.sub_self, be]
    rfl
  · unfold byt
    rw [UInt8.toNat_ofNat']
    rfl
  all_goals (try rw [Nat.add_sub_cancel])
  · intro h9
    have e : (byt (n / 256 ^ t)).toNat = n / 256 ^ t % 256 := by unfold byt; rw [UInt8.toNat_ofNat']
    rw [List.take_left' (be_len t n)]
    unfold nput
    rw [← hs, Nat.add_sub_cancel, e]
    congr 1
    apply byt_of
    unfold byt
    rw [UInt8.toNat_ofNat']
    omega
  · intro h9
    rw [List.take_left' (be_len t n)]
    unfold nput
    rw [← hs, Nat.add_sub_cancel]
    congr 1
    have : t = 8 := by omega
    subst this
    rw [show n / 256 ^ 8 = 0 from Nat.div_eq_of_lt h]
    decide
  · intro h9
    have e : (byt (n / 256 ^ t)).toNat = n / 256 ^ t % 256 := by unfold byt; rw [UInt8.toNat_ofNat']
    rw [e]
    have hk : t = 0 ∨ t = 1 ∨ t = 2 ∨ t = 3 ∨ t = 4 ∨ t = 5 ∨ t = 6 ∨ t = 7 := by omega
    unfold nsize at hs
    rcases hk with rfl | rfl | rfl | rfl | rfl | rfl | rfl | rfl <;> simp at hs ⊢ <;> (repeat (first | omega | split at hs))
theorem or_lead (s b : Nat) (h1 : 1 ≤ s) (h9 : s < 9) (hb : b < 2 ^ (8 - s)) : bits .or .u8 (b : Int) ((lead s : Nat) : Int) = ((byt (lead s + b)).toNat : Int) := by
  have key : ∀ s : Fin 9, ∀ b : Fin 128, 1 ≤ s.val → b.val < 2 ^ (8 - s.val) → bits .or .u8 (b.val : Int) ((lead s.val : Nat) : Int) = ((byt (lead s.val + b.val)).toNat : Int) := by decide +kernel
  have h2 : b < 128 := by
    have : 2 ^ (8 - s) ≤ 2 ^ 7 := Nat.pow_le_pow_right (by omega) (by omega)
    omega
  exact key ⟨s, h9⟩ ⟨b, h2⟩ h1 hb
/-- string(b[:s]) of nine bytes that lie in a box -/
theorem conv_box {w : World} {g : Nat} {t : TypeId} (l : List UInt8) (s c : Nat) (hb : Box w g t (bytesV l)) (hs : s ≤ l.length) :
    (convert 63 9 (.slice (some ⟨g, 0, none⟩) s c)).run Tryd.prog w = .ok (.string (str (l.take s))) w := by
  have h := run_convert_bytes_back (P := Tryd.prog) w 63 9 5 ⟨g, 0, none⟩ c (l.take s) Tryd.underlying63 Tryd.underlying5 Tryd.underlying9 ?_
  · rw [List.length_take, Nat.min_eq_left hs] at h
    exact h
  · intro j hj
    rw [List.length_take] at hj
    rw [add_at, Nat.zero_add, hb.cell]
    simp [bytesV, List.getElem?_eq_getElem (show j < l.length by omega)]

theorem slice_nine (g t : Nat) (W : World) (h1 : 1 ≤ t) (h9 : t ≤ 9) : (Instr.sliceAt 125 (.pointer (some ⟨g, 0, none⟩)) none (some (.int .i64 (t : Int))) none).run Tryd.prog W = .ok (.slice (some ⟨g, 0, none⟩) t 9) W := by
  have hk : t = 1 ∨ t = 2 ∨ t = 3 ∨ t = 4 ∨ t = 5 ∨ t = 6 ∨ t = 7 ∨ t = 8 ∨ t = 9 := by omega
  rcases hk with rfl | rfl | rfl | rfl | rfl | rfl | rfl | rfl | rfl
  all_goals (simp [go_sem, Tryd.underlying125])

set_option maxRecDepth 100000 in
set_option maxHeartbeats 1000000 in
theorem put_any (n : Nat) (w : World) (hn : n < 18446744073709551616) :
    Calls Tryd.prog 76 #[.int .u64 n] w fun e w' => e = .returned (.string (str (nput n))) ∧ Below w.heap.size w w' := by
  have HSz := Lib.hid (fun w => size_any n w hn)
  have hbd := nsize_bd n
  obtain ⟨b0, r0, hf1, hf2, hf3, hf4, hf5⟩ := nine_full n (nsize n) rfl hn
  have hlen := nine_len (nsize n) n (nsize n) (Nat.le_refl _) (by omega)
  have Hf1 := Lib.hid hf1
  have Hf3 := Lib.hid hf3
  have Hf4 := Lib.hid hf4
  have Hf5 := Lib.hid hf5
  have Hlen := Lib.hid hlen
  have HF := Lib.hid (fun w => first_any (nsize n) w hbd.1 hbd.2)
  have hz0 := Lib.hid (nine_zero (nsize n) n hbd.2)
  have hset := Lib.hid (fun t h => nine_set (nsize n) n t h)
  have hdv := Lib.hid (show ∀ t, n / 256 ^ t < 18446744073709551616 from fun t => Nat.lt_of_le_of_lt (Nat.div_le_self _ _) hn)
  have hstep := Lib.hid (show ∀ t, n / 256 ^ (t + 1) = n / 256 ^ t / 256 from fun t => by rw [Nat.pow_succ, Nat.div_div_eq_div_mul])
  clear hf1 hf2 hf3 hf4 hf5 hlen hn
  generalize hS : nsize n = S at *
  clear hS
  go_enter Tryd.func76, Tryd.ntmps76
  go_wp2_with fail
  refine (HSz.out _).mono ?_
  rintro e w' ⟨rfl, rfl⟩
  go_wp2_with fail
  go_loopw [0, 5] (fun v0 v5 wr => ∃ t : Nat, (t < S ∧ (∃ j : Nat, v5 = .int .i64 (j : Nat) ∧ j + t + 1 = S) ∨ t = S ∧ v5 = .int .i64 (-1)) ∧ v0 = .int .u64 (n / 256 ^ t : Nat) ∧ Box wr w.heap.size 125 (bytesV (nine S n t)) ∧ Below w.heap.size w wr) (fun _ v5 _ => (intOf v5 + 1).toNat)
  case atStart =>
    refine ⟨0, .inl ⟨by omega, S - 1, by first | rfl | exact congrArg (Value.int .i64) (by omega), by omega⟩, by simp, ?_, (by repeat (first | exact Below.refl _ _ | assumption | refine Below.drew ?_ | (refine Below.alloc ?_ (by simp <;> omega) _) | (refine Below.setCell ?_ (by simp <;> omega) _)))⟩
    rw [hz0.out]
    exact Box.lay rfl
  case round =>
    obtain ⟨t, hcase, rfl, hbox, hbe⟩ := hrel
    have Hbox := Lib.hid hbox
    have hsz := hbe.size
    have hdt := hdv.out t
    have Hst := Lib.hid (hstep.out t)
    have hgs : w.heap.size < wr.heap.size := hbox.lt
    rcases hcase with ⟨ht, j, rfl, hj⟩ | ⟨rfl, rfl⟩
    · have hcell : wr.cell? ⟨w.heap.size, j, none⟩ = some (.int .u8 (((nine S n t).getD j 0).toNat : Int)) := by
        rw [hbox.cell]
        have hl := nine_len S n t (by omega) (by omega)
        simp [bytesV, List.getD_eq_getElem?_getD, List.getElem?_eq_getElem (show j < (nine S n t).length by omega)]
      have hfree := hbox.free j
      have hnew := Lib.hid (show Box (wr.setCell ⟨w.heap.size, j, none⟩ (.int .u8 (((n / 256 ^ t : Nat) : Int) % 256))) w.heap.size 125 (bytesV (nine S n (t + 1))) by
        have h := hbox.set j (.int .u8 ((byt (n / 256 ^ t)).toNat : Int))
        rw [bytesV_set, show j = S - 1 - t by omega, hset.out t ht] at h
        rw [show j = S - 1 - t by omega]
        have e : ((byt (n / 256 ^ t)).toNat : Int) = ((n / 256 ^ t : Nat) : Int) % 256 := by unfold byt; rw [UInt8.toNat_ofNat']; omega
        rw [e] at h
        exact h)
      have Hj := Lib.hid hj
      have hj9 : j < 9 := by omega
      clear hbox hj
      generalize n / 256 ^ t = m at *
      go_wp2_with fail
      have hjj := Hj.out
      refine ⟨⟨t + 1, ?_, ?_, hnew.out, hbe.setCell (Nat.le_refl _) _⟩, ?_⟩
      · by_cases h0 : j = 0
        · exact .inr ⟨by omega, congrArg (Value.int .i64) (by omega)⟩
        · exact .inl ⟨by omega, j - 1, congrArg (Value.int .i64) (by omega), by omega⟩
      · rw [Hst.out]
        exact congrArg (Value.int .u64) (by omega)
      · show ((j : Int) - 1 + 1).toNat < ((j : Int) + 1).toNat
        omega
    · have hb1 := hbox
      rw [Hf1.out] at hb1
      have hc0 : wr.cell? ⟨w.heap.size, 0, none⟩ = some (.int .u8 (b0.toNat : Int)) := by rw [hb1.cell]; rfl
      have hfree := hbox.free 0
      have hrl : r0.length = 8 := by have := Hlen.out; rw [Hf1.out] at this; simpa using this
      have Hrl := Lib.hid hrl
      have hset0 := Lib.hid (fun (x : UInt8) => show Box (wr.setCell ⟨w.heap.size, 0, none⟩ (.int .u8 (x.toNat : Int))) w.heap.size 125 (bytesV (x :: r0)) by
        have h := hb1.set 0 (.int .u8 (x.toNat : Int))
        rw [bytesV_set] at h
        exact h)
      clear hbox hb1 hrl Hst hdt Hbox
      generalize n / 256 ^ t = m at *
      by_cases h9 : t < 9
      · have hor := or_lead t b0.toNat hbd.1 h9 (Hf5.out h9)
        have Hfin := Lib.hid (Hf3.out h9)
        have h9I : (t : Int) < 9 := by omega
        have Hb := Lib.hid (hset0.out (byt (lead t + b0.toNat)))
        have hb0 := b0.toNat_lt
        have hx := (byt (lead t + b0.toNat)).toNat_lt
        have Hcv := Lib.hid (fun W (hW : Box W w.heap.size 125 (bytesV (byt (lead t + b0.toNat) :: r0))) => conv_box (byt (lead t + b0.toNat) :: r0) t 9 hW (by rw [List.length_cons, Hrl.out]; omega))
        have htk := Lib.hid (show (byt (lead t + b0.toNat) :: r0).take t = nput n by
          rw [← Hfin.out, show t = (t - 1) + 1 by omega, List.take_succ_cons, Nat.add_sub_cancel])
        generalize byt (lead t + b0.toNat) = B at *
        generalize b0.toNat = y0 at *
        generalize lead t = L at *
        generalize B.toNat = yB at *
        go_wp2_with fail
        go_region_with ((go_at_call 95; refine (HF.out _).mono ?_; rintro e w' ⟨rfl, rfl⟩))
        all_goals
          have hcv := Hcv.out _ (show Box ((wr.setCell ⟨w.heap.size, 0, none⟩ (.int .u8 (yB : Int))).drew) w.heap.size 125 _ from Hb.out)
          have hsl := slice_nine w.heap.size t ((wr.setCell ⟨w.heap.size, 0, none⟩ (.int .u8 (yB : Int))).drew) hbd.1 hbd.2
          go_wp2_with fail
          go_ret
          exact ⟨by rw [htk.out]; rfl, (hbe.setCell (Nat.le_refl _) _).drew⟩
      · have ht9 : t = 9 := by omega
        subst ht9
        have Hfin := Lib.hid (Hf4.out rfl)
        have Hb := Lib.hid (hset0.out (byt 255))
        have Hcv := Lib.hid (fun W (hW : Box W w.heap.size 125 (bytesV (byt 255 :: r0))) => conv_box (byt 255 :: r0) 9 9 hW (by rw [List.length_cons, Hrl.out]; omega))
        have htk := Lib.hid (show (byt 255 :: r0).take 9 = nput n by
          rw [← Hfin.out, List.take_succ_cons])
        have hcv := Hcv.out _ (show Box (wr.setCell ⟨w.heap.size, 0, none⟩ (.int .u8 255)) w.heap.size 125 _ from Hb.out)
        have hF9 : ∀ w, Calls Tryd.prog 95 #[.int .i64 9] w fun e w' => e = .returned (.int .u8 255) ∧ w = w' := HF.out
        have HF9 := Lib.hid hF9
        clear hF9 h9
        go_wp2_with fail
        refine (HF9.out _).mono ?_
        rintro e w' ⟨rfl, rfl⟩
        go_wp2_with fail
        go_ret
        exact ⟨by first | (rw [htk.out]; rfl) | (rw [Hfin.out]; rfl), hbe.setCell (Nat.le_refl _) _⟩

end Go.Proofs.YtpgmbpjjefecdaaDoor.Nm
