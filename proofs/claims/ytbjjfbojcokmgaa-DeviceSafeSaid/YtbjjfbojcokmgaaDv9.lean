/- Layer 7: slices.Repeat of one text; New. -/
import Derived.Test.YtbjjfbojcokmgaaDv8
import Derived.Deep.RegionLaw
namespace Go.Proofs.Ytbjjfbojcokmgaa.Dv
open Go.RowKit Base
set_option linter.unusedVariables false
set_option linter.unusedSimpArgs false

/-- the first m are there -/
def partly (x : Value) (n m : Nat) : List Value := List.replicate m x ++ List.replicate (n - m) (.string ByteArray.empty)
theorem partly_len (x : Value) (n m : Nat) (h : m ≤ n) : (partly x n m).length = n := by unfold partly; simp; omega
theorem partly_full (x : Value) (n : Nat) : partly x n n = List.replicate n x := by unfold partly; simp
theorem partly_one (x : Value) (n : Nat) (h : 1 ≤ n) : splice (List.replicate n (.string ByteArray.empty)) 0 [x] = partly x n 1 := by
  unfold splice partly
  simp
theorem partly_more (x : Value) (n m k : Nat) (h : m + k ≤ n) : splice (partly x n m) m (List.replicate k x) = partly x n (m + k) := by
  unfold splice partly
  rw [List.take_left' (by simp), List.length_replicate, ← List.drop_drop, List.drop_left' (by simp), List.drop_replicate, ← List.append_assoc, List.replicate_append_replicate]
  rw [show n - m - k = n - (m + k) by omega]
theorem partly_at (x : Value) (n m j : Nat) (h : j < m) : (partly x n m)[j]? = some x := by
  unfold partly
  rw [List.getElem?_append_left (by simpa using h), List.getElem?_replicate, if_pos h]

theorem own_box {w : World} {base g : Nat} {e : TypeId} {n : Nat} {xs : List Value} (h : w.ownsRow base e 1 (.slice (some ⟨g, 0, none⟩) n n) n xs) : w.heap[g]? = some (.cells xs.toArray e (0, 0)) := by
  rcases h.2 with ⟨h', _⟩ | ⟨g', cap', cur, h', _, hg, _, _, hs, ht⟩
  · simp at h'
  · simp only [Value.slice.injEq, Option.some.injEq, Addr.mk.injEq, and_true, true_and] at h'
    obtain ⟨rfl, rfl⟩ := h'
    rw [hg]
    have : cur = xs.toArray := by
      rw [← ht, List.take_of_length_le (by simp; omega)]
    rw [this]
set_option maxRecDepth 100000 in
set_option maxHeartbeats 1000000 in
theorem repeat_one (s : ByteArray) (n g0 : Nat) (w : World) (h1 : 1 ≤ n) (h2 : n ≤ 4096) (hc : w.cell? ⟨g0, 0, none⟩ = some (.string s)) :
    Calls Try.prog 30 #[.slice (some ⟨g0, 0, none⟩) 1 1, .int .i64 n] w fun e w' => e = .returned (.slice (some ⟨w.heap.size, 0, none⟩) n n) ∧ Box w' w.heap.size 9 (List.replicate n (.string s)).toArray ∧ Below w.heap.size w w' := by
  obtain ⟨i0, ti0, tz0, tz1, tz2⟩ := info_parts info_string
  have hsz : (Try.prog.info? 9).map (·.size) = some 1 := by kernel_rfl
  have Hsz := Lib.hid hsz
  have hgl : g0 < w.heap.size := cell_block_lt hc
  have HM := Lib.hid (show ∀ w, Calls Try.prog 45 #[.int .u64 1, .int .u64 n] w fun e w' => e = .returned (.tuple #[.int .u64 0, .int .u64 n]) ∧ w = w' from fun w => by
    have := Try.bits_Mul 1 n (by omega) (by omega) w
    rw [Nat.one_mul, Nat.div_eq_of_lt (by omega), Nat.mod_eq_of_lt (by omega)] at this
    exact this.mono fun e w' ⟨a, b⟩ => ⟨a, b.symm⟩)
  have hu1 : IntKind.u64.wrap (n : Int) = n := by rw [IntKind.wrap_u64]; omega
  have hneg : decide ((n : Int) < 0) = false := by simp
  have hbig : decide ((9223372036854775807 : Int) < (n : Int)) = false := by simp; omega
  have Hc := Lib.hid hc
  clear hsz hc
  go_enter Try.func30, Try.ntmps30
  go_wp2_with fail
  refine (HM.out _).mono ?_
  rintro e w' ⟨rfl, rfl⟩
  go_upto_region 7 with (refine wpList_make_full _ rfl _ _ 35 rfl w.heap.size 9 i0 (.string ByteArray.empty) 1 Try.underlying35 ti0 tz0 tz1 .i64 .i64 n n n rfl rfl rfl rfl (by rw [tz2]; omega) (by unfold maxLen; omega) (Nat.le_refl _) ?_; intro w1 hown hgr; rw [show (Value.string ByteArray.empty).cells = #[.string ByteArray.empty] from rfl, made_one] at hown; have Hown := Lib.hid hown; have Hgr := Lib.hid hgr; clear hown hgr)
  have Hb1 := Lib.hid (show Below w.heap.size w w1 from (Below.refl _ _).grown Hgr.out (Nat.le_refl _) (by simp))
  have hbox := own_box Hown.out
  have Hbox := Lib.hid hbox
  have hcp := (Hb1.out.cell (p := ⟨g0, 0, none⟩) hgl).trans Hc.out
  have Hcp := Lib.hid hcp
  clear hbox hcp Hown Hgr
  have G1 := Lib.hid (show [Value.string s].length = Nat.min 1 n from (Nat.min_eq_left h1).symm)
  have G2 := Lib.hid (show 0 < [Value.string s].length → (some ⟨w.heap.size, 0, none⟩ : Option Addr) = some ⟨w.heap.size, 0, none⟩ ∧ ∃ ad, (some ⟨g0, 0, none⟩ : Option Addr) = some ad ∧ ∀ j v, [Value.string s][j]? = some v → w1.cell? (ad.add j) = some v from fun _ => ⟨rfl, _, rfl, fun j v hv => by
    match j, hv with
    | 0, hv =>
      simp at hv
      subst hv
      rw [add_at]
      exact Hcp.out⟩)
  have G3 := Lib.hid (show 0 + [Value.string s].length ≤ (List.replicate n (Value.string ByteArray.empty)).length by simp; omega)
  have G4 := Lib.hid (show ∀ v ∈ [Value.string s], v.oneCell' = true by intro v hv; simp at hv; subst hv; rfl)
  go_wp2_with (refine wpList_copy_splice (by rfl) (.tmp 31) (.tmp 32) 35 35 (by rfl) 9 Try.underlying35 Hsz.out (some ⟨w.heap.size, 0, none⟩) (some ⟨g0, 0, none⟩) n n 1 1 (by rfl) (by rfl) w.heap.size 0 (List.replicate n (.string ByteArray.empty)) 9 Hbox.out [.string s] G1.out G2.out G3.out G4.out w.heap.size w Hb1.out (Nat.le_refl _) ?_; intro w2 hbox2 hb2)
  have Hbox2 := Lib.hid (show w2.heap[w.heap.size]? = some (.cells (partly (.string s) n 1).toArray 9 (0, 0)) by have := hbox2.out; rw [partly_one _ _ h1] at this; exact this)
  have Hb2 := Lib.hid hb2
  clear hbox2 hb2 G1 G2 G3 G4 Hbox Hb1 Hcp Hc HM hu1 hneg hbig tz0 tz1 tz2 ti0
  go_wp2_with fail
  go_loopw [8] (fun v8 wr => ∃ m : Nat, 1 ≤ m ∧ m ≤ n ∧ v8 = .int .i64 (m : Nat) ∧ wr.heap[w.heap.size]? = some (.cells (partly (.string s) n m).toArray 9 (0, 0)) ∧ Below w.heap.size w wr) (fun v8 _ => n - (intOf v8).toNat)
  case atStart => exact ⟨1, Nat.le_refl _, h1, rfl, Hbox2.out, Hb2.out⟩
  case round =>
    obtain ⟨m, hm1, hmn, rfl, hbx, hbe⟩ := hrel
    have Hbx := Lib.hid hbx
    have Hbe := Lib.hid hbe
    clear hbx hbe Hbox2 Hb2
    by_cases hlt : m < n
    · have i1 : (0 : Int) ≤ (m : Int) := by omega
      have i2 : (m : Int) ≤ (n : Int) := by omega
      have i3 : (m : Int) < (n : Int) := by omega
      have hnm : ¬ n = m := by omega
      obtain ⟨k, hk⟩ : ∃ k, k = Nat.min m (n - m) := ⟨_, rfl⟩
      have hk1 : 1 ≤ k := by rw [hk]; exact Nat.le_min.2 ⟨hm1, by omega⟩
      have hk2 : k ≤ m := by rw [hk]; exact Nat.min_le_left _ _
      have hk3 : k ≤ n - m := by rw [hk]; exact Nat.min_le_right _ _
      have hk4 : m + k ≤ n := by omega
      have Hmore := Lib.hid (partly_more (.string s) n m k hk4)
      have G1 := Lib.hid (show (List.replicate k (Value.string s)).length = Nat.min m (n - m) by rw [List.length_replicate, hk])
      have G2 := Lib.hid (show ∀ W : World, W.heap[w.heap.size]? = some (.cells (partly (.string s) n m).toArray 9 (0, 0)) → ∀ j v, (List.replicate k (Value.string s))[j]? = some v → W.cell? ((⟨w.heap.size, 0, none⟩ : Addr).add j) = some v from fun W hW j v hv => by
        rw [List.getElem?_replicate] at hv
        split at hv
        · rename_i hj
          injection hv with hv
          subst hv
          rw [add_at, Nat.zero_add, Box.cell (show Box W w.heap.size 9 _ from hW), List.getElem?_toArray]
          exact partly_at _ _ _ _ (by omega)
        · cases hv)
      have G3 := Lib.hid (show m + (List.replicate k (Value.string s)).length ≤ (partly (.string s) n m).length by rw [List.length_replicate, partly_len _ _ _ hmn]; exact hk4)
      have G4 := Lib.hid (show ∀ v ∈ List.replicate k (Value.string s), v.oneCell' = true by intro v hv; rw [(List.mem_replicate.1 hv).2]; rfl)
      have Hki := Lib.hid (show goInt (List.replicate k (Value.string s)).length = .int .i64 (k : Int) by rw [List.length_replicate]; rfl)
      have hwr : IntKind.i64.wrap ((m : Int) + (k : Int)) = (m : Int) + (k : Int) := IntWalk.i64_in _ (by omega)
      clear hk
      go_wp2_with fail
      go_region_law (refine step_copy_splice (by rfl) (.tmp 41) (.tmp 44) 35 35 (by rfl) 9 Try.underlying35 Hsz.out (some ⟨w.heap.size, m, none⟩) (some ⟨w.heap.size, 0, none⟩) (n - m) (n - m) m n (by simp [Act.eval, Act.put]) (by simp [Act.eval, Act.put]) w.heap.size m (partly (.string s) n m) 9 (by exact Hbx.out) (List.replicate k (.string s)) G1.out (fun _ => ⟨rfl, _, rfl, by exact G2.out _ Hbx.out⟩) G3.out G4.out w.heap.size w (by exact Hbe.out.drew) (Nat.le_refl _) ?_; intro w4 hg4 hb4)
      go_wp2_with fail
      have hfin : ∃ m' : Nat, 1 ≤ m' ∧ m' ≤ n ∧ Value.int .i64 ((m : Int) + (k : Int)) = .int .i64 (m' : Nat) ∧ w4.heap[w.heap.size]? = some (.cells (partly (.string s) n m').toArray 9 (0, 0)) ∧ Below w.heap.size w w4 := ⟨m + k, by omega, hk4, rfl, by rw [← Hmore.out]; exact hg4.out, hb4⟩
      refine ⟨?_, ?_⟩
      · (repeat apply Exists.intro)
        exact And.intro hfin rfl
      · show n - ((m : Int) + (k : Int)).toNat < n - ((m : Int)).toNat
        clear hfin hwr
        omega
    · have hme : m = n := by omega
      subst hme
      go_wp2_with fail
      go_ret
      refine ⟨rfl, ?_, Hbe.out⟩
      have := Hbx.out
      rw [partly_full] at this
      exact this

/-- a new device -/
def newD (n : Nat) : Dv := { sec := List.replicate n nought, puts := [], fuse := 0, reads := 0, steps := 0, off := false }
def NewAt (n : Nat) (w : World) (e : Ending) (w' : World) : Prop := ∃ d gs, e = .returned (.tuple #[.pointer (some ⟨d, 0, none⟩), .int .i64 0]) ∧ DevAt w' w.heap.size (fun k => k = d ∨ k = gs) d gs n (.slice none 0 0) (newD n) ∧ Below w.heap.size w w'
theorem may_any (n : Int) (w : World) : Calls Try.prog 29 #[.int .i64 n] w fun e w' => e = .returned (.bool (decide (16 ≤ n ∧ n ≤ 4096))) ∧ w = w' := by
  by_cases h1 : 16 ≤ n
  · by_cases h2 : n ≤ 4096
    · rw [decide_eq_true ⟨h1, h2⟩]
      have d1 : decide (16 ≤ n) = true := by simpa using h1
      have d2 : decide (n ≤ 4096) = true := by simpa using h2
      go_enter Try.func29, Try.ntmps29
      go_wp2_with fail
      go_ret
      exact ⟨rfl, rfl⟩
    · rw [decide_eq_false (fun h => h2 h.2)]
      have d1 : decide (16 ≤ n) = true := by simpa using h1
      have d2 : decide (n ≤ 4096) = false := by simpa using h2
      go_enter Try.func29, Try.ntmps29
      go_wp2_with fail
      go_ret
      exact ⟨rfl, rfl⟩
  · rw [decide_eq_false (fun h => h1 h.1)]
    have d1 : decide (16 ≤ n) = false := by simpa using h1
    go_enter Try.func29, Try.ntmps29
    go_wp2_with fail
    go_ret
    exact ⟨rfl, rfl⟩
set_option maxHeartbeats 400000 in
theorem new_no (n : Int) (w : World) (h : ¬ (16 ≤ n ∧ n ≤ 4096)) :
    Calls Try.prog 9 #[.int .i64 n] w fun e w' => e = .returned (.tuple #[.pointer none, .int .i64 2]) ∧ w = w' := by
  have HM := Lib.hid (may_any n w)
  rw [decide_eq_false h] at HM
  clear h
  go_enter Try.func9, Try.ntmps9
  go_wp2_with fail
  refine HM.out.mono ?_
  rintro e w' ⟨rfl, rfl⟩
  go_wp2_with fail
  go_ret2
  exact ⟨rfl, rfl⟩
theorem new_dev (n : Nat) (w w1 w2 : World) (h1 : 16 ≤ n) (h2 : n ≤ 4096) (hb1 : Below w.heap.size w w1) (hbx : Box w2 (w1.heap.size + 1) 9 (List.replicate n (.string nought)).toArray) (hb2 : Below (w1.heap.size + 1) (w1.alloc (.cells #[.string nought] 9)) w2) :
    NewAt n w (.returned (.tuple #[.pointer (some ⟨w2.heap.size, 0, none⟩), .int .i64 0])) (w2.alloc (.cells #[.slice (some ⟨w1.heap.size + 1, 0, none⟩) n n, .slice none 0 0, .int .i64 0, .int .i64 0, .int .i64 0, .bool false] 56)) := by
  have hlt : w1.heap.size + 1 < w2.heap.size := hbx.lt
  have hs1 := hb1.size
  have hbw2 : Below w.heap.size w w2 := (hb1.alloc hs1 _).trans (hb2.mono (by omega))
  refine ⟨w2.heap.size, w1.heap.size + 1, rfl, ⟨?_, ?_, ⟨rfl, .inl ⟨rfl, rfl⟩⟩, by omega, by simp [Value.ownBlock], by simp [Value.ownBlock], .inl rfl, .inr rfl, (fun k hk => by simp [Value.ownBlock] at hk), ?_, ?_⟩, hbw2.alloc hbw2.size _⟩
  · show Box _ _ _ #[.slice _ (List.replicate n nought).length n, _, _, _, _, _]
    rw [List.length_replicate]
    exact Box.new w2 _ _
  · show World.ownsRow _ _ _ _ (.slice _ (List.replicate n nought).length n) (List.replicate n nought).length ((List.replicate n nought).map .string)
    rw [List.length_replicate, List.map_replicate]
    refine ⟨by simp, .inr ⟨w1.heap.size + 1, n, _, rfl, by omega, hbx.alloc _, Nat.le_refl _, by unfold maxLen; omega, by simp, by simp⟩⟩
  · intro k hk
    rcases hk with rfl | rfl
    · exact ⟨by omega, by simp⟩
    · exact ⟨by omega, by simp; omega⟩
  · refine ⟨by simpa [newD] using h1, by simpa [newD] using h2, fun x hx => ?_, (fun p hp => by cases hp), (fun p hp => by cases hp), Nat.zero_le _, Nat.zero_le _, Nat.zero_le _, Nat.zero_le _⟩
    rw [(List.mem_replicate.1 hx).2]
    exact nought_size
set_option maxHeartbeats 400000 in
theorem new_yes (n : Nat) (w : World) (h1 : 16 ≤ n) (h2 : n ≤ 4096) : Calls Try.prog 9 #[.int .i64 n] w (NewAt n w) := by
  have HM := Lib.hid (may_any n w)
  rw [decide_eq_true ⟨by omega, by omega⟩] at HM
  have HE := Lib.hid empty_any
  have HR := Lib.hid (fun g0 w hc => repeat_one nought n g0 w (by omega) h2 hc)
  have HN := Lib.hid (fun w1 w2 => new_dev n w w1 w2 h1 h2)
  generalize hQ : NewAt n w = Q at *
  clear hQ
  generalize nought = z at *
  go_enter Try.func9, Try.ntmps9
  go_wp2_with fail
  refine HM.out.mono ?_
  rintro e w' ⟨rfl, rfl⟩
  go_wp2_with fail
  refine (HE.out _).mono ?_
  rintro e w1 ⟨rfl, hb1⟩
  have Hb1 := Lib.hid hb1
  clear hb1
  go_wp2_with fail
  refine (HR.out _ _ ((Box.new w1 _ _).cell 0)).mono ?_
  rintro e w2 ⟨rfl, hbx, hb2⟩
  rw [show (w1.alloc (.cells #[.string z] 9)).heap.size = w1.heap.size + 1 by simp] at *
  have Hbx := Lib.hid hbx
  have Hb2 := Lib.hid hb2
  clear hbx hb2
  go_wp2_with fail
  exact HN.out _ _ Hb1.out Hbx.out Hb2.out

end Go.Proofs.Ytbjjfbojcokmgaa.Dv
