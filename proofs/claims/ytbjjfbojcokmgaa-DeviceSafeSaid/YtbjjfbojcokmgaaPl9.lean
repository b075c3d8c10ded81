/- Layer 7: the calls of the document and of the device, in one shape each. -/
import Derived.Test.YtbjjfbojcokmgaaPl7
import Derived.Test.YtbjjfbojcokmgaaPl8
namespace Go.Proofs.Ytbjjfbojcokmgaa.Dv
open Go.RowKit Base
set_option linter.unusedVariables false
set_option linter.unusedSimpArgs false

theorem Free.conv {w W : World} {F F' : Nat → Prop} {A : Option Addr} {vs : List Value} (h : Free w F A vs) (ht : Turn F w W) (hp : ∀ k, F' k → F k ∨ w.heap.size ≤ k) : Free W F' A vs := by
  rcases h with h | ⟨b, off, e, hb, hf, hc⟩
  · exact .inl h
  · refine .inr ⟨b, off, e, Nat.lt_of_lt_of_le hb ht.size, fun h => ?_, fun i v hv => ?_⟩
    · rcases hp b h with h | h
      · exact hf h
      · omega
    · have hbl := ht.block b hb hf
      have := hc i v hv
      unfold World.cell? at this ⊢
      rw [hbl]
      exact this
theorem Qat.conv {w W : World} {F F' : Nat → Prop} {v : Value} {s : Dv} (h : Qat w F v s) (ht : Turn F w W) (hp : ∀ k, F' k → F k ∨ w.heap.size ≤ k) : Qat W F' v s := by
  obtain ⟨A, A', c, c', e, h1, h2⟩ := h
  exact ⟨A, A', c, c', e, h1.conv ht hp, h2.conv ht hp⟩
theorem Qat.same {w w' : World} {F : Nat → Prop} {A A' : Option Addr} {c c' : Nat} {s s' : Dv} (h1 : Free w F A (s.sec.map .string)) (h2 : Free w F A' (putV s.puts)) (e1 : s'.sec = s.sec) (e2 : s'.puts = s.puts) (hb : Below w.heap.size w w') : Qat w' F (qv A A' c c' s') s' :=
  ⟨A, A', c, c', rfl, by rw [e1]; exact h1.below hb, by rw [e2]; exact h2.below hb⟩
theorem stepD_sec (s : Dv) : (stepD s).sec = s.sec := by unfold stepD; split <;> rfl
theorem stepD_puts (s : Dv) : (stepD s).puts = s.puts := by unfold stepD; split <;> rfl

def readR (s : Dv) (i : Int) : Dv × ByteArray × Int := if readyD s i = 0 then (readD s, shown s.sec s.puts i.toNat, 0) else (s, ⟨#[]⟩, readyD s i)
def writeR (s : Dv) (i : Int) (x : ByteArray) : Dv × Int := if readyD s i = 0 then (if x.size = 128 then (if s.fuse = 1 then (stepD s, 8) else (writeD s i.toNat x, 0)) else (s, 2)) else (s, readyD s i)
def syncR (s : Dv) : Dv × Int := if s.off then (s, 8) else if s.fuse = 1 then (stepD s, 8) else (syncD s, 0)
def fuseR (s : Dv) (n : Int) : Dv × Int := if s.off then (s, 8) else if n < 0 then (s, 2) else ({ s with fuse := n.toNat }, 0)

theorem ready_zero_iff {s : Dv} {i : Int} (h : readyD s i = 0) : s.off = false ∧ ∃ k : Nat, i = (k : Int) ∧ k < s.sec.length := by
  unfold readyD at h
  split at h
  · omega
  · next ho =>
    split at h
    · omega
    · next hi =>
      refine ⟨by simpa using ho, i.toNat, by omega, by omega⟩

section
variable {w : World} {F : Nat → Prop} {v : Value} {s : Dv} (hq : Qat w F v s) (hg : Good s) (hF : ∀ k, F k → k < w.heap.size)
include hq hg
theorem rread_q (hr : s.reads < 1000000) (i : Int) : Calls Try.prog 39 #[v, .int .i64 i] w fun e w' => ∃ v', e = .returned (.tuple #[v', .string (readR s i).2.1, .int .i64 (readR s i).2.2]) ∧ Qat w' F v' (readR s i).1 ∧ Below w.heap.size w w' := by
  obtain ⟨A, A', c, c', rfl, h1, h2⟩ := hq
  unfold readR
  by_cases h0 : readyD s i = 0
  · obtain ⟨ho, k, rfl, hk⟩ := ready_zero_iff h0
    rw [if_pos h0]
    refine (rread_yes A A' c c' s w hg k ho hk hr h1.row h2.row).mono ?_
    rintro e w' ⟨rfl, hb⟩
    exact ⟨_, rfl, Qat.same h1 h2 rfl rfl hb, hb⟩
  · rw [if_neg h0]
    refine (rread_no A A' c c' s w hg i h0).mono ?_
    rintro e w' ⟨rfl, hb⟩
    exact ⟨_, rfl, Qat.same h1 h2 rfl rfl hb, hb⟩
include hF
theorem rwrite_q (i : Int) (x : ByteArray) (hm : x.size ≤ maxLen) (hs : s.steps < 1000000) (hp : s.puts.length < 1000000) : Calls Try.prog 40 #[v, .int .i64 i, .string x] w (RetQ F (writeR s i x).1 (writeR s i x).2 w) := by
  obtain ⟨A, A', c, c', rfl, h1, h2⟩ := hq
  unfold writeR
  by_cases h0 : readyD s i = 0
  · rw [if_pos h0]
    by_cases hx : x.size = 128
    · rw [if_pos hx]
      by_cases hf : s.fuse = 1
      · rw [if_pos hf]
        refine (rwrite_down A A' c c' s w hg i x h0 hx hf hs).mono ?_
        rintro e w' ⟨rfl, hb⟩
        exact ⟨_, rfl, Qat.same h1 h2 (stepD_sec s) (stepD_puts s) hb, hb⟩
      · rw [if_neg hf]
        obtain ⟨ho, k, rfl, hk⟩ := ready_zero_iff h0
        exact rwrite_yes A A' c c' s w F hg hF h1 h2 k x ho hk hx hf hs hp
    · rw [if_neg hx]
      refine (rwrite_size A A' c c' s w hg i x h0 hm hx).mono ?_
      rintro e w' ⟨rfl, hb⟩
      exact ⟨_, rfl, Qat.same h1 h2 rfl rfl hb, hb⟩
  · rw [if_neg h0]
    refine (rwrite_no A A' c c' s w hg i x h0).mono ?_
    rintro e w' ⟨rfl, hb⟩
    exact ⟨_, rfl, Qat.same h1 h2 rfl rfl hb, hb⟩
theorem rsync_q (hs : s.steps < 1000000) : Calls Try.prog 41 #[v] w (RetQ F (syncR s).1 (syncR s).2 w) := by
  obtain ⟨A, A', c, c', rfl, h1, h2⟩ := hq
  unfold syncR
  by_cases ho : s.off = true
  · rw [if_pos ho]
    refine (rsync_off A A' c c' s w ho).mono ?_
    rintro e w' ⟨rfl, hb⟩
    exact ⟨_, rfl, Qat.same h1 h2 rfl rfl hb, hb⟩
  · have ho' : s.off = false := by simpa using ho
    rw [if_neg ho]
    by_cases hf : s.fuse = 1
    · rw [if_pos hf]
      refine (rsync_down A A' c c' s w hg ho' hf hs).mono ?_
      rintro e w' ⟨rfl, hb⟩
      exact ⟨_, rfl, Qat.same h1 h2 (stepD_sec s) (stepD_puts s) hb, hb⟩
    · rw [if_neg hf]
      exact rsync_yes A A' c c' s w F hg hF h1 h2 ho' hf hs
omit hg hF in
theorem rfuse_q (n : Int) : Calls Try.prog 42 #[v, .int .i64 n] w (RetQ F (fuseR s n).1 (fuseR s n).2 w) := by
  obtain ⟨A, A', c, c', rfl, h1, h2⟩ := hq
  unfold fuseR
  by_cases ho : s.off = true
  · rw [if_pos ho]
    have := rfuse_off A A' s.sec.length c s.puts.length c' s.off s.fuse s.reads s.steps w n
    unfold qv
    rw [ho]
    refine this.mono ?_
    rintro e w' ⟨rfl, hb⟩
    exact ⟨_, rfl, ⟨A, A', c, c', by unfold qv; rw [ho], h1.below hb, h2.below hb⟩, hb⟩
  · have ho' : s.off = false := by simpa using ho
    rw [if_neg ho]
    unfold qv
    rw [ho']
    by_cases hn : n < 0
    · rw [if_pos hn]
      refine (rfuse_neg A A' s.sec.length c s.puts.length c' s.off s.fuse s.reads s.steps w n hn).mono ?_
      rintro e w' ⟨rfl, hb⟩
      exact ⟨_, rfl, ⟨A, A', c, c', by unfold qv; rw [ho'], h1.below hb, h2.below hb⟩, hb⟩
    · rw [if_neg hn]
      refine (rfuse_set A A' s.sec.length c s.puts.length c' s.off s.fuse s.reads s.steps w n (by omega)).mono ?_
      rintro e w' ⟨rfl, hb⟩
      exact ⟨_, rfl, ⟨A, A', c, c', by unfold qv; show _ = Value.agg #[_, _, .bool false, .int .i64 ((n.toNat : Nat) : Int), _, _]; rw [show ((n.toNat : Nat) : Int) = n by omega], h1.below hb, h2.below hb⟩, hb⟩
theorem rcut_q (Ak : Option Addr) (keep : List Int) (ck : Nat) (torn n : Int) (hkl : keep.length ≤ 1000000) (hkr : Row w w.heap.size Ak (keep.map (Value.int .i64))) : Calls Try.prog 43 #[v, .slice Ak keep.length ck, .int .i64 torn, .int .i64 n] w (RetD F (cutD s keep torn n) w) := by
  obtain ⟨A, A', c, c', rfl, h1, h2⟩ := hq
  exact rcut_any A A' c c' s w F hg hF h1 h2 Ak keep ck torn n hkl hkr
omit hg hF in
theorem rboot_q : Calls Try.prog 44 #[v] w (RetD F (bootD s) w) := by
  obtain ⟨A, A', c, c', rfl, h1, h2⟩ := hq
  refine (rboot_any A A' s.sec.length c s.puts.length c' s.off s.fuse s.reads s.steps w).mono ?_
  rintro e w' ⟨rfl, hb⟩
  exact ⟨_, rfl, ⟨A, none, c, 0, rfl, h1.below hb, Free.nil _ _ _⟩, hb⟩
end

/-- how a call of a device ends -/
def DvRet (B : Nat) (F : Nat → Prop) (d gs c : Nat) (s : Dv) (v : Value) (w : World) (e : Ending) (w' : World) : Prop := e = .returned v ∧ ∃ F' pv', DevAt w' B F' d gs c pv' s ∧ Turn F w w' ∧ ∀ k, F' k → F k ∨ w.heap.size ≤ k
section
variable {w : World} {B : Nat} {F : Nat → Prop} {d gs c : Nat} {pv : Value} {s : Dv} (h : DevAt w B F d gs c pv s)
include h
theorem read_q (hr : s.reads < 1000000) (i : Int) : Calls Try.prog 26 #[.pointer (some ⟨d, 0, none⟩), .int .i64 i] w (DvRet B F d gs c (readR s i).1 (.tuple #[.string (readR s i).2.1, .int .i64 (readR s i).2.2]) w) := by
  unfold readR
  by_cases h0 : readyD s i = 0
  · obtain ⟨ho, k, rfl, hk⟩ := ready_zero_iff h0
    rw [if_pos h0]
    refine (read_yes h ho hr k hk).mono ?_
    rintro e w' ⟨rfl, hd, ht⟩
    exact ⟨rfl, F, pv, hd, ht.more (fun k hk => hk ▸ h.fd), fun k hk => .inl hk⟩
  · rw [if_neg h0]
    refine (read_no h i h0).mono ?_
    rintro e w' ⟨rfl, rfl⟩
    exact ⟨rfl, F, pv, h, Turn.refl _ _, fun k hk => .inl hk⟩
theorem write_q (i : Int) (x : ByteArray) (hm : x.size ≤ maxLen) (hs : s.steps < 1000000) (hp : s.puts.length < 1000000) : Calls Try.prog 10 #[.pointer (some ⟨d, 0, none⟩), .int .i64 i, .string x] w (DvRet B F d gs c (writeR s i x).1 (.int .i64 (writeR s i x).2) w) := by
  unfold writeR
  by_cases h0 : readyD s i = 0
  · rw [if_pos h0]
    by_cases hx : x.size = 128
    · rw [if_pos hx]
      by_cases hf : s.fuse = 1
      · rw [if_pos hf]
        refine (write_down h i x h0 hx hf).mono ?_
        rintro e w' ⟨rfl, hd, ht⟩
        exact ⟨rfl, F, pv, hd, ht.more (fun k hk => hk ▸ h.fd), fun k hk => .inl hk⟩
      · rw [if_neg hf]
        obtain ⟨ho, k, rfl, hk⟩ := ready_zero_iff h0
        refine (write_yes h k x ho hk hx hf hs hp).mono ?_
        rintro e w' ⟨rfl, pv', hd, ht⟩
        exact ⟨rfl, _, pv', hd, ht, fun k hk => hk.elim .inl (fun h => .inr h.1)⟩
    · rw [if_neg hx]
      refine (write_size h i x h0 hm hx).mono ?_
      rintro e w' ⟨rfl, rfl⟩
      exact ⟨rfl, F, pv, h, Turn.refl _ _, fun k hk => .inl hk⟩
  · rw [if_neg h0]
    refine (write_no h i x h0).mono ?_
    rintro e w' ⟨rfl, rfl⟩
    exact ⟨rfl, F, pv, h, Turn.refl _ _, fun k hk => .inl hk⟩
theorem sync_q (hs : s.steps < 1000000) : Calls Try.prog 12 #[.pointer (some ⟨d, 0, none⟩)] w (DvRet B F d gs c (syncR s).1 (.int .i64 (syncR s).2) w) := by
  unfold syncR
  by_cases ho : s.off = true
  · rw [if_pos ho]
    refine (sync_no h ho).mono ?_
    rintro e w' ⟨rfl, rfl⟩
    exact ⟨rfl, F, pv, h, Turn.refl _ _, fun k hk => .inl hk⟩
  · have ho' : s.off = false := by simpa using ho
    rw [if_neg ho]
    by_cases hf : s.fuse = 1
    · rw [if_pos hf]
      refine (sync_down h ho' hf).mono ?_
      rintro e w' ⟨rfl, hd, ht⟩
      exact ⟨rfl, F, pv, hd, ht.more (fun k hk => hk ▸ h.fd), fun k hk => .inl hk⟩
    · rw [if_neg hf]
      refine (sync_yes h ho' hf hs).mono ?_
      rintro e w' ⟨rfl, hd, ht⟩
      exact ⟨rfl, F, _, hd, ht, fun k hk => .inl hk⟩
theorem fuse_q (n : Int) (hn : n ≤ 9223372036854775807) : Calls Try.prog 27 #[.pointer (some ⟨d, 0, none⟩), .int .i64 n] w (DvRet B F d gs c (fuseR s n).1 (.int .i64 (fuseR s n).2) w) := by
  unfold fuseR
  by_cases ho : s.off = true
  · rw [if_pos ho]
    refine (fuse_off h ho n).mono ?_
    rintro e w' ⟨rfl, rfl⟩
    exact ⟨rfl, F, pv, h, Turn.refl _ _, fun k hk => .inl hk⟩
  · have ho' : s.off = false := by simpa using ho
    rw [if_neg ho]
    by_cases h0 : n < 0
    · rw [if_pos h0]
      refine (fuse_neg h ho' n h0).mono ?_
      rintro e w' ⟨rfl, rfl⟩
      exact ⟨rfl, F, pv, h, Turn.refl _ _, fun k hk => .inl hk⟩
    · rw [if_neg h0]
      have := fuse_set h ho' n.toNat (by omega)
      rw [show ((n.toNat : Nat) : Int) = n by omega] at this
      refine this.mono ?_
      rintro e w' ⟨rfl, hd, ht⟩
      exact ⟨rfl, F, pv, hd, ht.more (fun k hk => hk ▸ h.fd), fun k hk => .inl hk⟩
theorem cut_q (A : Option Addr) (keep : List Int) (ck : Nat) (torn n : Int) (hkl : keep.length ≤ maxLen) (hkr : Row w B A (keep.map (Value.int .i64))) : Calls Try.prog 14 #[.pointer (some ⟨d, 0, none⟩), .slice A keep.length ck, .int .i64 torn, .int .i64 n] w (DvRet B F d gs c (cutD s keep torn n) (.int .i64 0) w) := by
  refine (cut_yes h A keep ck torn n hkl hkr).mono ?_
  rintro e w' ⟨rfl, hd, ht⟩
  exact ⟨rfl, F, _, hd, ht, fun k hk => .inl hk⟩
theorem boot_q : Calls Try.prog 28 #[.pointer (some ⟨d, 0, none⟩)] w (DvRet B F d gs c (bootD s) (.int .i64 0) w) := by
  refine (boot_yes h).mono ?_
  rintro e w' ⟨rfl, hd, ht⟩
  exact ⟨rfl, F, _, hd, ht.more (fun k hk => hk ▸ h.fd), fun k hk => .inl hk⟩
end

end Go.Proofs.Ytbjjfbojcokmgaa.Dv
