/- Layer 7: Read's errors; a write: Write. -/
import Derived.Test.YtbjjfbojcokmgaaDv4
namespace Go.Proofs.Ytbjjfbojcokmgaa.Dv
open Go.RowKit Base
set_option linter.unusedVariables false
set_option linter.unusedSimpArgs false

theorem info_put : (Try.prog.info? 65).map (fun i => (i.zero, i.size, i.bytes)) = some (some (.agg #[.int .i64 0, .string ByteArray.empty]), 2, 24) := by kernel_rfl
theorem cell_two_new (w : World) (x y : Value) (t : TypeId) : ∀ j u, [x, y][j]? = some u → (w.alloc (.cells #[x, y] t)).cell? ((⟨w.heap.size, 0, none⟩ : Addr).add j) = some u := by
  intro j u hj
  rw [add_at, Nat.zero_add, (Box.new w t #[x, y]).cell]
  match j, hj with
  | 0, hj => simpa using hj
  | 1, hj => simpa using hj
/-- append(s, p) of one element of two cells -/
theorem wpList_append2 {P : Program} {ops : Array Oper} {rest : List Oper} {o : Oper} {a : Act} {Q : Exit → Act → World → Prop} (hgd : o.guard = none) (s x : Operand) (t : TypeId)
    (ho : o.op = .call { callee := .builtin .append, args := #[s, x], argTypes := #[t, t] })
    (base : Nat) (e : TypeId) (i : TypeInfo) (z : Value) (bytes : Nat) (ht : P.underlying t = some (.slice e)) (hi : P.info? e = some i) (hz : i.zero = some z)
    (hsize : i.size = 2) (hby : i.bytes = bytes) (hzs : z.cells.size = 2)
    (wr : World) (u1 u2 : Value) (hu1 : u1.oneCell' = true) (hu2 : u2.oneCell' = true) (v : Value) (n : Nat) (xs : List Value) (hs : a.eval s = v) (hown : wr.ownsRow base e 2 v n xs)
    (hx : a.eval x = .slice (some ⟨wr.heap.size, 0, none⟩) 1 1)
    (hn : n < 1048576 * 64) (hb : bytes ≤ 256) (hbase : base ≤ wr.heap.size)
    (h : ∀ v' w', w'.ownsRow base e 2 v' (n + 1) (xs ++ [u1, u2]) → App wr w' v v' → wpList P ops Q rest (a.put o.dst v') w') :
    wpList P ops Q (o :: rest) a (wr.alloc (.cells #[u1, u2] e)) := by
  refine wpList_append_own_at _ hgd s x t ho base e i z 2 bytes ht hi hz hsize hby hzs (by decide) v n xs hs (hown.alloc _) ⟨wr.heap.size, 0, none⟩ 1 1 [u1, u2] hx rfl (cell_two_new _ _ _ _) ?_ ?_ ?_ ?_ ?_
  · intro y hy
    simp at hy
    rcases hy with rfl | rfl
    · exact hu1
    · exact hu2
  · unfold maxLen; omega
  · have : (n + 1) * bytes ≤ (1048576 * 64) * 256 := Nat.mul_le_mul (by omega) hb
    omega
  · simp; omega
  · intro v' w' h1 h2 _ h4
    refine h v' w' h1 ⟨⟨h2.os, h2.tape, h2.output, Nat.le_trans (by simp) h2.size, fun k hk hne => (h2.block k (by simp; omega) hne).trans (Below.heap_alloc _ _ _ hk)⟩, ?_⟩
    rcases h4 with h4 | h4
    · exact .inl h4
    · exact .inr ⟨_, h4, by simp⟩

theorem own_form2 {w : World} {base : Nat} {e : TypeId} {size : Nat} {v : Value} {n : Nat} {xs : List Value} (h : w.ownsRow base e size v n xs) : ∃ A c, v = .slice A n c := by
  rcases h.2 with ⟨h, h0⟩ | ⟨g, cap, cur, h, _⟩
  · exact ⟨none, 0, by rw [h, h0]⟩
  · exact ⟨_, _, h⟩
section
variable {w : World} {B : Nat} {F : Nat → Prop} {d gs c : Nat} {pv : Value} {s : Dv}
theorem DevAt.n0 (h : DevAt w B F d gs c pv s) : 0 < s.sec.length := by have := h.good.lo; omega
theorem DevAt.n1 (h : DevAt w B F d gs c pv s) : s.sec.length ≤ 1000000 := by have := h.good.hi; omega
theorem DevAt.box0 (h : DevAt w B F d gs c pv s) {b : Bool} (hb : s.off = b) : Box w d 56 #[.slice (some ⟨gs, 0, none⟩) s.sec.length c, pv, .int .i64 s.fuse, .int .i64 s.reads, .int .i64 s.steps, .bool b] := hb ▸ h.box
end
/-- why a sector can't be reached -/
def readyD (s : Dv) (i : Int) : Int := if s.off then 8 else if i < 0 ∨ (s.sec.length : Int) ≤ i then 9 else 0
theorem ready_any {w : World} {B : Nat} {F : Nat → Prop} {d gs c : Nat} {pv : Value} {s : Dv} (h : DevAt w B F d gs c pv s) (i : Int) :
    Calls Try.prog 32 #[.pointer (some ⟨d, 0, none⟩), .int .i64 i] w fun e w' => e = .returned (.int .i64 (readyD s i)) ∧ w = w' := by
  unfold readyD
  by_cases ho : s.off = true
  · rw [if_pos ho]
    exact ready_off d _ _ c pv _ _ _ w (h.box0 ho) h.n0 h.n1 i
  · have ho' : s.off = false := by simpa using ho
    rw [if_neg ho]
    by_cases h0 : i < 0
    · rw [if_pos (.inl h0)]
      exact ready_neg d _ _ c pv _ _ _ w (h.box0 ho') h.n0 h.n1 i h0
    · by_cases h1 : (s.sec.length : Int) ≤ i
      · rw [if_pos (.inr h1)]
        exact ready_big d _ _ c pv _ _ _ w (h.box0 ho') h.n0 h.n1 i h1
      · rw [if_neg (by omega)]
        exact ready_yes d _ _ c pv _ _ _ w (h.box0 ho') h.n0 h.n1 i (by omega) (by omega)
theorem readyD_bd (s : Dv) (i : Int) : readyD s i = 0 ∨ readyD s i = 8 ∨ readyD s i = 9 := by
  unfold readyD
  split
  · exact .inr (.inl rfl)
  · split
    · exact .inr (.inr rfl)
    · exact .inl rfl
set_option maxHeartbeats 400000 in
theorem read_no {w : World} {B : Nat} {F : Nat → Prop} {d gs c : Nat} {pv : Value} {s : Dv} (h : DevAt w B F d gs c pv s) (i : Int) (hi : readyD s i ≠ 0) :
    Calls Try.prog 26 #[.pointer (some ⟨d, 0, none⟩), .int .i64 i] w fun e w' => e = .returned (.tuple #[.string ⟨#[]⟩, .int .i64 (readyD s i)]) ∧ w = w' := by
  have HR := Lib.hid (ready_any h i)
  generalize readyD s i = q at *
  have hq : (q != 0) = true := by rw [bne_iff_ne]; exact hi
  clear h hi
  go_enter Try.func26, Try.ntmps26
  go_wp2_with fail
  refine HR.out.mono ?_
  rintro e w' ⟨rfl, rfl⟩
  go_wp2_with fail
  go_ret2
  exact ⟨rfl, rfl⟩
set_option maxHeartbeats 400000 in
theorem write_no {w : World} {B : Nat} {F : Nat → Prop} {d gs c : Nat} {pv : Value} {s : Dv} (h : DevAt w B F d gs c pv s) (i : Int) (x : ByteArray) (hi : readyD s i ≠ 0) :
    Calls Try.prog 10 #[.pointer (some ⟨d, 0, none⟩), .int .i64 i, .string x] w fun e w' => e = .returned (.int .i64 (readyD s i)) ∧ w = w' := by
  have HR := Lib.hid (ready_any h i)
  generalize readyD s i = q at *
  have hq : (q != 0) = true := by rw [bne_iff_ne]; exact hi
  clear h hi
  go_enter Try.func10, Try.ntmps10
  go_wp2_with fail
  refine HR.out.mono ?_
  rintro e w' ⟨rfl, rfl⟩
  go_wp2_with fail
  go_ret
  exact ⟨rfl, rfl⟩
set_option maxHeartbeats 400000 in
theorem write_size {w : World} {B : Nat} {F : Nat → Prop} {d gs c : Nat} {pv : Value} {s : Dv} (h : DevAt w B F d gs c pv s) (i : Int) (x : ByteArray) (hi : readyD s i = 0) (hm : x.size ≤ maxLen) (hx : x.size ≠ 128) :
    Calls Try.prog 10 #[.pointer (some ⟨d, 0, none⟩), .int .i64 i, .string x] w fun e w' => e = .returned (.int .i64 2) ∧ w = w' := by
  have HR := Lib.hid (ready_any h i)
  rw [hi] at HR
  unfold maxLen at hm
  have hd : ((x.size : Int) != 128) = true := by rw [bne_iff_ne]; omega
  clear h hi hx
  go_enter Try.func10, Try.ntmps10
  go_wp2_with fail
  refine HR.out.mono ?_
  rintro e w' ⟨rfl, rfl⟩
  go_wp2_with fail
  go_ret
  exact ⟨rfl, rfl⟩
set_option maxHeartbeats 400000 in
theorem write_down {w : World} {B : Nat} {F : Nat → Prop} {d gs c : Nat} {pv : Value} {s : Dv} (h : DevAt w B F d gs c pv s) (i : Int) (x : ByteArray) (hi : readyD s i = 0) (hx : x.size = 128) (hf : s.fuse = 1) :
    Calls Try.prog 10 #[.pointer (some ⟨d, 0, none⟩), .int .i64 i, .string x] w fun e w' => e = .returned (.int .i64 8) ∧ DevAt w' B F d gs c pv (stepD s) ∧ Turn (· = d) w w' := by
  have HR := Lib.hid (ready_any h i)
  rw [hi] at HR
  have HS := Lib.hid (step_down h hf)
  clear h hi hf
  go_enter Try.func10, Try.ntmps10
  go_wp2_with fail
  refine HR.out.mono ?_
  rintro e w' ⟨rfl, rfl⟩
  go_wp2_with fail
  refine HS.out.mono ?_
  rintro e w1 ⟨rfl, h1, ht⟩
  have H1 := Lib.hid h1
  have Ht := Lib.hid ht
  clear h1 ht
  go_wp2_with fail
  go_ret
  exact ⟨rfl, H1.out, Ht.out⟩

/-- a device's blocks, and what is new -/
def more (F : Nat → Prop) (w w' : World) (k : Nat) : Prop := F k ∨ (w.heap.size ≤ k ∧ k < w'.heap.size)
def writeD (s : Dv) (i : Nat) (x : ByteArray) : Dv := { stepD s with puts := s.puts ++ [(i, x)] }
def Wrote (B : Nat) (F : Nat → Prop) (d gs c : Nat) (s : Dv) (w : World) (e : Ending) (w' : World) : Prop := e = .returned (.int .i64 0) ∧ ∃ pv, DevAt w' B (more F w w') d gs c pv s ∧ Turn F w w'
theorem stepD_go {s : Dv} (h : s.fuse ≠ 1) : stepD s = { s with fuse := s.fuse - 1, steps := s.steps + 1 } := by unfold stepD; rw [if_neg h]
theorem DevAt.wrote {w w1 w2 : World} {B : Nat} {F : Nat → Prop} {d gs c i : Nat} {pv pv' : Value} {s : Dv} {x : ByteArray} (h1 : DevAt w1 B F d gs c pv s) (ht : Turn (· = d) w w1) (hfw : ∀ k, F k → k < w.heap.size)
    (hown : w2.ownsRow B 65 2 pv' (s.puts.length + 1) (putV s.puts ++ [.int .i64 (i : Nat), .string x])) (happ : App w1 w2 pv pv') (hg : Good { s with puts := s.puts ++ [(i, x)] }) :
    DevAt (w2.setCell ⟨d, 1, none⟩ pv') B (more F w (w2.setCell ⟨d, 1, none⟩ pv')) d gs c pv' { s with puts := s.puts ++ [(i, x)] } ∧ Turn F w (w2.setCell ⟨d, 1, none⟩ pv') := by
  have hsz : (w2.setCell ⟨d, 1, none⟩ pv').heap.size = w2.heap.size := by simp
  have hws : w.heap.size ≤ w1.heap.size := ht.size
  have hgr := happ.grown
  have hb2 : Box w2 d 56 _ := h1.box.grown hgr (fun e => h1.pd e.symm)
  have hpb : ∀ k, pv'.ownBlock = some k → k ≠ d ∧ k ≠ gs ∧ (F k ∨ w.heap.size ≤ k) := by
    intro k hk
    rcases happ.lies with e | ⟨j, e, hj⟩
    · rw [e] at hk
      exact ⟨fun e2 => h1.pd (by rw [hk, e2]), fun e2 => h1.pg (by rw [hk, e2]), .inl (h1.fp k hk)⟩
    · rw [hk] at e
      injection e with e
      subst e
      have a1 := (h1.own d h1.fd).2
      have a2 := (h1.own gs h1.fg).2
      exact ⟨by omega, by omega, .inr (by omega)⟩
  have hlt2 : ∀ k, pv'.ownBlock = some k → k < w2.heap.size := fun k hk => (hown.lt k hk).2
  have hbase : B ≤ w1.heap.size := Nat.le_of_lt (Nat.lt_of_le_of_lt (h1.own d h1.fd).1 (h1.own d h1.fd).2)
  have hT : Turn (· = d) w2 (w2.setCell ⟨d, 1, none⟩ pv') := Turn.cell (Turn.refl _ w2) _ _
  have hsec2 : w2.ownsRow B 9 1 (.slice (some ⟨gs, 0, none⟩) s.sec.length c) s.sec.length (s.sec.map .string) := h1.sec.kept hgr (.inr (by simp [Value.ownBlock]; exact fun e => h1.pg e.symm))
  refine ⟨⟨?_, ?_, ?_, h1.dg, ?_, ?_, .inl h1.fd, .inl h1.fg, ?_, ?_, hg⟩, ?_⟩
  · exact hb2.set 1 pv'
  · exact own_turn hsec2 hT (fun k hk => by simp [Value.ownBlock] at hk; subst hk; exact fun e => h1.dg e.symm)
  · show World.ownsRow _ _ _ _ _ (s.puts ++ [(i, x)]).length (putV (s.puts ++ [(i, x)]))
    rw [putV_app, List.length_append]
    exact own_turn hown hT (fun k hk => (hpb k hk).1)
  · intro e
    exact (hpb d e).1 rfl
  · intro e
    exact (hpb gs e).2.1 rfl
  · intro k hk
    rcases (hpb k hk).2.2 with h | h
    · exact .inl h
    · exact .inr ⟨h, by rw [hsz]; exact hlt2 k hk⟩
  · intro k hk
    rw [hsz]
    rcases hk with hk | ⟨hk, hk2⟩
    · have a := hfw k hk
      have b := (h1.own k hk).1
      have c := hgr.size
      exact ⟨b, by omega⟩
    · rw [hsz] at hk2
      have b := (h1.own d h1.fd).1
      have c := hfw d h1.fd
      exact ⟨by omega, hk2⟩
  · have t1 : Turn F w w1 := ht.more (fun k hk => hk ▸ h1.fd)
    have t2 : Turn F w1 w2 := ⟨hgr.os, hgr.tape, hgr.output, hgr.size, fun k hk hn => hgr.block k hk (fun e => hn (h1.fp k e.symm))⟩
    exact (t1.trans t2).trans (hT.more (fun k hk => hk ▸ h1.fd))

set_option maxRecDepth 100000 in
set_option maxHeartbeats 1000000 in
theorem write_yes {w : World} {B : Nat} {F : Nat → Prop} {d gs c : Nat} {pv : Value} {s : Dv} (h : DevAt w B F d gs c pv s) (i : Nat) (x : ByteArray) (ho : s.off = false) (hi : i < s.sec.length) (hx : x.size = 128) (hf : s.fuse ≠ 1) (hst : s.steps < 1000000) (hpn : s.puts.length < 1000000) :
    Calls Try.prog 10 #[.pointer (some ⟨d, 0, none⟩), .int .i64 i, .string x] w (Wrote B F d gs c (writeD s i x) w) := by
  have hq : readyD s i = 0 := by unfold readyD; rw [if_neg (by rw [ho]; simp), if_neg (by omega)]
  have HR := Lib.hid (ready_any h i)
  rw [hq] at HR
  have HS := Lib.hid (step_go h hf hst)
  have hG : Good (writeD s i x) := by
    have hg := h.good
    have hgf := hg.fuse
    unfold writeD
    rw [stepD_go hf]
    refine ⟨hg.lo, hg.hi, hg.sec, fun p hp => ?_, fun p hp => ?_, ?_, by show s.fuse - 1 ≤ _; omega, hg.reads, by show s.steps + 1 ≤ _; omega⟩
    · rcases List.mem_append.1 hp with hp | hp
      · exact hg.at_ p hp
      · simp at hp; subst hp; exact hi
    · rcases List.mem_append.1 hp with hp | hp
      · exact hg.data p hp
      · simp at hp; subst hp; exact hx
    · show (s.puts ++ [(i, x)]).length ≤ _
      rw [List.length_append]
      simp
      omega
  have hfw := Lib.hid (fun k hk => (h.own k hk).2)
  have Hput := Lib.hid (show (stepD s).puts = s.puts by rw [stepD_go hf])
  have HQ := Lib.hid (show ∀ e w', e = .returned (.int .i64 0) → (∃ pv, DevAt w' B (more F w w') d gs c pv (writeD s i x) ∧ Turn F w w') → Wrote B F d gs c (writeD s i x) w e w' from fun e w' a b => ⟨a, b⟩)
  have HG := Lib.hid hG
  obtain ⟨i0, ti0, tz0, tz1, tz2⟩ := info_parts info_put
  have Hpn := Lib.hid hpn
  clear hq hi hf hst h hG ho hpn
  generalize hQ : Wrote B F d gs c (writeD s i x) w = Q at *
  clear hQ
  go_enter Try.func10, Try.ntmps10
  go_wp2_with fail
  refine HR.out.mono ?_
  rintro e w' ⟨rfl, rfl⟩
  go_wp2_with fail
  refine HS.out.mono ?_
  rintro e w1 ⟨rfl, h1, ht⟩
  have H1 := Lib.hid h1
  have Ht := Lib.hid ht
  obtain ⟨⟨k0, k1, k2, k3, k4, k5⟩, ⟨f0, f1, f2, f3, f4, f5⟩⟩ := Box.six h1.box
  have hown1 := Lib.hid h1.puts
  have Hbase : Hid (B ≤ w1.heap.size) := Lib.hid (Nat.le_of_lt (Nat.lt_of_le_of_lt (h1.own d h1.fd).1 (h1.own d h1.fd).2))
  clear h1 ht k0 k2 k3 k4 k5 f0 f2 f3 f4 f5
  go_wp2_with (at_builtin; refine wpList_append2 rfl _ _ 36 rfl B 65 i0 (.agg #[.int .i64 0, .string ByteArray.empty]) 24 Try.underlying36 ti0 tz0 tz1 tz2 rfl w1 (.int .i64 (i : Nat)) (.string x) rfl rfl pv (stepD s).puts.length (putV (stepD s).puts) rfl hown1.out rfl (by rw [Hput.out]; have := Hpn.out; omega) (by decide) Hbase.out ?_; intro pv' w2 hown2 happ; obtain ⟨A', c', hpv⟩ := own_form2 hown2; subst hpv; have Hown2 := Lib.hid hown2; have Happ := Lib.hid happ; have hb2 := H1.out.box.grown happ.grown (fun e => H1.out.pd e.symm); obtain ⟨⟨m0, m1, m2, m3, m4, m5⟩, ⟨n0, n1, n2, n3, n4, n5⟩⟩ := Box.six hb2; clear hown2 happ hb2 m0 m2 m3 m4 m5 n0 n2 n3 n4 n5)
  have e : { stepD s with puts := (stepD s).puts ++ [(i, x)] } = writeD s i x := by unfold writeD; rw [Hput.out]
  have key := DevAt.wrote (x := x) (i := i) H1.out Ht.out hfw.out Hown2.out Happ.out (by rw [e]; exact HG.out)
  rw [e] at key
  exact HQ.out _ _ rfl ⟨_, key⟩

end Go.Proofs.Ytbjjfbojcokmgaa.Dv
