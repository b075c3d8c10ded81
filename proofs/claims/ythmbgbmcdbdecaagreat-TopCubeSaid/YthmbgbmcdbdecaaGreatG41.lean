/- Parts of a proof: Layer 29: a fact taken. Layer 29: what stays while tuples are gone through; tuples in plain words. Layer 29: a cell of a cube's tuples. -/
import Derived.Test.YthmbgbmcdbdecaaGreatG05
import Derived.Test.YthmbgbmcdbdecaaGreatG32
import Derived.Test.YthmbgbmcdbdecaaGreatG40
namespace Go.Proofs.YthmbgbmcdbdecaaGreat.Tc
open Go.RowKit Base
set_option linter.unusedVariables false
set_option linter.unusedSimpArgs false
theorem Box.six_ {w : World} {g : Nat} {t : TypeId} {a0 a1 a2 a3 a4 a5 : Value} (h : Box w g t #[a0, a1, a2, a3, a4, a5]) :
 (w.cell? ⟨g, 0, none⟩ = some a0 ∧ w.cell? ⟨g, 1, none⟩ = some a1 ∧ w.cell? ⟨g, 2, none⟩ = some a2 ∧ w.cell? ⟨g, 3, none⟩ = some a3 ∧ w.cell? ⟨g, 4, none⟩ = some a4 ∧ w.cell? ⟨g, 5, none⟩ = some a5) ∧ (∀ i, w.frozen? ⟨g, i, none⟩ = false) :=
 ⟨⟨h.cell 0, h.cell 1, h.cell 2, h.cell 3, h.cell 4, h.cell 5⟩, fun i => h.free i⟩
theorem keepTen {w w' : World} {g : Nat} {v0 v1 v2 v3 v4 v5 v6 v7 v8 v9 : Value} (hb : w'.heap[g]? = w.heap[g]?) (h : w.cell? ⟨g, 0, none⟩ = some v0 ∧ w.cell? ⟨g, 1, none⟩ = some v1 ∧ w.cell? ⟨g, 2, none⟩ = some v2 ∧ w.cell? ⟨g, 3, none⟩ = some v3 ∧ w.cell? ⟨g, 4, none⟩ = some v4 ∧ w.cell? ⟨g, 5, none⟩ = some v5 ∧ w.cell? ⟨g, 6, none⟩ = some v6 ∧ w.cell? ⟨g, 7, none⟩ = some v7 ∧ w.cell? ⟨g, 8, none⟩ = some v8 ∧ w.cell? ⟨g, 9, none⟩ = some v9) : w'.cell? ⟨g, 0, none⟩ = some v0 ∧ w'.cell? ⟨g, 1, none⟩ = some v1 ∧ w'.cell? ⟨g, 2, none⟩ = some v2 ∧ w'.cell? ⟨g, 3, none⟩ = some v3 ∧ w'.cell? ⟨g, 4, none⟩ = some v4 ∧ w'.cell? ⟨g, 5, none⟩ = some v5 ∧ w'.cell? ⟨g, 6, none⟩ = some v6 ∧ w'.cell? ⟨g, 7, none⟩ = some v7 ∧ w'.cell? ⟨g, 8, none⟩ = some v8 ∧ w'.cell? ⟨g, 9, none⟩ = some v9 := by
 have e : ∀ i, w'.cell? ⟨g, i, none⟩ = w.cell? ⟨g, i, none⟩ := fun i => World.cell?_of_block (a := ⟨g, i, none⟩) hb
 simp only [e]
 exact h
def FactRet (c : Wc) (F : Nat → Prop) (Ak : Option Addr) (ck : Nat) (keys : List Nat) (fs : List Fa) (a : Ag) (w : World) (e : Ending) (w' : World) : Prop :=
 e = .returned (.tuple #[]) ∧ ∃ (Ao' : Option Addr) (co' : Nat) (f : Fa), pl f = (keys, a) ∧ Wk c w' (more F w w') Ak ck keys Ao' co' (fs ++ [f]) ∧ Turn F w w'
set_option maxRecDepth 100000 in
set_option maxHeartbeats 8000000 in
theorem wfact_any (c : Wc) (F : Nat → Prop) (Ak Ao : Option Addr) (ck co : Nat) (keys : List Nat) (fs : List Fa) (a : Ag) (w : World) (h : Wk c w F Ak ck keys Ao co fs) (hlt : fs.length < c.wm) (hwm : c.wm ≤ 1000000) (hk : keys.length ≤ 1000) :
 Calls Tryz.prog 106 #[.pointer (some ⟨c.gb, 0, none⟩), .agg (agC a)] w (FactRet c F Ak ck keys fs a w) := by
 obtain ⟨i0, ti0, tz0, tz1, tz2⟩ := info_parts info_fact
 have HQ := kp (show ∀ (Ao' : Option Addr) (co' : Nat) (f : Fa) w', pl f = (keys, a) → Wk c w' (more F w w') Ak ck keys Ao' co' (fs ++ [f]) → Turn F w w' → FactRet c F Ak ck keys fs a w (.returned (.tuple #[])) w' from fun Ao' co' f w' h1 h2 h3 => ⟨rfl, Ao', co', f, h1, h2, h3⟩)
 have HC := kp (fun W hr => cloneInts_any Ak ck keys W (by omega) hr)
 have Hh := kp h
 have HpL := kp (show ∀ A' c' : _, pl ⟨A', keys, c', a⟩ = (keys, a) from fun _ _ => rfl)
 obtain ⟨ac, s0, n0, x0, s1, n1, x1, s2, n2, x2⟩ := a
 generalize hQ : FactRet c F Ak ck keys fs ⟨ac, s0, n0, x0, s1, n1, x1, s2, n2, x2⟩ w = Q at *
 dsimp only [agC]
 have hb0 := (Below.refl w.heap.size w).alloc (Nat.le_refl _) (.cells #[.int .i64 ac, .int .i64 s0, .int .i64 n0, .int .i64 x0, .int .i64 s1, .int .i64 n1, .int .i64 x1, .int .i64 s2, .int .i64 n2, .int .i64 x2] 47)
 have HA0 := kp (Box.new w 47 #[.int .i64 ac, .int .i64 s0, .int .i64 n0, .int .i64 x0, .int .i64 s1, .int .i64 n1, .int .i64 x1, .int .i64 s2, .int .i64 n2, .int .i64 x2])
 have HB0 := kp (h.box.under hb0)
 have Hb0 := kp hb0
 have hgb : c.gb < w.heap.size := h.box.lt
 have Hrow := kp (row_ownK h.kown)
 have HneO := kp (show (Value.slice Ao fs.length co).ownBlock ≠ some c.gb from fun e => (h.Fo _ e).2.1 rfl)
 have HltO := kp (show ∀ j, (Value.slice Ao fs.length co).ownBlock = some j → j < w.heap.size from fun j hj => (h.out.1.lt j hj).2)
 have HownO := kp h.out
 have hB := kp h.ge
 obtain ⟨n, hn⟩ : ∃ n, fs.length = n := ⟨_, rfl⟩
 have Hn := kp hn
 obtain ⟨cB, gb, ga, nx, wm⟩ := c
 dsimp only [wkC] at HB0 hgb hlt hwm HneO HownO hB ⊢
 rw [hn] at HB0 hlt HneO HltO HownO
 clear hQ h hb0 hn
 generalize hW0 : w.alloc (.cells #[.int .i64 ac, .int .i64 s0, .int .i64 n0, .int .i64 x0, .int .i64 s1, .int .i64 n1, .int .i64 x1, .int .i64 s2, .int .i64 n2, .int .i64 x2] 47) = W0 at *
 have q1 : ¬ (wm : Int) ≤ (n : Int) := by omega
 have q1d : decide ((wm : Int) ≤ (n : Int)) = false := decide_eq_false q1
 have q1n : decide (wm ≤ n) = false := decide_eq_false (by omega)
 obtain ⟨⟨b0, b1, b2, b3, b4, b5⟩, bf⟩ := Box.six_ HB0.out
 have bf4 := bf 4
 clear bf
 go_enter Tryz.func106, Tryz.ntmps106
 go_upto_region 1 with fail
 clear hW0
 refine wp_region_noPanic ?_
 refine wp_region_T (t := 99) (S := (fun w' => w'.cell? ⟨gb, 4, none⟩ = some (.slice Ao n co) ∧ w'.cell? ⟨gb, 3, none⟩ = some (.int .i64 (wm : Nat)))) (by kernel_rfl) ⟨b4, b3⟩ (fun hHeld => ?_)
 refine tk 0 hHeld ?_
 refine tk 1 hHeld ?_
 refine tk 2 hHeld ?_
 refine tk 3 hHeld ?_
 refine tk 4 hHeld ?_
 refine tk 5 hHeld ?_
 refine tk 6 hHeld ?_
 refine tk 7 hHeld ?_
 refine tk 8 hHeld ?_
 refine tk 9 hHeld ?_
 refine wpAnyT_done (by kernel_rfl) ?_ _
 try clear hHeld
 refine NoPanic.normal ?_
 go_upto_region 3 with fail
 obtain ⟨z0, z1, z2, z3, z4, z5, z6, z7, z8, z9⟩ := (Box.ten HA0.out).1
 have hgW : gb < W0.heap.size := HB0.out.lt
 have hga0 : w.heap.size < W0.heap.size := HA0.out.lt
 refine wp_region_noPanic ?_
 refine wp_region_U (t := 16) (S := (fun w' => (w'.cell? ⟨gb, 4, none⟩ = some (.slice Ao n co) ∧ w'.frozen? ⟨gb, 4, none⟩ = false) ∧ w'.cell? ⟨gb, 2, none⟩ = some (.slice Ak keys.length ck) ∧ (w'.cell? ⟨w.heap.size, 0, none⟩ = some (.int .i64 ac) ∧ w'.cell? ⟨w.heap.size, 1, none⟩ = some (.int .i64 s0) ∧ w'.cell? ⟨w.heap.size, 2, none⟩ = some (.int .i64 n0) ∧ w'.cell? ⟨w.heap.size, 3, none⟩ = some (.int .i64 x0) ∧ w'.cell? ⟨w.heap.size, 4, none⟩ = some (.int .i64 s1) ∧ w'.cell? ⟨w.heap.size, 5, none⟩ = some (.int .i64 n1) ∧ w'.cell? ⟨w.heap.size, 6, none⟩ = some (.int .i64 x1) ∧ w'.cell? ⟨w.heap.size, 7, none⟩ = some (.int .i64 s2) ∧ w'.cell? ⟨w.heap.size, 8, none⟩ = some (.int .i64 n2) ∧ w'.cell? ⟨w.heap.size, 9, none⟩ = some (.int .i64 x2)))) (by kernel_rfl) ⟨⟨b4, bf4⟩, b2, ⟨z0, z1, z2, z3, z4, z5, z6, z7, z8, z9⟩⟩ (fun hHeld => ?_)
 refine tu 0 hHeld ?_
 refine tu 1 hHeld ?_
 refine tu 2 hHeld ?_
 refine tu 3 hHeld ?_
 refine tu 4 hHeld ?_
 refine tu 5 hHeld ?_
 refine tu 6 hHeld ?_
 refine tu 7 hHeld ?_
 refine tu 8 hHeld ?_
 refine tu 10 hHeld ?_
 refine wpAnyU_one (i := 9) (o := ?or9) (by kernel_rfl) ?ar9 (by decide) (fun K hK => ?br9)
 case ar9 => (simp only [List.getElem?_toArray, List.getElem?_cons_succ, List.getElem?_cons_zero]; exact rfl)
 go_simp
 refine (HC.out W0.drew.drew ((Hrow.out.below Hb0.out).more Hb0.out.size)).mono ?_
 rintro e wc ⟨vk, rfl, hownk, hbc⟩
 obtain ⟨Ak2, ck2, rfl⟩ := own_formK hownk
 have Hownk := kp (show wc.ownsRow W0.heap.size 3 1 (.slice Ak2 keys.length ck2) keys.length (natV keys) from hownk)
 have Hbc := kp (show Below W0.heap.size W0 wc from (Below.refl _ _).drew.drew.trans hbc)
 clear hbc hownk
 refine hK.out _ _ ?_ (fun hHeld2 => ?_)
 ·exact ⟨⟨cell_keep Hbc.out b4, by rw [frozen_below Hbc.out _ _ hgW]; exact bf4⟩, cell_keep Hbc.out b2, ⟨cell_keep Hbc.out z0, cell_keep Hbc.out z1, cell_keep Hbc.out z2, cell_keep Hbc.out z3, cell_keep Hbc.out z4, cell_keep Hbc.out z5, cell_keep Hbc.out z6, cell_keep Hbc.out z7, cell_keep Hbc.out z8, cell_keep Hbc.out z9⟩⟩
 clear hK K hHeld
 have hHeld := hHeld2
 clear hHeld2
 try simp only [Act.put, List.setIfInBounds_toArray, List.set_cons_zero, List.set_cons_succ]
 have hgc : gb < wc.heap.size := Nat.lt_of_lt_of_le hgW Hbc.out.size
 have hac : w.heap.size < wc.heap.size := Nat.lt_of_lt_of_le hga0 Hbc.out.size
 have Hbec := kp (Hb0.out.trans (Hbc.out.mono Hb0.out.size))
 have HownOc := kp (HownO.out.below Hbec.out)
 have HownOr := kp (show wc.ownsRow cB 78 11 (.slice Ao n co) n (fs.flatMap factV) by have := HownOc.out.1; rw [Hn.out] at this; exact this)
 have HneA := kp (show (Value.slice Ao n co).ownBlock ≠ some w.heap.size from fun e => by have := HltO.out _ e; omega)
 have hk1 : n + 1 < 1048576 * 64 := by omega
 have hBc := kp (show cB ≤ wc.heap.size from Nat.le_trans hB.out Hbec.out.size)
 refine tu 11 hHeld ?_
 refine wpAnyU_one (i := 12) (o := ?or12) (by kernel_rfl) ?ar12 (by decide) (fun K hK => ?br12)
 case ar12 => (simp only [List.getElem?_toArray, List.getElem?_cons_succ, List.getElem?_cons_zero]; exact rfl)
 go_simp
 refine hK.out _ _ ?_ (fun hHeld2 => ?_)
 ·exact ⟨⟨cell_keep ((Below.refl _ _).alloc (Nat.le_refl _) _) hHeld.1.1, by rw [frozen_below ((Below.refl _ _).alloc (Nat.le_refl wc.heap.size) _) _ _ hgc]; exact hHeld.1.2⟩, cell_keep ((Below.refl _ _).alloc (Nat.le_refl _) _) hHeld.2.1, keepTen (Below.heap_alloc _ _ _ hac) hHeld.2.2⟩
 clear hK K hHeld
 have hHeld := hHeld2
 clear hHeld2
 try simp only [Act.put, List.setIfInBounds_toArray, List.set_cons_zero, List.set_cons_succ]
 refine wpAnyU_one (i := 13) (o := ?or13) (by kernel_rfl) ?ar13 (by decide) (fun K hK => ?br13)
 case ar13 => (simp only [List.getElem?_toArray, List.getElem?_cons_succ, List.getElem?_cons_zero]; exact rfl)
 refine step_appK rfl (.tmp 21) (.tmp 29) 32 rfl cB 78 i0 _ 11 104 Tryz.underlying32 ti0 tz0 tz1 tz2 rfl (by decide) wc (factC ⟨Ak2, keys, ck2, ⟨ac, s0, n0, x0, s1, n1, x1, s2, n2, x2⟩⟩) rfl (fact_one _) (.slice Ao n co) n (fs.flatMap factV) rfl HownOr.out rfl hk1 (by decide) hBc.out ?_
 intro v5 w5 hown5 happ5
 obtain ⟨A5, c5, h5⟩ := own_formK hown5
 subst h5
 have Hown5 := kp hown5
 have Hap5 := kp happ5
 clear hown5 happ5
 go_simp
 refine hK.out _ _ ?_ (fun hHeld2 => ?_)
 ·have e1 := (Hap5.out.farK hgc HneO.out).trans (Below.heap_alloc wc (.cells (factC ⟨Ak2, keys, ck2, ⟨ac, s0, n0, x0, s1, n1, x1, s2, n2, x2⟩⟩) 78) _ hgc).symm
  have e2 := (Hap5.out.farK hac HneA.out).trans (Below.heap_alloc wc (.cells (factC ⟨Ak2, keys, ck2, ⟨ac, s0, n0, x0, s1, n1, x1, s2, n2, x2⟩⟩) 78) _ hac).symm
  exact ⟨⟨(World.cell?_of_block (a := ⟨gb, 4, none⟩) e1).trans hHeld.1.1, by have h := hHeld.1.2; unfold World.frozen? at h ⊢; rw [e1]; exact h⟩, (World.cell?_of_block (a := ⟨gb, 2, none⟩) e1).trans hHeld.2.1, keepTen e2 hHeld.2.2⟩
 clear hK K hHeld
 have hHeld := hHeld2
 clear hHeld2
 try simp only [Act.put, List.setIfInBounds_toArray, List.set_cons_zero, List.set_cons_succ]
 refine tu 14 hHeld ?_
 refine tu 15 hHeld ?_
 refine wpAnyU_last (o := ?or16) (by kernel_rfl) ?ar16 ⟨by kernel_rfl, by kernel_rfl⟩ (fun K hK => ?br16)
 case ar16 => (simp only [List.getElem?_toArray, List.getElem?_cons_succ, List.getElem?_cons_zero]; exact rfl)
 obtain ⟨⟨x1', x2'⟩, _⟩ := hHeld
 have hHeld := x1'
 go_simp
 refine hK.out _ _ ?_
 clear hK K hHeld
 refine NoPanic.normal ?_
 try simp only [Act.put, List.setIfInBounds_toArray, List.set_cons_zero, List.set_cons_succ]
 have HW := kp (Hh.out.take (wc := wc) (f := ⟨Ak2, keys, ck2, ⟨ac, s0, n0, x0, s1, n1, x1, s2, n2, x2⟩⟩) Hbec.out (by
  rw [Hn.out]
  exact FaAp.new (B := W0.heap.size) Hownk.out (fun j hj => Nat.lt_of_lt_of_le (HltO.out j hj) Hb0.out.size)) (by
  intro g hg b off e hne
  rw [List.mem_singleton.1 hg] at e
  dsimp only at e
  have h1 := Hownk.out.lt b (by rw [e]; rfl)
  have h3 := Hb0.out.size
  omega) (A5 := A5) (c5 := c5) (by rw [Hn.out]; exact Hown5.out) (by rw [Hn.out]; exact Hap5.out))
 rw [Hn.out] at HW
 have Hfin := kp (HQ.out A5 c5 ⟨Ak2, keys, ck2, ⟨ac, s0, n0, x0, s1, n1, x1, s2, n2, x2⟩⟩ _ (HpL.out _ _) HW.out.1 HW.out.2)
 go_wp2_with fail
 go_end0
 exact Hfin.out
theorem own_cut {w : World} {B : Nat} {e : TypeId} {A : Option Addr} {n c : Nat} {xs : List Value} (h : w.ownsRow B e 1 (.slice A n c) n xs) {k : Nat} (hk : k ≤ n) (hn : 0 < n) : w.ownsRow B e 1 (.slice A k c) k (xs.take k) := by
 obtain ⟨h1, h2⟩ := h
 rcases h2 with ⟨_, h0⟩ | ⟨g, cap, cur, hv, hB, hh, hnc, hcm, hcs, ht⟩
 ·omega
 ·injection hv with hA _ hc
  subst hA hc
  refine ⟨by rw [List.length_take, h1]; omega, .inr ⟨g, c, cur, rfl, hB, hh, by omega, hcm, hcs, ?_⟩⟩
  rw [← ht, List.take_take]
  congr 1
  omega
section
variable {c : Wc} {w w' w1 wc w5 : World} {F F0 F1 F' : Nat → Prop} {Ak Ak1 A5 : Option Addr} {ck ck1 c5 : Nat} {keys keys1 : List Nat} {Ao Ao1 : Option Addr} {co co1 : Nat} {fs fs1 : List Fa} {f : Fa} {key : Nat}
theorem Wk.wide (h : Wk c w F Ak ck keys Ao co fs) (hF : ∀ k, F k → F' k) (hl : ∀ k, F' k → c.B ≤ k ∧ k < w.heap.size) : Wk c w F' Ak ck keys Ao co fs :=
 ⟨h.line, h.box, h.kown, h.out, h.frm, hF _ h.Fg, fun k hk => ⟨hF _ (h.Fk k hk).1, (h.Fk k hk).2⟩, fun k hk => ⟨hF _ (h.Fo k hk).1, (h.Fo k hk).2⟩, fun f hf k hk => ⟨hF _ (h.Ff f hf k hk).1, (h.Ff f hf k hk).2⟩, hl⟩
structure Mt (c : Wc) (F0 : Nat → Prop) (w w' : World) (F : Nat → Prop) (Ak : Option Addr) (ck : Nat) (keys : List Nat) (Ao : Option Addr) (co : Nat) (fs : List Fa) : Prop where
 wk : Wk c w' F Ak ck keys Ao co fs
 turn : Turn F0 w w'
 sub : ∀ k, F k → more F0 w w' k
theorem Mt.start (h : Wk c w F Ak ck keys Ao co fs) : Mt c F w w F Ak ck keys Ao co fs := ⟨h, Turn.refl _ _, fun k hk => .inl hk⟩
theorem Mt.below (h : Mt c F0 w w' F Ak ck keys Ao co fs) (hb : Below w'.heap.size w' w1) : Mt c F0 w w1 F Ak ck keys Ao co fs :=
 ⟨h.wk.below hb, h.turn.trans (Turn.below hb), fun k hk => more_sub (Nat.le_refl _) hb.size (h.sub k hk)⟩
theorem Mt.trans (h : Mt c F0 w w' F Ak ck keys Ao co fs) (k : Mt c F w' w1 F1 Ak1 ck1 keys1 Ao1 co1 fs1) : Mt c F0 w w1 F1 Ak1 ck1 keys1 Ao1 co1 fs1 :=
 ⟨k.wk, ⟨k.turn.os.trans h.turn.os, k.turn.tape.trans h.turn.tape, k.turn.output.trans h.turn.output, Nat.le_trans h.turn.size k.turn.size, fun i hi hp => (k.turn.block i (Nat.lt_of_lt_of_le hi h.turn.size) (fun hf => by
  rcases h.sub i hf with h1 | ⟨h1, _⟩
  ·exact hp h1
  ·omega)).trans (h.turn.block i hi hp)⟩, fun i hi => by
  rcases k.sub i hi with h1 | ⟨h1, h2⟩
  ·exact more_sub (Nat.le_refl _) k.turn.size (h.sub i h1)
  ·exact .inr ⟨Nat.le_trans h.turn.size h1, h2⟩⟩
theorem Mt.did (h : Mt c F0 w w' F Ak ck keys Ao co fs) (h0 : ∀ k, F0 k → c.B ≤ k ∧ k < w.heap.size) (hB : c.B ≤ w.heap.size) : Wk c w' (more F0 w w') Ak ck keys Ao co fs :=
 h.wk.wide h.sub (fun k hk => by
  have := h.turn.size
  rcases hk with hk | ⟨h1, h2⟩
  ·have := h0 k hk; omega
  ·omega)
theorem Mt.off (h : Mt c F0 w w' F Ak ck keys Ao co fs) {k : Nat} (hk : k < w.heap.size) (hn : ¬ F0 k) : ¬ F k := fun hf => by
 rcases h.sub k hf with h1 | ⟨h1, _⟩
 ·exact hn h1
 ·omega
theorem Mt.row (h : Mt c F0 w w' F Ak ck keys Ao co fs) {A : Option Addr} {vs : List Value} (hr : Row w w.heap.size A vs) (hn : ∀ k, Foot A vs k → ¬ F0 k) : Row w' w'.heap.size A vs ∧ ∀ k, Foot A vs k → ¬ F k :=
 ⟨(row_foot hr (fun k hk => h.turn.block k (Row.foot_lt hr hk) (hn k hk))).more h.turn.size, fun k hk => h.off (Row.foot_lt hr hk) (hn k hk)⟩
theorem Mt.box (h : Mt c F0 w w' F Ak ck keys Ao co fs) {g : Nat} {t : TypeId} {cs : Array Value} (hb : Box w g t cs) (hn : ¬ F0 g) : Box w' g t cs ∧ ¬ F g := ⟨(h.turn.block g hb.lt hn).trans hb, h.off hb.lt hn⟩
theorem Wk.push (h : Wk c w F Ak ck keys Ao co fs) (hb : Below w.heap.size w wc)
 (hown : w5.ownsRow c.B 3 1 (.slice A5 (keys.length + 1) c5) (keys.length + 1) (natV keys ++ [.int .i64 (key : Nat)])) (ha : App wc w5 (.slice Ak keys.length ck) (.slice A5 (keys.length + 1) c5)) :
 Mt c F w (w5.setCell ⟨c.gb, 2, none⟩ (.slice A5 (keys.length + 1) c5)) (fun k => F k ∨ (Value.slice A5 (keys.length + 1) c5).ownBlock = some k) A5 c5 (keys ++ [key]) Ao co fs := by
 have hz1 : w.heap.size ≤ wc.heap.size := hb.size
 have hz2 : wc.heap.size ≤ w5.heap.size := ha.grown.size
 have hz3 : (w5.setCell ⟨c.gb, 2, none⟩ (.slice A5 (keys.length + 1) c5)).heap.size = w5.heap.size := by simp
 have hgb := h.box.lt
 have hlt : ∀ k, (Value.slice A5 (keys.length + 1) c5).ownBlock = some k → c.B ≤ k ∧ k < w5.heap.size := fun k hk => hown.lt k hk
 have hkc : ∀ k, k < w.heap.size → (Value.slice Ak keys.length ck).ownBlock ≠ some k → w5.heap[k]? = w.heap[k]? := fun k hk hn => (ha.farK (by omega) hn).trans (hb.block k hk)
 have hset : ∀ k, k ≠ c.gb → (w5.setCell ⟨c.gb, 2, none⟩ (.slice A5 (keys.length + 1) c5)).heap[k]? = w5.heap[k]? := fun k hk => Below.heap_setCell w5 ⟨c.gb, 2, none⟩ _ k hk
 have hno : (Value.slice Ak keys.length ck).ownBlock ≠ some c.gb := fun e => (h.Fk _ e).2 rfl
 have hv' : ∀ k, (Value.slice A5 (keys.length + 1) c5).ownBlock = some k → ((Value.slice Ak keys.length ck).ownBlock = some k ∨ (wc.heap.size ≤ k ∧ k < w5.heap.size)) := fun k hk => by
  rcases ha.lies with e | ⟨j, e, hj⟩
  ·rw [e] at hk; exact .inl hk
  ·rw [e] at hk
   injection hk with hk
   subst hk
   exact .inr ⟨hj, (hlt _ e).2⟩
 have hbox5 : Box w5 c.gb 113 (wkC c (.slice Ak keys.length ck) (.slice Ao fs.length co)) := (hkc _ hgb hno).trans h.box
 have hlen : (keys ++ [key]).length = keys.length + 1 := by rw [List.length_append]; rfl
 have hne : ∀ k, (Value.slice A5 (keys.length + 1) c5).ownBlock = some k → k ≠ c.gb := fun k hk e => by
  rcases hv' k hk with h1 | ⟨h1, _⟩
  ·exact (h.Fk k h1).2 e
  ·omega
 have hold : ∀ k, k < w.heap.size → (Value.slice Ak keys.length ck).ownBlock ≠ some k → (Value.slice A5 (keys.length + 1) c5).ownBlock ≠ some k := fun k hk hn e => by
  rcases hv' k e with h1 | ⟨h1, _⟩
  ·exact hn h1
  ·omega
 have hsame : ∀ k, k < w.heap.size → k ≠ c.gb → (Value.slice Ak keys.length ck).ownBlock ≠ some k → (w5.setCell ⟨c.gb, 2, none⟩ (.slice A5 (keys.length + 1) c5)).heap[k]? = w.heap[k]? := fun k hk h1 h2 => (hset k h1).trans (hkc k hk h2)
 refine ⟨⟨h.line, ?_, ?_, ?_, h.frm, .inl h.Fg, fun k hk => ?_, fun k hk => ?_, fun g hg k hk => ?_, fun k hk => ?_⟩, ⟨?_, ?_, ?_, ?_, fun k hk hp => ?_⟩, fun k hk => ?_⟩
 ·rw [hlen]; exact hbox5.set 2 _
 ·rw [hlen]
  refine own_same (by unfold natV at *; rw [List.map_append]; exact hown) (fun k hk => hset k (hne k hk))
 ·refine ⟨own_same h.out.1 (fun k hk => ?_), fun g hg => ap_same (h.out.2 g hg) (by omega) (fun k hk => ?_)⟩
  ·obtain ⟨h1, h2, h3⟩ := h.Fo k hk
   exact hsame k (h.flt k h1).2 h2 h3
  ·obtain ⟨h1, h2, h3⟩ := h.Ff g hg k hk
   exact hsame k (h.flt k h1).2 h2 h3
 ·rw [hlen] at hk
  exact ⟨.inr hk, hne k hk⟩
 ·obtain ⟨h1, h2, h3⟩ := h.Fo k hk
  rw [hlen]
  exact ⟨.inl h1, h2, hold k (h.flt k h1).2 h3⟩
 ·obtain ⟨h1, h2, h3⟩ := h.Ff g hg k hk
  rw [hlen]
  exact ⟨.inl h1, h2, hold k (h.flt k h1).2 h3⟩
 ·rcases hk with hk | hk
  ·have := h.flt k hk; omega
  ·have := hlt k hk; omega
 ·exact ha.grown.os.trans hb.os
 ·exact ha.grown.tape.trans hb.tape
 ·exact ha.grown.output.trans hb.output
 ·omega
 ·exact hsame k hk (fun e => hp (e ▸ h.Fg)) (fun e => hp (h.Fk k e).1)
 ·rcases hk with hk | hk
  ·exact .inl hk
  ·rcases hv' k hk with h1 | ⟨h1, h2⟩
   ·exact .inl (h.Fk k h1).1
   ·exact .inr ⟨by omega, by omega⟩
theorem Wk.pop (h : Wk c w F Ak ck (keys ++ [key]) Ao co fs) : Mt c F w (w.setCell ⟨c.gb, 2, none⟩ (.slice Ak keys.length ck)) F Ak ck keys Ao co fs := by
 have hlen : (keys ++ [key]).length = keys.length + 1 := by rw [List.length_append]; rfl
 have hset : ∀ k, k ≠ c.gb → (w.setCell ⟨c.gb, 2, none⟩ (.slice Ak keys.length ck)).heap[k]? = w.heap[k]? := fun k hk => Below.heap_setCell w ⟨c.gb, 2, none⟩ _ k hk
 have hz : (w.setCell ⟨c.gb, 2, none⟩ (.slice Ak keys.length ck)).heap.size = w.heap.size := by simp
 have hob : (Value.slice Ak keys.length ck).ownBlock = (Value.slice Ak (keys ++ [key]).length ck).ownBlock := by cases Ak <;> rfl
 have hkeys := h.kown
 rw [hlen] at hkeys
 have hcut := own_cut hkeys (k := keys.length) (Nat.le_succ _) (Nat.succ_pos _)
 have hnat : (natV (keys ++ [key])).take keys.length = natV keys := by
  unfold natV
  rw [List.map_append, List.take_append_of_le_length (by simp), List.take_of_length_le (by simp)]
 rw [hnat] at hcut
 refine ⟨⟨h.line, ?_, ?_, ?_, h.frm, h.Fg, fun k hk => h.Fk k (hob ▸ hk), fun k hk => ?_, fun g hg k hk => ?_, fun k hk => by rw [hz]; exact h.flt k hk⟩, Turn.set _ _ _ h.Fg, fun k hk => .inl hk⟩
 ·exact h.box.set 2 _
 ·exact own_same hcut (fun k hk => hset k (h.Fk k (hob ▸ hk)).2)
 ·exact ⟨own_same h.out.1 (fun k hk => hset k (h.Fo k hk).2.1), fun g hg => ap_same (h.out.2 g hg) (Nat.le_of_eq hz.symm) (fun k hk => hset k (h.Ff g hg k hk).2.1)⟩
 ·rw [hob]; exact h.Fo k hk
 ·rw [hob]; exact h.Ff g hg k hk
end
abbrev Tup := List Nat × Ag
def firstL (nodes : List PNode) (i : Nat) : List Cl := (((nodes[i]?).getD ⟨0, [], clZero⟩).lists[0]?).getD []
def cellT (f : Option (Nat → List Nat → List Tup)) (keys : List Nat) (c : Cl) : List Tup := match f with
 | none => [(keys ++ [c.key], c.ag)]
 | some g => g c.child (keys ++ [c.key])
def nodeT (nodes : List PNode) (f : Option (Nat → List Nat → List Tup)) (i : Nat) (keys : List Nat) : List Tup := (firstL nodes i).flatMap (cellT f keys)
def tupP (nodes : List PNode) : Nat → Nat → List Nat → List Tup
 | 0 => nodeT nodes none
 | d + 1 => nodeT nodes (some (tupP nodes d))
def TreeW (nodes : List PNode) : Nat → Nat → Prop
 | 0, i => ∃ n, nodes[i]? = some n ∧ n.lists ≠ []
 | d + 1, i => ∃ n, nodes[i]? = some n ∧ n.lists ≠ [] ∧ ∀ c ∈ firstL nodes i, TreeW nodes d c.child
def TupRet (c : Wc) (F : Nat → Prop) (keys : List Nat) (fs : List Fa) (out : List Tup) (w : World) (e : Ending) (w' : World) : Prop :=
 e = .returned (.tuple #[]) ∧ ∃ (Ak' : Option Addr) (ck' : Nat) (Ao' : Option Addr) (co' : Nat) (fs' : List Fa), fs'.map pl = fs.map pl ++ out ∧ Wk c w' (more F w w') Ak' ck' keys Ao' co' fs' ∧ Turn F w w'
structure WAr (c : Wc) (As An : Option Addr) (cs m cn most : Nat) (nds : List Nd) (w : World) : Prop where
 box : Box w c.ga 138 (arC As c.nx cs m An nds.length cn most)
 lt : c.ga < c.B
 at_ : NdsAt w c.B An nds
theorem WAr.below {c : Wc} {As An : Option Addr} {cs m cn most : Nat} {nds : List Nd} {w w' : World} (h : WAr c As An cs m cn most nds w) (hb : Below c.B w w') : WAr c As An cs m cn most nds w' :=
 ⟨h.box.below hb h.lt, h.lt, h.at_.below hb⟩
theorem Mt.under {c : Wc} {F0 F : Nat → Prop} {w w' : World} {Ak Ao : Option Addr} {ck co : Nat} {keys : List Nat} {fs : List Fa} (h : Mt c F0 w w' F Ak ck keys Ao co fs) (h0 : ∀ k, F0 k → c.B ≤ k) (hB : c.B ≤ w.heap.size) : Below c.B w w' := h.turn.toBelow h0 hB
theorem own_le_cap {w : World} {B : Nat} {e : TypeId} {A : Option Addr} {n c : Nat} {sz : Nat} {xs : List Value} (h : w.ownsRow B e sz (.slice A n c) n xs) : n ≤ c := by
 rcases h.2 with ⟨h1, h0⟩ | ⟨g, cap, cur, hv, _, _, hnc, _⟩
 ·omega
 ·injection hv with _ _ hc
  omega
def NodeW (c : Wc) (As An : Option Addr) (cs m cn most : Nat) (nds : List Nd) (a d : Nat) : Prop := ∀ (F : Nat → Prop) (Ak Ao : Option Addr) (ck co : Nat) (keys : List Nat) (fs : List Fa) (i : Nat) (w : World), Wk c w F Ak ck keys Ao co fs → WAr c As An cs m cn most nds w → keys.length = a → TreeW (nds.map plN) d i →
 fs.length + (tupP (nds.map plN) d i keys).length ≤ c.wm → Calls Tryz.prog 44 #[.pointer (some ⟨c.gb, 0, none⟩), .int .i64 (a : Nat), .int .i64 (i : Nat)] w (TupRet c F keys fs (tupP (nds.map plN) d i keys) w)
set_option maxRecDepth 100000 in
set_option maxHeartbeats 8000000 in
theorem wcell_any (c : Wc) (As An : Option Addr) (cs m cn most : Nat) (nds : List Nd) (F : Nat → Prop) (Ak Ao : Option Addr) (ck co : Nat) (keys : List Nat) (fs : List Fa) (cl : Cl) (a : Nat) (out : List Tup) (w : World) (h : Wk c w F Ak ck keys Ao co fs) (har : WAr c As An cs m cn most nds w) (ha : keys.length = a) (hnx : c.nx ≤ 16) (hwm : c.wm ≤ 1000000)
 (hroom : fs.length + out.length ≤ c.wm) (hd : (a + 1 = c.nx ∧ out = [(keys ++ [cl.key], cl.ag)]) ∨ (a + 1 < c.nx ∧ ∃ d, NodeW c As An cs m cn most nds (a + 1) d ∧ TreeW (nds.map plN) d cl.child ∧ out = tupP (nds.map plN) d cl.child (keys ++ [cl.key]))) :
 Calls Tryz.prog 77 #[.pointer (some ⟨c.gb, 0, none⟩), .int .i64 (a : Nat), .agg (clC cl)] w (TupRet c F keys fs out w) := by
 obtain ⟨i0, ti0, tz0, tz1, tz2⟩ := info_parts info_int
 have HQ := kp (show ∀ (Ak' : Option Addr) (ck' : Nat) (Ao' : Option Addr) (co' : Nat) (fs' : List Fa) w', fs'.map pl = fs.map pl ++ out → Wk c w' (more F w w') Ak' ck' keys Ao' co' fs' → Turn F w w' → TupRet c F keys fs out w (.returned (.tuple #[])) w' from fun Ak' ck' Ao' co' fs' w' h1 h2 h3 => ⟨rfl, Ak', ck', Ao', co', fs', h1, h2, h3⟩)
 generalize hQ : TupRet c F keys fs out w = Q at *
 clear hQ
 have Hh := kp h
 have Har := kp har
 have HF := kp h.flt
 have Hge := kp h.ge
 have Ha := kp ha
 have hb0 := (Below.refl w.heap.size w).alloc (Nat.le_refl _) (.cells (clC cl) 106)
 have HC0 := kp (Box.new w 106 (clC cl))
 have HB0 := kp (h.box.under hb0)
 have Hb0 := kp hb0
 have HownK := kp (show w.ownsRow c.B 3 1 (.slice Ak a ck) a (natV keys) by have := h.kown; rw [ha] at this; exact this)
 have HneK := kp (show (Value.slice Ak a ck).ownBlock ≠ some c.gb from fun e => (h.Fk c.gb (by rw [ha]; exact e)).2 rfl)
 have HltK := kp (show ∀ j, (Value.slice Ak a ck).ownBlock = some j → j < w.heap.size from fun j hj => (h.kown.lt j (by rw [ha]; exact hj)).2)
 have hgb : c.gb < w.heap.size := h.box.lt
 have hlen : (keys ++ [cl.key]).length = a + 1 := by rw [List.length_append, ha]; rfl
 have Hlen := kp hlen
 have ha16 : a + 1 ≤ 16 := by rcases hd with h1 | h1 <;> omega
 have Hd := kp hd
 have Hroom := kp hroom
 unfold wkC at HB0
 rw [ha] at HB0
 clear h har hb0 ha hlen hd hroom
 obtain ⟨key, child, ⟨ac, s0, n0, x0, s1, n1, x1, s2, n2, x2⟩⟩ := cl
 dsimp only [clC] at HC0 Hb0 HB0 Hlen Hd ⊢
 generalize hW0 : w.alloc (.cells #[.int .i64 (key : Nat), .int .i64 (child : Nat), .int .i64 ac, .int .i64 s0, .int .i64 n0, .int .i64 x0, .int .i64 s1, .int .i64 n1, .int .i64 x1, .int .i64 s2, .int .i64 n2, .int .i64 x2] 106) = W0 at *
 obtain ⟨⟨b0, b1, b2, b3, b4, b5⟩, bf⟩ := Box.six_ HB0.out
 have bf2 := bf 2
 clear bf
 go_enter Tryz.func77, Tryz.ntmps77
 go_upto_region 1 with fail
 clear hW0
 obtain ⟨z0, z1, z2, z3, z4, z5, z6, z7, z8, z9, z10, z11⟩ := (Box.twelve HC0.out).1
 have HCd := kp (show Box W0.drew w.heap.size 106 _ from HC0.out)
 have hgW : c.gb < W0.drew.heap.size := HB0.out.lt
 have hcW : w.heap.size < W0.drew.heap.size := HC0.out.lt
 have Hbd := kp (Hb0.out.drew)
 have HownW := kp (own_below HownK.out Hbd.out)
 have hBW := kp (show c.B ≤ W0.drew.heap.size from Nat.le_trans Hge.out Hb0.out.size)
 have hk1 : a < 1048576 * 64 := by omega
 refine wp_region_noPanic ?_
 refine wp_region_U (t := 11) (S := (fun w' => (w'.cell? ⟨c.gb, 2, none⟩ = some (.slice Ak a ck) ∧ w'.frozen? ⟨c.gb, 2, none⟩ = false) ∧ w'.cell? ⟨w.heap.size, 0, none⟩ = some (.int .i64 (key : Nat)))) (by kernel_rfl) ⟨⟨b2, bf2⟩, z0⟩ (fun hHeld => ?_)
 generalize W0.drew = Wd at *
 refine tu 0 hHeld ?_
 refine tu 1 hHeld ?_
 refine tu 2 hHeld ?_
 refine tu 3 hHeld ?_
 refine tu 4 hHeld ?_
 refine tu 5 hHeld ?_
 refine tu 6 hHeld ?_
 refine wpAnyU_one (i := 7) (o := ?or7) (by kernel_rfl) ?ar7 (by decide) (fun K hK => ?br7)
 case ar7 => (simp only [List.getElem?_toArray, List.getElem?_cons_succ, List.getElem?_cons_zero]; exact rfl)
 go_simp
 refine hK.out _ _ ?_ (fun hHeld2 => ?_)
 ·exact ⟨⟨cell_keep ((Below.refl _ _).alloc (Nat.le_refl _) _) hHeld.1.1, by rw [frozen_below ((Below.refl _ _).alloc (Nat.le_refl Wd.heap.size) _) _ _ hgW]; exact hHeld.1.2⟩, cell_keep ((Below.refl _ _).alloc (Nat.le_refl _) _) hHeld.2⟩
 clear hK K hHeld
 have hHeld := hHeld2
 clear hHeld2
 try simp only [Act.put, List.setIfInBounds_toArray, List.set_cons_zero, List.set_cons_succ]
 refine wpAnyU_one (i := 8) (o := ?or8) (by kernel_rfl) ?ar8 (by decide) (fun K hK => ?br8)
 case ar8 => (simp only [List.getElem?_toArray, List.getElem?_cons_succ, List.getElem?_cons_zero]; exact rfl)
 refine step_append1 rfl (.tmp 10) (.tmp 13) 41 rfl c.B 3 i0 (.int .i64 0) 8 Tryz.underlying41 ti0 tz0 tz1 tz2 rfl Wd (.int .i64 (key : Nat)) rfl (.slice Ak a ck) a (natV keys) rfl HownW.out rfl hk1 (by decide) hBW.out ?_
 intro v5 w5 hown5 happ5
 obtain ⟨A5, c5, h5⟩ := own_formK hown5
 subst h5
 have Hown5 := kp hown5
 have Hap5 := kp happ5
 clear hown5 happ5
 go_simp
 refine hK.out _ _ ?_ (fun hHeld2 => ?_)
 ·have e1 := (Hap5.out.farK hgW HneK.out).trans (Below.heap_alloc Wd (.cells #[.int .i64 (key : Nat)] 3) _ hgW).symm
  have e2 := (Hap5.out.farK hcW (fun e => by have := HltK.out _ e; omega)).trans (Below.heap_alloc Wd (.cells #[.int .i64 (key : Nat)] 3) _ hcW).symm
  exact ⟨⟨(World.cell?_of_block (a := ⟨c.gb, 2, none⟩) e1).trans hHeld.1.1, by have h := hHeld.1.2; unfold World.frozen? at h ⊢; rw [e1]; exact h⟩, (World.cell?_of_block (a := ⟨w.heap.size, 0, none⟩) e2).trans hHeld.2⟩
 clear hK K hHeld
 have hHeld := hHeld2
 clear hHeld2
 try simp only [Act.put, List.setIfInBounds_toArray, List.set_cons_zero, List.set_cons_succ]
 refine tu 9 hHeld ?_
 refine tu 10 hHeld ?_
 refine wpAnyU_last (o := ?or11) (by kernel_rfl) ?ar11 ⟨by kernel_rfl, by kernel_rfl⟩ (fun K hK => ?br11)
 case ar11 => (simp only [List.getElem?_toArray, List.getElem?_cons_succ, List.getElem?_cons_zero]; exact rfl)
 obtain ⟨⟨x1', x2'⟩, _⟩ := hHeld
 have hHeld := x1'
 go_simp
 refine hK.out _ _ ?_
 clear hK K hHeld
 refine NoPanic.normal ?_
 try simp only [Act.put, List.setIfInBounds_toArray, List.set_cons_zero, List.set_cons_succ]
 have hpush := Hh.out.push (wc := Wd) (w5 := w5) (A5 := A5) (c5 := c5) (key := key) Hbd.out (by rw [Ha.out]; exact Hown5.out) (by rw [Ha.out]; exact Hap5.out)
 rw [Ha.out] at hpush
 have HM := kp hpush
 have hnek : c.gb ≠ w.heap.size := by omega
 have HC6 := kp (show Box (w5.setCell ⟨c.gb, 2, none⟩ (.slice A5 (a + 1) c5)) w.heap.size 106 _ from (show Box w5 w.heap.size 106 _ from (Hap5.out.farK hcW (fun e => by have := HltK.out _ e; omega)).trans HCd.out).far (p := ⟨c.gb, 2, none⟩) (Ne.symm hnek) _)
 have Hbw6 := kp (HM.out.under (fun k hk => (HF.out k hk).1) Hge.out)
 have Har6 := kp (Har.out.below Hbw6.out)
 clear hpush z0 z1 z2 z3 z4 z5 z6 z7 z8 z9 z10 z11 b0 b1 b2 b3 b4 b5 bf2 HC0 HB0 Hown5 Hap5 HownW HCd Hbd Hb0
 generalize w5.setCell ⟨c.gb, 2, none⟩ (.slice A5 (a + 1) c5) = W6 at *
 generalize (fun k => F k ∨ (Value.slice A5 (a + 1) c5).ownBlock = some k) = F1 at *
 obtain ⟨z0, z1, z2, z3, z4, z5, z6, z7, z8, z9, z10, z11⟩ := (Box.twelve HC6.out).1
 obtain ⟨⟨b0, b1, b2, b3, b4, b5⟩, bf⟩ := Box.six_ HM.out.wk.box
 clear bf b0 b2 b3 b4 b5
 have hlen := Hlen.out
 have Hlr := kp (show (keys ++ [key]).length ≤ 1000 by omega)
 rcases Hd.out with ⟨hl1, hl2⟩ | ⟨hl1, d, hN, hT, hl2⟩
 ·have q1 : ((a : Int) == (c.nx : Int) - 1) = true := by simp; omega
  have HFa := kp (wfact_any c F1 A5 Ao c5 co (keys ++ [key]) fs ⟨ac, s0, n0, x0, s1, n1, x1, s2, n2, x2⟩ W6 HM.out.wk (by have := Hroom.out; rw [hl2] at this; simp only [List.length_cons, List.length_nil] at this; omega) hwm Hlr.out)
  clear hlen
  go_wp2_with fail
  refine HFa.out.mono ?_
  rintro e w7 ⟨rfl, Ao7, co7, f7, hp7, hwk7, ht7⟩
  ·have hlen := Hlen.out
   obtain ⟨ck7, hck7⟩ : ∃ x, x = c5 := ⟨_, rfl⟩
   subst hck7
   have Hp7 := kp (show (fs ++ [f7]).map pl = fs.map pl ++ out by rw [hl2, List.map_append, List.map_cons, List.map_nil, hp7])
   have HX := kp (show Mt c F1 W6 w7 _ _ _ _ _ _ _ from ⟨hwk7, ht7, fun k hk => hk⟩)
   clear hp7 hwk7 ht7 b1 HFa z0 z1 z2 z3 z4 z5 z6 z7 z8 z9 z10 z11 q1
   have HM7 := kp (HM.out.trans (HX.out))
   obtain ⟨⟨b0, b1, b2, b3, b4, b5⟩, bf⟩ := Box.six_ HM7.out.wk.box
   have bf2 := bf 2
   clear bf
   rw [hlen] at b2
   have hcap : a ≤ ck7 := by
    have h1 := own_le_cap HM7.out.wk.kown
    rw [hlen] at h1
    omega
   have s0' : (0 : Int) ≤ (a : Int) := by omega
   have s1' : (a : Int) ≤ (ck7 : Int) := by omega
   have hpop := HM7.out.wk.pop
   rw [Ha.out] at hpop
   have HM8 := kp (HM7.out.trans hpop)
   have HW8 := kp (HM8.out.did HF.out Hge.out)
   have Hfin := kp (HQ.out _ _ _ _ _ _ Hp7.out HW8.out HM8.out.turn)
   clear hpop hcap
   go_wp2_with fail
   go_end0
   exact Hfin.out
 ·have q1 : ((a : Int) == (c.nx : Int) - 1) = false := by simp; omega
  have hwa : IntKind.i64.wrap ((a : Int) + 1) = ((a + 1 : Nat) : Int) := by rw [IntWalk.i64_in _ (by omega)]; rfl
  have HNk := kp (hN F1 A5 Ao c5 co (keys ++ [key]) fs child W6 HM.out.wk Har6.out Hlen.out hT (by rw [← hl2]; exact Hroom.out))
  rw [← hl2] at HNk
  clear hlen
  go_wp2_with fail
  refine HNk.out.mono ?_
  rintro e w7 ⟨rfl, A7, ck7, Ao7, co7, fs7, hp7, hwk7, ht7⟩
  ·have hlen := Hlen.out
   have Hp7 := kp hp7
   have HX := kp (show Mt c F1 W6 w7 _ _ _ _ _ _ _ from ⟨hwk7, ht7, fun k hk => hk⟩)
   clear hp7 hwk7 ht7 b1 HNk z0 z1 z2 z3 z4 z5 z6 z7 z8 z9 z10 z11 q1 hwa
   have HM7 := kp (HM.out.trans (HX.out))
   obtain ⟨⟨b0, b1, b2, b3, b4, b5⟩, bf⟩ := Box.six_ HM7.out.wk.box
   have bf2 := bf 2
   clear bf
   rw [hlen] at b2
   have hcap : a ≤ ck7 := by
    have h1 := own_le_cap HM7.out.wk.kown
    rw [hlen] at h1
    omega
   have s0' : (0 : Int) ≤ (a : Int) := by omega
   have s1' : (a : Int) ≤ (ck7 : Int) := by omega
   have hpop := HM7.out.wk.pop
   rw [Ha.out] at hpop
   have HM8 := kp (HM7.out.trans hpop)
   have HW8 := kp (HM8.out.did HF.out Hge.out)
   have Hfin := kp (HQ.out _ _ _ _ _ _ Hp7.out HW8.out HM8.out.turn)
   clear hpop hcap
   go_wp2_with fail
   go_end0
   exact Hfin.out
end Go.Proofs.YthmbgbmcdbdecaaGreat.Tc
