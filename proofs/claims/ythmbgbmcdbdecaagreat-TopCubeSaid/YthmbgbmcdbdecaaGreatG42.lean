/- Parts of a proof: Layer 29: a node of a cube's tuples. Layer 29: the facts of a cube. -/
import Derived.Test.YthmbgbmcdbdecaaGreatG36
import Derived.Test.YthmbgbmcdbdecaaGreatG37
import Derived.Test.YthmbgbmcdbdecaaGreatG38
import Derived.Test.YthmbgbmcdbdecaaGreatG40
import Derived.Test.YthmbgbmcdbdecaaGreatG41
namespace Go.Proofs.YthmbgbmcdbdecaaGreat.Tc
open Go.RowKit Base
set_option linter.unusedVariables false
set_option linter.unusedSimpArgs false
theorem cells_spec (c : Wc) (As An : Option Addr) (cs m cn most : Nat) (nds : List Nd) (a d i : Nat) (keys : List Nat) (ha : keys.length = a) (hnx : c.nx ≤ 16) (hwm : c.wm ≤ 1000000) (had : a + d + 1 = c.nx) (hnext : d = 0 ∨ ∃ d', d = d' + 1 ∧ NodeW c As An cs m cn most nds (a + 1) d') (hT : TreeW (nds.map plN) d i) :
 ∃ g : Cl → List Tup, tupP (nds.map plN) d i keys = (firstL (nds.map plN) i).flatMap g ∧ (∃ n, (nds.map plN)[i]? = some n ∧ n.lists ≠ []) ∧ ∀ cl ∈ firstL (nds.map plN) i, ∀ (F : Nat → Prop) (Ak Ao : Option Addr) (ck co : Nat) (fs : List Fa) (w : World), Wk c w F Ak ck keys Ao co fs → WAr c As An cs m cn most nds w →
  fs.length + (g cl).length ≤ c.wm → Calls Tryz.prog 77 #[.pointer (some ⟨c.gb, 0, none⟩), .int .i64 (a : Nat), .agg (clC cl)] w (TupRet c F keys fs (g cl) w) := by
 rcases hnext with h0 | ⟨d', h0, hN⟩
 ·subst h0
  refine ⟨cellT none keys, rfl, hT, fun cl hcl F Ak Ao ck co fs w h har hr => ?_⟩
  exact wcell_any c As An cs m cn most nds F Ak Ao ck co keys fs cl a (cellT none keys cl) w h har ha hnx hwm hr (.inl ⟨by omega, rfl⟩)
 ·subst h0
  obtain ⟨n, h1, h2, h3⟩ := hT
  refine ⟨cellT (some (tupP (nds.map plN) d')) keys, rfl, ⟨n, h1, h2⟩, fun cl hcl F Ak Ao ck co fs w h har hr => ?_⟩
  exact wcell_any c As An cs m cn most nds F Ak Ao ck co keys fs cl a (cellT (some (tupP (nds.map plN) d')) keys cl) w h har ha hnx hwm hr (.inr ⟨by omega, d', hN, h3 cl hcl, rfl⟩)
set_option maxRecDepth 100000 in
set_option maxHeartbeats 8000000 in
theorem wnode_any (c : Wc) (As An : Option Addr) (cs m cn most : Nat) (nds : List Nd) (hx : 1 ≤ c.nx) (hnx : c.nx ≤ 16) (hwm : c.wm ≤ 1000000) (hnn : nds.length ≤ 1000000) (hsm : ∀ n ∈ nds, NdSm n) (hl : ∀ n ∈ nds, ∀ l ∈ n.ls, l.cs.length ≤ 1000) (a d : Nat) (had : a + d + 1 = c.nx)
 (hnext : d = 0 ∨ ∃ d', d = d' + 1 ∧ NodeW c As An cs m cn most nds (a + 1) d') : NodeW c As An cs m cn most nds a d := by
 intro F Ak Ao ck co keys fs i w h har ha hT hroom
 have HQ := kp (show ∀ (Ak' : Option Addr) (ck' : Nat) (Ao' : Option Addr) (co' : Nat) (fs' : List Fa) w', fs'.map pl = fs.map pl ++ tupP (nds.map plN) d i keys → Wk c w' (more F w w') Ak' ck' keys Ao' co' fs' → Turn F w w' → TupRet c F keys fs (tupP (nds.map plN) d i keys) w (.returned (.tuple #[])) w' from fun Ak' ck' Ao' co' fs' w' h1 h2 h3 => ⟨rfl, Ak', ck', Ao', co', fs', h1, h2, h3⟩)
 obtain ⟨g, hg, ⟨pn, hpn, hne⟩, hcell⟩ := cells_spec c As An cs m cn most nds a d i keys ha hnx hwm had hnext hT
 generalize hQ : TupRet c F keys fs (tupP (nds.map plN) d i keys) w = Q at *
 clear hQ hnext
 rw [hg] at hroom HQ
 have hi : i < nds.length := by have := (List.getElem?_eq_some_iff.1 hpn).1; rw [List.length_map] at this; exact this
 have hpi : plN (nds[i]'hi) = pn := by rw [List.getElem?_map, List.getElem?_eq_getElem hi] at hpn; injection hpn
 have hfl : firstL (nds.map plN) i = (pn.lists[0]?).getD [] := by unfold firstL; rw [hpn]; rfl
 have HF := kp h.flt
 have Hge := kp h.ge
 have HN := kp (anode2_any c.ga As An c.nx cs m cn most nds i hi w har.box (har.at_.more h.ge) hx hnn (hsm _ (List.getElem_mem hi)).n4 (hsm _ (List.getElem_mem hi)).long)
 have hlp : ∀ l ∈ pn.lists, l.length ≤ 1000 := fun l hl' => by
  rw [← hpi] at hl'
  obtain ⟨x, hx', rfl⟩ := List.mem_map.1 hl'
  exact hl _ (List.getElem_mem hi) x hx'
 rw [hpi] at HN
 have Hcell := kp hcell
 have Hroom := kp hroom
 have Hfl := kp hfl
 have Hne := kp hne
 have Hlp := kp hlp
 have Hh := kp h
 have Har := kp har
 have Hwm := kp hwm
 generalize firstL (nds.map plN) i = L at *
 obtain ⟨⟨b0, b1, b2, b3, b4, b5⟩, bf⟩ := Box.six_ h.box
 clear bf b1 b2 b3 b4 b5 h har hcell hroom hfl hne hlp hg hT hpi hpn hwm ha hsm hl
 have ha16 : a ≤ 16 := by omega
 go_enter Tryz.func44, Tryz.ntmps44
 go_wp2_with fail
 refine HN.out.mono ?_
 rintro e w1 ⟨n', rfl, hpn, hat1, hfr1, hb1⟩
 obtain ⟨dim, nA, ls, nc, ⟨key, child, ⟨ac, s0, n0, x0, s1, n1, x1, s2, n2, x2⟩⟩⟩ := n'
 have hls : ls.map Ll.cs = pn.lists := by rw [← hpn]; rfl
 obtain ⟨l0, lr, rfl⟩ : ∃ l0 lr, ls = l0 :: lr := by
  cases ls with
  | nil => exact absurd hls.symm Hne.out
  | cons x xs => exact ⟨x, xs, rfl⟩
 have hL : l0.cs = L := by rw [Hfl.out, ← hls]; rfl
 have hq1000 : l0.cs.length ≤ 1000 := Hlp.out _ (by rw [← hls]; exact List.mem_cons_self)
 obtain ⟨lA, lcs, lc⟩ := l0
 dsimp only at hL hq1000
 subst hL
 have hrow0 := hat1.each ⟨lA, lcs, lc⟩ List.mem_cons_self
 obtain ⟨bA, oA, hA, hbA, y0⟩ := Row.at_ hat1.row (k := 0) (by simp)
 have hfr0 := hfr1.2 ⟨lA, lcs, lc⟩ List.mem_cons_self
 dsimp only [ndC] at hA hrow0 hfr0 y0 ⊢
 have y0' : w1.cell? ⟨bA, oA, none⟩ = some (.slice lA lcs.length lc) := y0
 have Hrow := kp hrow0
 have Hfr := kp hfr0
 have Hb1 := kp hb1
 have hb2 := (Below.refl w1.heap.size w1).alloc (Nat.le_refl _) (.cells #[.int .i64 (dim : Nat), .slice nA ((⟨lA, lcs, lc⟩ : Ll) :: lr).length nc, .int .i64 (key : Nat), .int .i64 (child : Nat), .int .i64 ac, .int .i64 s0, .int .i64 n0, .int .i64 x0, .int .i64 s1, .int .i64 n1, .int .i64 x1, .int .i64 s2, .int .i64 n2, .int .i64 x2] 108)
 have HBn := kp (Box.new w1 108 #[.int .i64 (dim : Nat), .slice nA ((⟨lA, lcs, lc⟩ : Ll) :: lr).length nc, .int .i64 (key : Nat), .int .i64 (child : Nat), .int .i64 ac, .int .i64 s0, .int .i64 n0, .int .i64 x0, .int .i64 s1, .int .i64 n1, .int .i64 x1, .int .i64 s2, .int .i64 n2, .int .i64 x2])
 have Hb2 := kp hb2
 have y2 := cell_keep hb2 y0'
 clear hat1 hfr1 hls hpn y0 y0' hrow0 hfr0 hb1 hb2 HN
 obtain ⟨ll, hll⟩ : ∃ ll, ((⟨lA, lcs, lc⟩ : Ll) :: lr).length = ll := ⟨_, rfl⟩
 have hll0 : (0 : Int) < (ll : Int) := by rw [← hll, List.length_cons]; omega
 have hll1 : 0 < ll := by omega
 rw [hll] at HBn y2 Hb2 ⊢
 clear hll
 generalize hW2 : w1.alloc (.cells #[.int .i64 (dim : Nat), .slice nA ll nc, .int .i64 (key : Nat), .int .i64 (child : Nat), .int .i64 ac, .int .i64 s0, .int .i64 n0, .int .i64 x0, .int .i64 s1, .int .i64 n1, .int .i64 x1, .int .i64 s2, .int .i64 n2, .int .i64 x2] 108) = W2 at *
 obtain ⟨d0, d1, drest⟩ := (Box.fourteen HBn.out).1
 obtain ⟨q, hq⟩ : ∃ q, lcs.length = q := ⟨_, rfl⟩
 have Hq := kp hq
 rw [hq] at y2 hq1000
 rw [hA] at d1 hW2
 rw [hA]
 clear hq drest d0 hA
 go_wp2_with fail
 clear hW2 d1 y2 b0
 have Hb02 := kp (Hb1.out.trans (Hb2.out.mono Hb1.out.size))
 have HM2 := kp ((Mt.start Hh.out).below Hb02.out)
 have Hrow2 := kp ((Hrow.out.below Hb2.out).more Hb2.out.size)
 have Hoff2 := kp (show ∀ k, Foot lA (lcs.flatMap clV) k → ¬ F k from fun k ⟨hne, off, e⟩ hf => by
  have h1 := Hfr.out k off e hne
  have h2 := (HF.out k hf).2
  omega)
 clear Hb1 Hb2 HBn Hrow Hfr
 go_loopw [33] (fun v33 wr => ∃ (j : Nat) (Ak' : Option Addr) (ck' : Nat) (Ao' : Option Addr) (co' : Nat) (fs' : List Fa) (F' : Nat → Prop), j ≤ q ∧ v33 = .int .i64 (j : Nat) ∧ Mt c F w wr F' Ak' ck' keys Ao' co' fs' ∧ Row wr wr.heap.size lA (lcs.flatMap clV) ∧ (∀ k, Foot lA (lcs.flatMap clV) k → ¬ F' k) ∧ fs'.map pl = fs.map pl ++ (lcs.take j).flatMap g) (fun v33 _ => q - (intOf v33).toNat)
 case atStart => exact ⟨0, Ak, ck, Ao, co, fs, F, Nat.zero_le _, rfl, HM2.out, Hrow2.out, Hoff2.out, by simp⟩
 case round =>
  obtain ⟨j, Ak3, ck3, Ao3, co3, fs3, F3, hj, rfl, hM3, hrow3, hoff3, hto3⟩ := hrel
  have HM3 := kp hM3
  have Hrow3 := kp hrow3
  have Hoff3 := kp hoff3
  have Hto3 := kp hto3
  clear hM3 hrow3 hoff3 hto3
  by_cases hjl : j < q
  ·have hjc : j < lcs.length := by rw [Hq.out]; exact hjl
   obtain ⟨bc, oc, hAc, hbc, e0, e1, e2, e3, e4, e5, e6, e7, e8, e9, e10, e11⟩ := cells_at Hrow3.out j hjc
   have hcc := Hcell.out _ (List.getElem_mem hjc)
   have htk : (lcs.take (j + 1)).flatMap g = (lcs.take j).flatMap g ++ g (lcs[j]'hjc) := by rw [List.take_succ_eq_append_getElem hjc, List.flatMap_append]; simp
   have hrm : fs3.length + (g (lcs[j]'hjc)).length ≤ c.wm := by
    have h1 := congrArg List.length Hto3.out
    simp only [List.length_append, List.length_map] at h1
    have h2 : (lcs.flatMap g).length = ((lcs.take (j + 1)).flatMap g).length + ((lcs.drop (j + 1)).flatMap g).length := by
     rw [← List.length_append, ← List.flatMap_append, List.take_append_drop]
    rw [htk, List.length_append] at h2
    have := Hroom.out
    omega
   have Htk := kp htk
   clear htk
   generalize (lcs[j]'hjc) = cc at *
   have hb8 := (Below.refl wr.heap.size wr).alloc (Nat.le_refl _) (.cells #[.int .i64 0, .int .i64 0, .int .i64 0, .int .i64 0, .int .i64 0, .int .i64 0, .int .i64 0, .int .i64 0, .int .i64 0, .int .i64 0, .int .i64 0, .int .i64 0] 106)
   have HZ8 := kp (Box.new wr 106 #[.int .i64 0, .int .i64 0, .int .i64 0, .int .i64 0, .int .i64 0, .int .i64 0, .int .i64 0, .int .i64 0, .int .i64 0, .int .i64 0, .int .i64 0, .int .i64 0])
   have Hb9 := kp (below_setAll (Nat.le_refl _) (clV cc) _ 0 hb8)
   have HB9 := kp (show Box (setAll (wr.alloc (.cells #[.int .i64 0, .int .i64 0, .int .i64 0, .int .i64 0, .int .i64 0, .int .i64 0, .int .i64 0, .int .i64 0, .int .i64 0, .int .i64 0, .int .i64 0, .int .i64 0] 106)) wr.heap.size 0 (clV cc)) wr.heap.size 106 (clC cc) from box_setAll0 HZ8.out (clV cc) rfl)
   have HM9 := kp (HM3.out.below Hb9.out)
   have Hrow9 := kp ((Hrow3.out.below Hb9.out).more Hb9.out.size)
   have Har9 := kp (Har.out.below (HM9.out.under (fun k hk => (HF.out k hk).1) Hge.out))
   have HCk := kp (hcc F3 Ak3 Ao3 ck3 co3 fs3 _ HM9.out.wk Har9.out hrm)
   generalize hgc : g cc = gc at *
   clear hcc hb8 hgc
   obtain ⟨ck_, cch, ⟨ca, s0c, n0c, x0c, s1c, n1c, x1c, s2c, n2c, x2c⟩⟩ := cc
   dsimp only [clC, clV] at e0 e1 e2 e3 e4 e5 e6 e7 e8 e9 e10 e11 HB9 Hb9 HM9 Hrow9 Har9 HCk
   obtain ⟨⟨r0, r1, r2, r3, r4, r5, r6, r7, r8, r9, r10, r11⟩, ⟨f0, f1, f2, f3, f4, f5, f6, f7, f8, f9, f10, f11⟩⟩ := Box.twelve HZ8.out
   generalize hW8 : wr.alloc (.cells #[.int .i64 0, .int .i64 0, .int .i64 0, .int .i64 0, .int .i64 0, .int .i64 0, .int .i64 0, .int .i64 0, .int .i64 0, .int .i64 0, .int .i64 0, .int .i64 0] 106) = W8 at *
   generalize hW9 : setAll W8 wr.heap.size 0 _ = W9 at *
   simp only [setAll, Nat.zero_add, Nat.reduceAdd] at hW9
   obtain ⟨z0, z1, z2, z3, z4, z5, z6, z7, z8, z9, z10, z11⟩ := (Box.twelve HB9.out).1
   obtain ⟨⟨b0, b1, b2, b3, b4, b5⟩, bf⟩ := Box.six_ HM9.out.wk.box
   clear bf b0 b1 b2 b3 b4 HM3 HZ8
   have j0 : (0 : Int) ≤ (j : Int) := by omega
   have j1 : (j : Int) < (q : Int) := by omega
   have HAc := kp hAc
   rw [hAc]
   go_wp2_with fail
   refine HCk.out.mono ?_
   rintro e w10 ⟨rfl, A10, ck10, Ao10, co10, fs10, hto10, hwk10, ht10⟩
   have HX := kp (show Mt c F3 W9 w10 _ _ _ _ _ _ _ from ⟨hwk10, ht10, fun k hk => hk⟩)
   have hr10 := HX.out.row Hrow9.out Hoff3.out
   rw [HAc.out] at hr10
   have HR10 := kp hr10
   clear hr10
   have HM10 := kp (HM9.out.trans HX.out)
   have Hto10 := kp (show fs10.map pl = fs.map pl ++ (lcs.take (j + 1)).flatMap g by rw [hto10, Hto3.out, Htk.out, List.append_assoc])
   clear hto10 hwk10 ht10 hW8 hW9 e0 e1 e2 e3 e4 e5 e6 e7 e8 e9 e10 e11 r0 r1 r2 r3 r4 r5 r6 r7 r8 r9 r10 r11 f0 f1 f2 f3 f4 f5 f6 f7 f8 f9 f10 f11 z0 z1 z2 z3 z4 z5 z6 z7 z8 z9 z10 z11 b5 hrm HCk Har9 hAc
   go_wp2_with fail
   exact ⟨⟨j + 1, A10, ck10, Ao10, co10, fs10, _, by omega, by go_num, HM10.out, HR10.out.1, HR10.out.2, Hto10.out⟩, by simp [intOf]; omega⟩
  ·obtain rfl : j = q := by omega
   have Hto4 := kp (show fs3.map pl = fs.map pl ++ lcs.flatMap g by rw [Hto3.out, List.take_of_length_le (by rw [Hq.out]; exact Nat.le_refl _)])
   have HW4 := kp (HM3.out.did HF.out Hge.out)
   have Hfin := kp (HQ.out _ _ _ _ _ _ Hto4.out HW4.out HM3.out.turn)
   go_wp2_with fail
   go_end0
   exact Hfin.out
section
attribute [local go_sem] shape_m shape_s
theorem nodeW_all (c : Wc) (As An : Option Addr) (cs m cn most : Nat) (nds : List Nd) (hx : 1 ≤ c.nx) (hnx : c.nx ≤ 16) (hwm : c.wm ≤ 1000000) (hnn : nds.length ≤ 1000000) (hsm : ∀ n ∈ nds, NdSm n) (hl : ∀ n ∈ nds, ∀ l ∈ n.ls, l.cs.length ≤ 1000) :
 ∀ d a, a + d + 1 = c.nx → NodeW c As An cs m cn most nds a d
 | 0, a, h => wnode_any c As An cs m cn most nds hx hnx hwm hnn hsm hl a 0 h (.inl rfl)
 | d + 1, a, h => wnode_any c As An cs m cn most nds hx hnx hwm hnn hsm hl a (d + 1) h (.inr ⟨d, rfl, nodeW_all c As An cs m cn most nds hx hnx hwm hnn hsm hl d (a + 1) (by omega)⟩)
def TFRet (out : List Tup) (w : World) (e : Ending) (w' : World) : Prop := ∃ (A : Option Addr) (co : Nat) (l : List Fa), e = .returned (.tuple #[.slice A l.length co, .int .i64 0]) ∧ l.map pl = out ∧ FasOwn w' w.heap.size (.slice A l.length co) l ∧ KeysFrom w.heap.size l ∧ Below w.heap.size w w'
def factsT (nx : Nat) (P : List PNode) : List Tup := if P = [] then [] else tupP P (nx - 1) (P.length - 1) []
set_option maxRecDepth 100000 in
set_option maxHeartbeats 8000000 in
theorem tfacts_any (ga : Nat) (As An : Option Addr) (cs m cn most wm : Nat) (xs : List Fa) (nds : List Nd) (w : World) (hbx : Box w ga 138 (arC As xs.length cs m An nds.length cn most)) (hx : IlsAt w w.heap.size As xs) (h : NdsAt w w.heap.size An nds)
 (hn1 : 1 ≤ xs.length) (hn16 : xs.length ≤ 16) (hm1 : 1 ≤ m) (hm : m ≤ 3) (hnn : nds.length ≤ 1000000) (hsm : ∀ n ∈ nds, NdSm n) (hl : ∀ n ∈ nds, ∀ l ∈ n.ls, l.cs.length ≤ 1000) (hsz : ∀ x ∈ xs, x.keys.length ≤ 1000)
 (hw : Whl xs.length (nds.map plN)) (hT : nds ≠ [] → TreeW (nds.map plN) (xs.length - 1) (nds.length - 1)) (hwm : wm ≤ 1000000) (hroom : (factsT xs.length (nds.map plN)).length ≤ wm) :
 Calls Tryz.prog 15 #[.pointer (some ⟨ga, 0, none⟩), .int .i64 (wm : Nat)] w (TFRet (factsT xs.length (nds.map plN)) w) := by
 have HQ := kp (show ∀ (A : Option Addr) (co : Nat) (l : List Fa) w', l.map pl = factsT xs.length (nds.map plN) → FasOwn w' w.heap.size (.slice A l.length co) l → KeysFrom w.heap.size l → Below w.heap.size w w' → TFRet (factsT xs.length (nds.map plN)) w (.returned (.tuple #[.slice A l.length co, .int .i64 0])) w' from fun A co l w' h1 h2 h3 h4 => ⟨A, co, l, rfl, h1, h2, h3, h4⟩)
 have HSh := kp (fun W hW => ashape_any ga As An cs m nds.length cn most xs W (hbx.under hW) ((hx.below hW).more hW.size) hn1 hn16 (fun x hx' => by have := hsz x hx'; omega))
 have HTp := kp (fun W hW => top_any ga As An xs.length cs m nds.length cn most W (hbx.under hW) hn1 hnn)
 have HLn := kp (fun W hW => len_any ga As An xs.length cs m nds.length cn most W (hbx.under hW) hn1)
 have HWh := kp (fun W hW => whole_any ga As An xs.length cs m cn most nds W (hbx.under hW) ((h.below hW).more hW.size) hn1 hn16 hnn hsm hl hw)
 have HNd := kp (fun (B gb : Nat) (hwB : w.heap.size ≤ B) (hne : nds ≠ []) W (hW : Below B W W) (hbW : Below w.heap.size w W) (hk : Wk ⟨B, gb, ga, xs.length, wm⟩ W (fun k => k = gb) none 0 [] none 0 []) =>
  nodeW_all ⟨B, gb, ga, xs.length, wm⟩ As An cs m cn most nds hn1 hn16 hwm hnn hsm hl (xs.length - 1) 0 (by dsimp only; omega) (fun k => k = gb) none none 0 0 [] [] (nds.length - 1) W hk ⟨hbx.under hbW, Nat.lt_of_lt_of_le hbx.lt hwB, (h.below hbW).more hwB⟩ rfl (hT hne) (by
   have h1 := hroom
   unfold factsT at h1
   rw [if_neg (fun e => hne (List.map_eq_nil_iff.1 e)), List.length_map] at h1
   simpa using h1))
 have hf0 : nds = [] → factsT xs.length (nds.map plN) = [] := fun e => by rw [e]; rfl
 have hf1 : nds ≠ [] → factsT xs.length (nds.map plN) = tupP (nds.map plN) (xs.length - 1) (nds.length - 1) [] := fun e => by unfold factsT; rw [if_neg (fun e' => e (List.map_eq_nil_iff.1 e')), List.length_map]
 have Hf0 := kp hf0
 have Hf1 := kp hf1
 generalize hQ : TFRet (factsT xs.length (nds.map plN)) w = Q at *
 generalize factsT xs.length (nds.map plN) = out at *
 generalize tupP (nds.map plN) (xs.length - 1) (nds.length - 1) [] = out1 at *
 clear hQ hbx hx h hsm hl hsz hw hT hroom hf0 hf1
 have q1 : ((m : Int) == 0) = false := by simp; omega
 have HS0 := kp (HSh.out w (Below.refl _ _))
 go_enter Tryz.func15, Tryz.ntmps15
 go_wp2_with fail
 refine HS0.out.mono ?_
 rintro e w1 ⟨A1, c1, y1, rfl, _, _, hb1⟩
 have Hb1 := kp hb1
 have HW1 := kp (HWh.out w1 hb1)
 clear hb1
 go_wp2_with fail
 refine HW1.out.mono ?_
 rintro e w2 ⟨rfl, hb2⟩
 have Hb2 := kp (Hb1.out.trans (hb2.mono Hb1.out.size))
 have HL2 := kp (HLn.out w2 Hb2.out)
 clear hb2
 go_wp2_with fail
 refine HL2.out.mono ?_
 rintro e w3 ⟨rfl, rfl⟩
 by_cases hne : nds = []
 ·have hn0 : nds.length = 0 := by rw [hne]; rfl
  have q2 : ((nds.length : Int) == 0) = true := by rw [hn0]; rfl
  have Hfin := kp (HQ.out none 0 [] w3 (Hf0.out hne).symm ⟨own_nil _ _ _ _, fun f hf => by cases hf⟩ (fun f hf => by cases hf) Hb2.out)
  clear hne hn0
  go_wp2_with fail
  exact Hfin.out
 ·have hpos : 0 < nds.length := List.length_pos_iff.2 hne
  have q2 : ((nds.length : Int) == 0) = false := by simp; exact hne
  have HS3 := kp (HSh.out w3 Hb2.out)
  have Hne := kp hne
  clear hne
  go_wp2_with fail
  refine HS3.out.mono ?_
  rintro e w4 ⟨A4, c4, y4, rfl, _, hk4, hb4⟩
  have Hb4 := kp (Hb2.out.trans (hb4.mono Hb2.out.size))
  have hy4 : y4.length = xs.length := by have := congrArg List.length hk4; rw [List.length_map, List.length_map] at this; exact this
  rw [hy4]
  clear hb4 hk4 hy4
  have hwx : IntKind.i64.wrap ((xs.length : Int) - 1) = (xs.length : Int) - 1 := IntWalk.i64_in _ (by omega)
  have hb5 := (Below.refl w4.heap.size w4).alloc (Nat.le_refl _) (.cells #[.pointer (some ⟨ga, 0, none⟩), .int .i64 ((xs.length : Int) - 1), .slice none 0 0, .int .i64 (wm : Nat), .slice none 0 0, .int .i64 0] 113)
  have HB5 := kp (Box.new w4 113 #[.pointer (some ⟨ga, 0, none⟩), .int .i64 ((xs.length : Int) - 1), .slice none 0 0, .int .i64 (wm : Nat), .slice none 0 0, .int .i64 0])
  have Hb5 := kp (Hb4.out.trans (hb5.mono Hb4.out.size))
  have HWk := kp (show Wk ⟨w4.heap.size, w4.heap.size, ga, xs.length, wm⟩ (w4.alloc (.cells #[.pointer (some ⟨ga, 0, none⟩), .int .i64 ((xs.length : Int) - 1), .slice none 0 0, .int .i64 (wm : Nat), .slice none 0 0, .int .i64 0] 113)) (fun k => k = w4.heap.size) none 0 [] none 0 [] from
   ⟨Nat.le_refl _, HB5.out, own_nil _ _ _ _, ⟨own_nil _ _ _ _, fun f hf => by cases hf⟩, (fun f hf => by cases hf), rfl, (fun k hk => by cases hk), (fun k hk => by cases hk), (fun f hf => by cases hf), fun k hk => by rw [hk]; exact ⟨Nat.le_refl _, HB5.out.lt⟩⟩)
  generalize hW5 : w4.alloc (.cells #[.pointer (some ⟨ga, 0, none⟩), .int .i64 ((xs.length : Int) - 1), .slice none 0 0, .int .i64 (wm : Nat), .slice none 0 0, .int .i64 0] 113) = W5 at *
  have HT5 := kp (HTp.out W5 Hb5.out)
  have HN5 := kp (HNd.out w4.heap.size w4.heap.size Hb4.out.size Hne.out W5 (Below.refl _ _) Hb5.out HWk.out)
  have ecast : ((nds.length - 1 : Nat) : Int) = (nds.length : Int) - 1 := by omega
  rw [ecast] at HN5
  clear ecast hb5
  go_wp2_with fail
  clear hW5
  refine HT5.out.mono ?_
  rintro e w6 ⟨rfl, rfl⟩
  go_wp2_with fail
  refine HN5.out.mono ?_
  rintro e w7 ⟨rfl, A7, ck7, Ao7, co7, fs7, hto7, hwk7, ht7⟩
  have Hto7 := kp hto7
  have Hwk7 := kp hwk7
  have Hb7 := kp (Hb5.out.trans ((ht7.toBelow (B := w4.heap.size) (fun k hk => Nat.le_of_eq hk.symm) (Nat.le_of_lt HB5.out.lt)).mono Hb4.out.size))
  clear hto7 hwk7 ht7
  obtain ⟨⟨b0, b1, b2, b3, b4, b5⟩, bf⟩ := Box.six_ Hwk7.out.box
  clear bf b0 b1 b2 b3
  have Hfin := kp (HQ.out Ao7 co7 fs7 w7 (by rw [Hf1.out Hne.out]; exact Hto7.out) (Hwk7.out.out.base Hb4.out.size) (fun f hf b off e hne => Nat.le_trans Hb4.out.size (Hwk7.out.frm f hf b off e hne)) Hb7.out)
  go_wp2_with fail
  exact Hfin.out
end
end Go.Proofs.YthmbgbmcdbdecaaGreat.Tc
