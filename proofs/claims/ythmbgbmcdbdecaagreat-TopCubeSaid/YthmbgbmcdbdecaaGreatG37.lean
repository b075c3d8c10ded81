/- Parts of a proof: Layer 29: all nodes of an arena. Layer 28: a lookup, place by place. Layer 28: what may be asked of a shape. -/
import Derived.Test.YthmbgbmcdbdecaaGreatG05
import Derived.Test.YthmbgbmcdbdecaaGreatG24
import Derived.Test.YthmbgbmcdbdecaaGreatG32
import Derived.Test.YthmbgbmcdbdecaaGreatG36
import Derived.BigQuiet
namespace Go.Proofs.YthmbgbmcdbdecaaGreat.Tc
open Go.RowKit Base
set_option linter.unusedVariables false
set_option linter.unusedSimpArgs false
structure NdSm (n : Nd) : Prop where
 n4 : n.ls.length ≤ 4
 long : ∀ l ∈ n.ls, l.cs.length ≤ 1000000
def NodesOf (ps : List PNode) (w : World) (e : Ending) (w' : World) : Prop := ∃ (A : Option Addr) (c : Nat) (ys : List Nd), e = .returned (.slice A ys.length c) ∧ NdsOwn w' w.heap.size (.slice A ys.length c) ys ∧ ys.map plN = ps ∧ Below w.heap.size w w'
set_option maxRecDepth 100000 in
set_option maxHeartbeats 8000000 in
theorem anodes_any (ga : Nat) (As An : Option Addr) (nx cs m cn most : Nat) (nds : List Nd) (w : World) (hbx : Box w ga 138 (arC As nx cs m An nds.length cn most)) (h : NdsAt w w.heap.size An nds) (hx : 1 ≤ nx) (hnn : nds.length ≤ 1000000) (hsm : ∀ n ∈ nds, NdSm n) :
 Calls Tryz.prog 39 #[.pointer (some ⟨ga, 0, none⟩)] w (NodesOf (nds.map plN) w) := by
 obtain ⟨i0, ti0, tz0, tz1, tz2⟩ := info_parts info_node
 have HQ := kp (show ∀ A c ys w', NdsOwn w' w.heap.size (.slice A ys.length c) ys → ys.map plN = nds.map plN → Below w.heap.size w w' → NodesOf (nds.map plN) w (.returned (.slice A ys.length c)) w' from fun A c ys w' h1 h2 h3 => ⟨A, c, ys, rfl, h1, h2, h3⟩)
 generalize hQ : NodesOf (nds.map plN) w = Q at *
 clear hQ
 have Hh := kp h
 have Hsm := kp hsm
 obtain ⟨n, hn⟩ : ∃ n, nds.length = n := ⟨_, rfl⟩
 have Hn := kp hn
 rw [hn] at hbx hnn
 clear hn h hsm
 have HT := kp (there_any ga As An nx cs m n cn most w hbx hx)
 obtain ⟨⟨_, _, a2, _⟩, _⟩ := Box.four hbx
 go_enter Tryz.func39, Tryz.ntmps39
 go_wp2_with fail
 refine HT.out.mono ?_
 rintro e w1 ⟨rfl, rfl⟩
 go_wp2_with fail
 clear a2 HT hbx
 go_loopw [3, 14] (fun v3 v14 wr => ∃ (k : Nat) (ys : List Nd) (A' : Option Addr) (c' : Nat), k ≤ n ∧ v14 = .int .i64 (k : Nat) ∧ v3 = .slice A' k c' ∧ ys.length = k ∧ ys.map plN = (nds.take k).map plN ∧ NdsOwn wr w.heap.size (.slice A' k c') ys ∧ Below w.heap.size w wr) (fun _ v14 _ => n - (intOf v14).toNat)
 case atStart => exact ⟨0, [], none, 0, Nat.zero_le _, rfl, rfl, rfl, rfl, NdsOwn.nil _ _, Below.refl _ _⟩
 case round =>
  obtain ⟨k, ys, A', c', hk, rfl, rfl, hyl, hyk, hown, hbe⟩ := hrel
  have Hyl := kp hyl
  have Hyk := kp hyk
  have Hown := kp hown
  have Hbe := kp hbe
  clear hyl hyk hown hbe
  by_cases hlt : k < n
  ·have hkd : k < nds.length := by rw [Hn.out]; exact hlt
   have hat := (Hh.out.below Hbe.out).more Hbe.out.size
   obtain ⟨bn, on, hA, hbn, d0, d1, d2, d3, d4, d5, d6, d7, d8, d9, d10, d11, d12, d13⟩ := nodes_at hat.row k hkd
   have hsk := Hsm.out _ (List.getElem_mem hkd)
   have hatk := hat.each _ (List.getElem_mem hkd)
   have Hyn := kp (show ∀ f : Nd, plN f = plN (nds[k]'hkd) → (ys ++ [f]).map plN = (nds.take (k + 1)).map plN from fun f hf => by rw [List.take_succ_eq_append_getElem hkd, List.map_append, List.map_append, Hyk.out, List.map_cons, List.map_nil, List.map_cons, List.map_nil, hf])
   generalize (nds[k]'hkd) = nd at *
   have hb3 := (Below.refl wr.heap.size wr).alloc (Nat.le_refl _) (.cells #[.int .i64 0, .slice none 0 0, .int .i64 0, .int .i64 0, .int .i64 0, .int .i64 0, .int .i64 0, .int .i64 0, .int .i64 0, .int .i64 0, .int .i64 0, .int .i64 0, .int .i64 0, .int .i64 0] 108)
   have HZ := kp (Box.new wr 108 #[.int .i64 0, .slice none 0 0, .int .i64 0, .int .i64 0, .int .i64 0, .int .i64 0, .int .i64 0, .int .i64 0, .int .i64 0, .int .i64 0, .int .i64 0, .int .i64 0, .int .i64 0, .int .i64 0])
   have Hb4 := kp (below_setAll (Nat.le_refl _) (ndV nd) _ 0 hb3)
   have HB4 := kp (show Box (setAll (wr.alloc (.cells #[.int .i64 0, .slice none 0 0, .int .i64 0, .int .i64 0, .int .i64 0, .int .i64 0, .int .i64 0, .int .i64 0, .int .i64 0, .int .i64 0, .int .i64 0, .int .i64 0, .int .i64 0, .int .i64 0] 108)) wr.heap.size 0 (ndV nd)) wr.heap.size 108 (ndC nd) from box_setAll0 HZ.out (ndV nd) rfl)
   have HC := kp (nclone_any nd _ ((hatk.below Hb4.out).more Hb4.out.size) hsk.n4 hsk.long)
   have Hyp := kp (show ∀ f : Nd, plN f = plN nd → True from fun _ _ => trivial)
   obtain ⟨⟨r0, r1, r2, r3, r4, r5, r6, r7, r8, r9, r10, r11, r12, r13⟩, ⟨f0, f1, f2, f3, f4, f5, f6, f7, f8, f9, f10, f11, f12, f13⟩⟩ := Box.fourteen HZ.out
   have hi0 : (0 : Int) ≤ (k : Int) := by omega
   have hi1 : (k : Int) < (n : Int) := by omega
   generalize hpn : plN nd = pn at *
   clear hat hsk hatk hb3 HZ Hyp hpn
   obtain ⟨dim, nA, ls, nc, ⟨key, child, ⟨ac, s0, n0, x0, s1, n1, x1, s2, n2, x2⟩⟩⟩ := nd
   dsimp only [ndC, ndV] at HC HB4 Hb4 d0 d1 d2 d3 d4 d5 d6 d7 d8 d9 d10 d11 d12 d13
   generalize hW3 : wr.alloc (.cells #[.int .i64 0, .slice none 0 0, .int .i64 0, .int .i64 0, .int .i64 0, .int .i64 0, .int .i64 0, .int .i64 0, .int .i64 0, .int .i64 0, .int .i64 0, .int .i64 0, .int .i64 0, .int .i64 0] 108) = W3 at *
   generalize hW4 : setAll W3 wr.heap.size 0 _ = W4 at *
   simp only [setAll, Nat.zero_add, Nat.reduceAdd] at hW4
   obtain ⟨z0, z1, z2, z3, z4, z5, z6, z7, z8, z9, z10, z11, z12, z13⟩ := (Box.fourteen HB4.out).1
   rw [hA]
   go_wp2_with fail
   refine HC.out.mono ?_
   rintro e w5 ⟨n', rfl, hpn, hat5, hfr5, hb5⟩
   have Hpn := kp hpn
   have Hb45 := kp (Hb4.out.trans (hb5.mono Hb4.out.size))
   have Hb5 := kp (Hbe.out.trans (Hb45.out.mono Hbe.out.size))
   have Hown5 := kp (Hown.out.below Hb45.out)
   have Hap := kp (NdAp.new (v := .slice A' k c') hat5 hfr5 (fun j hj => Nat.lt_of_lt_of_le (Hown.out.1.lt j hj).2 Hb4.out.size))
   have Hfr := kp (hfr5.less (Nat.le_trans Hbe.out.size Hb4.out.size))
   have Hown5r := kp (show w5.ownsRow w.heap.size 108 14 (.slice A' k c') k (ys.flatMap ndV) by have := Hown5.out.1; rw [Hyl.out] at this; exact this)
   have Hs5 := kp Hb5.out.size
   have hk1 : k + 1 < 1048576 * 64 := by omega
   clear hpn hat5 hfr5 hb5 HC HB4 Hb4 hW3 hW4 d0 d1 d2 d3 d4 d5 d6 d7 d8 d9 d10 d11 d12 d13 r0 r1 r2 r3 r4 r5 r6 r7 r8 r9 r10 r11 r12 r13 f0 f1 f2 f3 f4 f5 f6 f7 f8 f9 f10 f11 f12 f13 z0 z1 z2 z3 z4 z5 z6 z7 z8 z9 z10 z11 z12 z13 hA
   go_wp2_with (at_builtin; refine wpList_appK rfl (.tmp 18) (.tmp 21) 102 rfl w.heap.size 108 i0 _ 14 128 Tryz.underlying102 ti0 tz0 tz1 tz2 rfl (by decide) w5 (ndC n') rfl (nd_one n') (.slice A' k c') k (ys.flatMap ndV) rfl Hown5r.out rfl hk1 (by decide) Hs5.out ?_; intro v6 w6 hown6 happ6; obtain ⟨A6, c6, h6⟩ := own_formK hown6; subst h6; have Hown6 := kp hown6; have Hap6 := kp happ6; have Hb6 := kp (happ6.belowK Hb5.out Hown5r.out (Nat.le_refl _) Hs5.out); clear hown6 happ6)
   have HF := kp (NdsOwn.app (x := n') Hown5.out Hap.out Hfr.out Hown6.out Hap6.out Hyl.out)
   exact ⟨⟨k + 1, ys ++ [n'], A6, c6, by omega, by go_num, rfl, by rw [List.length_append, Hyl.out]; rfl, Hyn.out _ Hpn.out, HF.out, Hb6.out⟩, by simp [intOf]; omega⟩
  ·obtain rfl : k = n := by omega
   have HF := kp (HQ.out A' c' ys)
   rw [Hyl.out] at HF
   have Hfin := kp (HF.out _ Hown.out (by have := Hyk.out; rw [List.take_of_length_le (by rw [Hn.out]; exact Nat.le_refl _)] at this; exact this) Hbe.out)
   go_wp2_with fail
   exact Hfin.out
def alongV (nodes : List PNode) : List Pos → Nat → Cl → Option Cl
 | [], _, c => some c
 | p :: ps, i, c => match nodes[i]? with
  | none => none
  | some n => (askC p n).bind fun d => alongV nodes ps d.child d
def WalkOk (nodes : List PNode) : List Pos → Nat → Nat → Prop
 | [], _, _ => True
 | p :: ps, a, i => ∃ n, nodes[i]? = some n ∧ n.dim = a ∧ AskOk p n ∧ p.tier < (n.lists.length : Int) ∧ 1 ≤ n.lists.length ∧ ∀ d, askC p n = some d → WalkOk nodes ps (a + 1) d.child
def AlongRet (o : Option Cl) (w : World) (e : Ending) (w' : World) : Prop := (∃ k : Nat, e = .returned (.tuple #[.agg (agC ((o.getD clZero).ag)), .int .i64 (k : Nat), .int .i64 (if o.isSome then 0 else 10)])) ∧ Below w.heap.size w w'
theorem poss_at {w : World} {B : Nat} {A : Option Addr} {l : List Pos} (h : Row w B A (l.flatMap posV)) (k : Nat) (hk : k < l.length) :
 ∃ b off, A = some ⟨b, off, none⟩ ∧ b < B ∧ w.cell? ⟨b, off + k * 2, none⟩ = some (.int .i64 l[k].tier) ∧ w.cell? ⟨b, off + k * 2 + 1, none⟩ = some (.int .i64 l[k].key) := by
 obtain ⟨b, off, e, hb, hc⟩ := Row.rec posV_len h (by omega) k hk
 exact ⟨b, off, e, hb, hc 0 _ rfl, hc 1 _ rfl⟩
set_option maxRecDepth 100000 in
set_option maxHeartbeats 8000000 in
theorem along_any (ga : Nat) (As An Ap : Option Addr) (nx cs m cn cp most : Nat) (nds : List Nd) (top : Nat) (ps : List Pos) (w : World) (hbx : Box w ga 138 (arC As nx cs m An nds.length cn most)) (h : NdsAt w w.heap.size An nds) (hx : 1 ≤ nx) (hnn : nds.length ≤ 1000000) (hsm : ∀ n ∈ nds, NdSm n)
 (hp : Row w w.heap.size Ap (ps.flatMap posV)) (hps : ps.length ≤ 1000000) (hok : WalkOk (nds.map plN) ps 0 top) :
 Calls Tryz.prog 37 #[.int .i64 (top : Nat), .func (.func 38) #[.pointer (some ⟨ga, 0, none⟩)] #[], .slice Ap ps.length cp] w (AlongRet (alongV (nds.map plN) ps top clZero) w) := by
 have HQ := kp (show ∀ (k : Nat) w', Below w.heap.size w w' → AlongRet (alongV (nds.map plN) ps top clZero) w (.returned (.tuple #[.agg (agC (((alongV (nds.map plN) ps top clZero).getD clZero).ag)), .int .i64 (k : Nat), .int .i64 (if (alongV (nds.map plN) ps top clZero).isSome then 0 else 10)])) w' from fun k w' h => ⟨⟨k, rfl⟩, h⟩)
 generalize hQ : AlongRet (alongV (nds.map plN) ps top clZero) w = Q at *
 obtain ⟨O, hO⟩ : ∃ O, alongV (nds.map plN) ps top clZero = O := ⟨_, rfl⟩
 rw [hO] at HQ
 have HO := kp hO
 clear hQ hO
 have Hok := kp hok
 have Hh := kp h
 have Hbx := kp hbx
 have Hp := kp hp
 have Hsm := kp hsm
 have hb1 := (Below.refl w.heap.size w).alloc (Nat.le_refl _) (.cells #[.int .i64 0, .int .i64 0, .int .i64 0, .int .i64 0, .int .i64 0, .int .i64 0, .int .i64 0, .int .i64 0, .int .i64 0, .int .i64 0] 47)
 have hb2 := hb1.alloc hb1.size (.cells #[.int .i64 0, .int .i64 0, .int .i64 0, .int .i64 0, .int .i64 0, .int .i64 0, .int .i64 0, .int .i64 0, .int .i64 0, .int .i64 0, .int .i64 0, .int .i64 0] 106)
 have HR := kp ((Box.new w 47 #[.int .i64 0, .int .i64 0, .int .i64 0, .int .i64 0, .int .i64 0, .int .i64 0, .int .i64 0, .int .i64 0, .int .i64 0, .int .i64 0]).alloc (.cells #[.int .i64 0, .int .i64 0, .int .i64 0, .int .i64 0, .int .i64 0, .int .i64 0, .int .i64 0, .int .i64 0, .int .i64 0, .int .i64 0, .int .i64 0, .int .i64 0] 106))
 have HC := kp (show Box ((w.alloc (.cells #[.int .i64 0, .int .i64 0, .int .i64 0, .int .i64 0, .int .i64 0, .int .i64 0, .int .i64 0, .int .i64 0, .int .i64 0, .int .i64 0] 47)).alloc (.cells #[.int .i64 0, .int .i64 0, .int .i64 0, .int .i64 0, .int .i64 0, .int .i64 0, .int .i64 0, .int .i64 0, .int .i64 0, .int .i64 0, .int .i64 0, .int .i64 0] 106)) (w.heap.size + 1) 106 (clC clZero) from Box.lay (by simp))
 have Hb2 := kp hb2
 clear hb1 hb2 h hbx hp hsm hok
 obtain ⟨n, hn⟩ : ∃ n, ps.length = n := ⟨_, rfl⟩
 have Hn := kp hn
 rw [hn] at hps ⊢
 clear hn
 generalize hW2 : (w.alloc (.cells #[.int .i64 0, .int .i64 0, .int .i64 0, .int .i64 0, .int .i64 0, .int .i64 0, .int .i64 0, .int .i64 0, .int .i64 0, .int .i64 0] 47)).alloc (.cells #[.int .i64 0, .int .i64 0, .int .i64 0, .int .i64 0, .int .i64 0, .int .i64 0, .int .i64 0, .int .i64 0, .int .i64 0, .int .i64 0, .int .i64 0, .int .i64 0] 106) = W2 at *
 go_enter Tryz.func37, Tryz.ntmps37
 go_wp2_with fail
 clear hW2
 go_loopw [9, 10, 19] (fun v9 v10 v19 wr => ∃ (j i : Nat) (last : Cl), j ≤ n ∧ v19 = .int .i64 (j : Nat) ∧ v10 = .int .i64 (j : Nat) ∧ v9 = .int .i64 (i : Nat) ∧ Box wr w.heap.size 47 #[.int .i64 0, .int .i64 0, .int .i64 0, .int .i64 0, .int .i64 0, .int .i64 0, .int .i64 0, .int .i64 0, .int .i64 0, .int .i64 0] ∧ Box wr (w.heap.size + 1) 106 (clC last) ∧ Below w.heap.size w wr ∧ WalkOk (nds.map plN) (ps.drop j) j i ∧ alongV (nds.map plN) (ps.drop j) i last = O) (fun _ _ v19 _ => n - (intOf v19).toNat)
 case atStart => exact ⟨0, top, clZero, Nat.zero_le _, rfl, rfl, rfl, HR.out, HC.out, Hb2.out, Hok.out, HO.out⟩
 case round =>
  obtain ⟨j, i, last, hj, rfl, rfl, rfl, hbr, hbc, hbe, hok, hal⟩ := hrel
  have Hbr := kp hbr
  have Hbc := kp hbc
  have Hbe := kp hbe
  by_cases hlt : j < n
  ·have hjp : j < ps.length := by rw [Hn.out]; exact hlt
   rw [List.drop_eq_getElem_cons hjp] at hok hal
   obtain ⟨pn, hpn, hdm, hask, hti, hl1, hnext⟩ := hok
   have hat := Hp.out.below Hbe.out
   obtain ⟨bp, op, hA, hbp, c0, c1⟩ := poss_at hat j hjp
   have hal' : (askC (ps[j]'hjp) pn).bind (fun d => alongV (nds.map plN) (ps.drop (j + 1)) d.child d) = O := by
    unfold alongV at hal
    rw [hpn] at hal
    exact hal
   rw [List.getElem?_map] at hpn
   obtain ⟨nd, hnd, rfl⟩ := Option.map_eq_some_iff.1 hpn
   obtain ⟨hi, hnd⟩ := List.getElem?_eq_some_iff.1 hnd
   have hdm' : nd.dim = j := hdm
   have hsk := Hsm.out nd (hnd ▸ List.getElem_mem hi)
   have hls : (plN nd).lists.length = nd.ls.length := by unfold plN; simp
   have hb3 := (Below.refl wr.heap.size wr).alloc (Nat.le_refl _) (.cells #[.int .i64 (ps[j]'hjp).tier, .int .i64 (ps[j]'hjp).key] 58)
   have HB3 := kp (Box.new wr 58 #[.int .i64 (ps[j]'hjp).tier, .int .i64 (ps[j]'hjp).key])
   have hw3 := Hbe.out.trans (hb3.mono Hbe.out.size)
   have HS := kp (step_any ga As An nx cs m cn most nds i hi _ (Hbx.out.under hw3) ((Hh.out.below hw3).more hw3.size) hx hnn (by rw [hnd]; omega) (by rw [hnd]; exact hsk.n4) (by rw [hnd]; exact hsk.long) (ps[j]'hjp) (by rw [hnd]; exact hask) (by rw [hnd]; omega))
   rw [hnd, hdm'] at HS
   have Hal := kp hal'
   have Hnext := kp hnext
   have Hbr3 := kp (Hbr.out.under hb3)
   have Hbc3 := kp (Hbc.out.under hb3)
   have Hw3 := kp hw3
   clear hal hal' hnext hpn hdm hask hti hl1 hat hnd hdm' hsk hls hb3 hw3 hbr hbc hbe
   generalize askC (ps[j]'hjp) (plN nd) = o at *
   generalize (ps[j]'hjp).tier = pt at *
   generalize (ps[j]'hjp).key = pk at *
   have hi0 : (0 : Int) ≤ (j : Int) := by omega
   have hi1 : (j : Int) < (n : Int) := by omega
   generalize hW3 : wr.alloc (.cells #[.int .i64 pt, .int .i64 pk] 58) = W3 at *
   obtain ⟨y0, y1, _, _⟩ := HB3.out.two
   rw [hA]
   go_wp2_with fail
   refine HS.out.mono ?_
   rintro e w5 ⟨rfl, hb5⟩
   have HR5 := kp (Hbr3.out.under hb5)
   have HC5 := kp (Hbc3.out.under hb5)
   have Hb5 := kp (Hw3.out.trans (hb5.mono Hw3.out.size))
   have hw := IntWalk.i64_in ((j : Int) + 1) (by omega)
   clear hb5 HB3 hW3 y0 y1 c0 c1 hA hi0 hi1 HS Hbr3 Hbc3 Hw3
   have hb6 := (Below.refl w5.heap.size w5).alloc (Nat.le_refl _) (.cells #[.int .i64 0, .int .i64 0, .int .i64 0, .int .i64 0, .int .i64 0, .int .i64 0, .int .i64 0, .int .i64 0, .int .i64 0, .int .i64 0, .int .i64 0, .int .i64 0] 106)
   have HZ := kp (Box.new w5 106 #[.int .i64 0, .int .i64 0, .int .i64 0, .int .i64 0, .int .i64 0, .int .i64 0, .int .i64 0, .int .i64 0, .int .i64 0, .int .i64 0, .int .i64 0, .int .i64 0])
   have Hb7s := kp (below_setAll (Nat.le_refl _) (clV (o.getD clZero)) _ 0 hb6)
   have HB7 := kp (show Box (setAll (w5.alloc (.cells #[.int .i64 0, .int .i64 0, .int .i64 0, .int .i64 0, .int .i64 0, .int .i64 0, .int .i64 0, .int .i64 0, .int .i64 0, .int .i64 0, .int .i64 0, .int .i64 0] 106)) w5.heap.size 0 (clV (o.getD clZero))) w5.heap.size 106 (clC (o.getD clZero)) from box_setAll0 HZ.out (clV (o.getD clZero)) rfl)
   have HR7 := kp (HR5.out.under Hb7s.out)
   have HC7 := kp (HC5.out.under Hb7s.out)
   have Hb7 := kp (Hb5.out.trans (Hb7s.out.mono Hb5.out.size))
   obtain ⟨⟨r0, r1, r2, r3, r4, r5, r6, r7, r8, r9, r10, r11⟩, ⟨f0, f1, f2, f3, f4, f5, f6, f7, f8, f9, f10, f11⟩⟩ := Box.twelve HZ.out
   have hgR : w.heap.size < w5.heap.size := HR5.out.lt
   have Hgt := kp (show w.heap.size + 1 < w5.heap.size from HC5.out.lt)
   obtain ⟨bo, hbo⟩ : ∃ bo, o.isSome = bo := ⟨_, rfl⟩
   have Hbo := kp hbo
   rw [hbo]
   obtain ⟨qq, hqq⟩ : ∃ qq, o.getD clZero = qq := ⟨_, rfl⟩
   have Hqq := kp hqq
   rw [hqq] at HB7 HR7 HC7 Hb7 ⊢
   clear Hb7s hb6 HZ HR5 HC5 Hb5 hbo hqq
   obtain ⟨qk, qc, ⟨qa, s0q, n0q, x0q, s1q, n1q, x1q, s2q, n2q, x2q⟩⟩ := qq
   dsimp only [clC, clV] at HB7 HR7 HC7 Hb7 ⊢
   generalize hW6 : w5.alloc (.cells #[.int .i64 0, .int .i64 0, .int .i64 0, .int .i64 0, .int .i64 0, .int .i64 0, .int .i64 0, .int .i64 0, .int .i64 0, .int .i64 0, .int .i64 0, .int .i64 0] 106) = W6 at *
   generalize hW7 : setAll W6 w5.heap.size 0 _ = W7 at *
   simp only [setAll, Nat.zero_add, Nat.reduceAdd] at hW7
   cases bo with
   | false =>
    have hO : O = none := by
     have h1 := Hbo.out
     have h2 := Hal.out
     cases o with
     | none => exact h2.symm
     | some x => cases h1
    obtain ⟨⟨u0, u1, u2, u3, u4, u5, u6, u7, u8, u9⟩, ⟨v0, v1, v2, v3, v4, v5, v6, v7, v8, v9⟩⟩ := Box.ten HR7.out
    have HB8 := kp (show Box (setAll W7 w.heap.size 0 [.int .i64 0, .int .i64 0, .int .i64 0, .int .i64 0, .int .i64 0, .int .i64 0, .int .i64 0, .int .i64 0, .int .i64 0, .int .i64 0]) w.heap.size 47 #[.int .i64 0, .int .i64 0, .int .i64 0, .int .i64 0, .int .i64 0, .int .i64 0, .int .i64 0, .int .i64 0, .int .i64 0, .int .i64 0] from box_setAll0 HR7.out [.int .i64 0, .int .i64 0, .int .i64 0, .int .i64 0, .int .i64 0, .int .i64 0, .int .i64 0, .int .i64 0, .int .i64 0, .int .i64 0] rfl)
    have Hfin := kp (show Q (.returned (.tuple #[.agg #[.int .i64 0, .int .i64 0, .int .i64 0, .int .i64 0, .int .i64 0, .int .i64 0, .int .i64 0, .int .i64 0, .int .i64 0, .int .i64 0], .int .i64 ((j : Int) + 1), .int .i64 10])) (setAll W7 w.heap.size 0 [.int .i64 0, .int .i64 0, .int .i64 0, .int .i64 0, .int .i64 0, .int .i64 0, .int .i64 0, .int .i64 0, .int .i64 0, .int .i64 0]) by
     have := HQ.out (j + 1) _ (below_setAll (Nat.le_refl _) [.int .i64 0, .int .i64 0, .int .i64 0, .int .i64 0, .int .i64 0, .int .i64 0, .int .i64 0, .int .i64 0, .int .i64 0, .int .i64 0] W7 0 Hb7.out)
     rw [hO] at this
     exact this)
    generalize hW8 : setAll W7 w.heap.size 0 _ = W8 at *
    simp only [setAll, Nat.zero_add, Nat.reduceAdd] at hW8
    obtain ⟨t0, t1, t2, t3, t4, t5, t6, t7, t8, t9⟩ := (Box.ten HB8.out).1
    clear HR7 HC7 Hb7 HB7 HQ HB8
    go_wp2_with fail
    refine bodyPost_ret (v := .tuple #[.agg #[.int .i64 0, .int .i64 0, .int .i64 0, .int .i64 0, .int .i64 0, .int .i64 0, .int .i64 0, .int .i64 0, .int .i64 0, .int .i64 0], .int .i64 ((j : Int) + 1), .int .i64 10]) ?_ rfl Hfin.out
    simp [results, Tryz.results37, go_sem, t0, t1, t2, t3, t4, t5, t6, t7, t8, t9]
   | true =>
    have ho : o = some ⟨qk, qc, ⟨qa, s0q, n0q, x0q, s1q, n1q, x1q, s2q, n2q, x2q⟩⟩ := by
     have h1 := Hbo.out
     have h2 := Hqq.out
     cases o with
     | none => cases h1
     | some x => exact congrArg some h2
    have Hnx := kp (Hnext.out _ ho)
    have Hal2 := kp (show alongV (nds.map plN) (ps.drop (j + 1)) qc ⟨qk, qc, ⟨qa, s0q, n0q, x0q, s1q, n1q, x1q, s2q, n2q, x2q⟩⟩ = O by
     have := Hal.out
     rw [ho] at this
     exact this)
    clear ho
    obtain ⟨lk, lc, ⟨la, s0l, n0l, x0l, s1l, n1l, x1l, s2l, n2l, x2l⟩⟩ := last
    dsimp only [clC] at HC7
    obtain ⟨⟨u0, u1, u2, u3, u4, u5, u6, u7, u8, u9, u10, u11⟩, ⟨v0, v1, v2, v3, v4, v5, v6, v7, v8, v9, v10, v11⟩⟩ := Box.twelve HC7.out
    obtain ⟨z0, z1, z2, z3, z4, z5, z6, z7, z8, z9, z10, z11⟩ := (Box.twelve HB7.out).1
    have HC8 := kp (show Box (setAll W7 (w.heap.size + 1) 0 [.int .i64 (qk : Nat), .int .i64 (qc : Nat), .int .i64 qa, .int .i64 s0q, .int .i64 n0q, .int .i64 x0q, .int .i64 s1q, .int .i64 n1q, .int .i64 x1q, .int .i64 s2q, .int .i64 n2q, .int .i64 x2q]) (w.heap.size + 1) 106 #[.int .i64 (qk : Nat), .int .i64 (qc : Nat), .int .i64 qa, .int .i64 s0q, .int .i64 n0q, .int .i64 x0q, .int .i64 s1q, .int .i64 n1q, .int .i64 x1q, .int .i64 s2q, .int .i64 n2q, .int .i64 x2q] from box_setAll0 HC7.out [.int .i64 (qk : Nat), .int .i64 (qc : Nat), .int .i64 qa, .int .i64 s0q, .int .i64 n0q, .int .i64 x0q, .int .i64 s1q, .int .i64 n1q, .int .i64 x1q, .int .i64 s2q, .int .i64 n2q, .int .i64 x2q] rfl)
    have HB8 := kp (show Box (setAll W7 (w.heap.size + 1) 0 [.int .i64 (qk : Nat), .int .i64 (qc : Nat), .int .i64 qa, .int .i64 s0q, .int .i64 n0q, .int .i64 x0q, .int .i64 s1q, .int .i64 n1q, .int .i64 x1q, .int .i64 s2q, .int .i64 n2q, .int .i64 x2q]) w5.heap.size 106 #[.int .i64 (qk : Nat), .int .i64 (qc : Nat), .int .i64 qa, .int .i64 s0q, .int .i64 n0q, .int .i64 x0q, .int .i64 s1q, .int .i64 n1q, .int .i64 x1q, .int .i64 s2q, .int .i64 n2q, .int .i64 x2q] from (setAll_other (Nat.ne_of_gt Hgt.out) _ _ _).trans HB7.out)
    have HR8 := kp (show Box (setAll W7 (w.heap.size + 1) 0 [.int .i64 (qk : Nat), .int .i64 (qc : Nat), .int .i64 qa, .int .i64 s0q, .int .i64 n0q, .int .i64 x0q, .int .i64 s1q, .int .i64 n1q, .int .i64 x1q, .int .i64 s2q, .int .i64 n2q, .int .i64 x2q]) w.heap.size 47 #[.int .i64 0, .int .i64 0, .int .i64 0, .int .i64 0, .int .i64 0, .int .i64 0, .int .i64 0, .int .i64 0, .int .i64 0, .int .i64 0] from (setAll_other (by omega) _ _ _).trans HR7.out)
    have Hb8 := kp (below_setAll (Nat.le_succ _) [.int .i64 (qk : Nat), .int .i64 (qc : Nat), .int .i64 qa, .int .i64 s0q, .int .i64 n0q, .int .i64 x0q, .int .i64 s1q, .int .i64 n1q, .int .i64 x1q, .int .i64 s2q, .int .i64 n2q, .int .i64 x2q] W7 0 Hb7.out)
    generalize hW8 : setAll W7 (w.heap.size + 1) 0 _ = W8 at *
    simp only [setAll, Nat.zero_add, Nat.reduceAdd] at hW8
    clear HR7 HC7 Hb7 HB7 HQ
    go_upto_region 10 with fail
    refine wp_region_noPanic ?_
    refine wp_region_T (t := 99) (S := (fun w' => w'.cell? ⟨w5.heap.size, 0, none⟩ = some (.int .i64 (qk : Nat)) ∧ w'.cell? ⟨w5.heap.size, 1, none⟩ = some (.int .i64 (qc : Nat)) ∧ w'.cell? ⟨w5.heap.size, 2, none⟩ = some (.int .i64 qa) ∧ w'.cell? ⟨w5.heap.size, 3, none⟩ = some (.int .i64 s0q) ∧ w'.cell? ⟨w5.heap.size, 4, none⟩ = some (.int .i64 n0q) ∧ w'.cell? ⟨w5.heap.size, 5, none⟩ = some (.int .i64 x0q) ∧ w'.cell? ⟨w5.heap.size, 6, none⟩ = some (.int .i64 s1q) ∧ w'.cell? ⟨w5.heap.size, 7, none⟩ = some (.int .i64 n1q) ∧ w'.cell? ⟨w5.heap.size, 8, none⟩ = some (.int .i64 x1q) ∧ w'.cell? ⟨w5.heap.size, 9, none⟩ = some (.int .i64 s2q) ∧ w'.cell? ⟨w5.heap.size, 10, none⟩ = some (.int .i64 n2q) ∧ w'.cell? ⟨w5.heap.size, 11, none⟩ = some (.int .i64 x2q))) (by kernel_rfl) ⟨z0, z1, z2, z3, z4, z5, z6, z7, z8, z9, z10, z11⟩ (fun hHeld => ?_)
    refine tk 0 hHeld ?_
    refine tk 1 hHeld ?_
    refine tk 2 hHeld ?_
    refine wpAnyT_one (i := 3) (o := ?op3) (by kernel_rfl) ?ap3 (by decide) (fun K hK => ?bp3)
    case ap3 => (simp only [List.getElem?_toArray, List.getElem?_cons_succ, List.getElem?_cons_zero]; exact rfl)
    go_simp
    refine hK.out _ _ ?_ (fun hHeld2 => ?_)
    ·exact (Box.twelve (show Box W8.drew w5.heap.size 106 #[.int .i64 (qk : Nat), .int .i64 (qc : Nat), .int .i64 qa, .int .i64 s0q, .int .i64 n0q, .int .i64 x0q, .int .i64 s1q, .int .i64 n1q, .int .i64 x1q, .int .i64 s2q, .int .i64 n2q, .int .i64 x2q] from HB8.out)).1
    clear hK K hHeld
    have hHeld := hHeld2
    clear hHeld2
    try simp only [Act.put, List.setIfInBounds_toArray, List.set_cons_zero, List.set_cons_succ]
    refine tk 4 hHeld ?_
    refine wpAnyT_done (by kernel_rfl) ?_ _
    try clear hHeld
    refine NoPanic.normal ?_
    go_wp2_with fail
    exact ⟨⟨j + 1, qc, ⟨qk, qc, ⟨qa, s0q, n0q, x0q, s1q, n1q, x1q, s2q, n2q, x2q⟩⟩, by omega, by go_num, by go_num, rfl, HR8.out, HC8.out, Hb8.out.drew, Hnx.out, Hal2.out⟩, by simp [intOf]; omega⟩
  ·obtain rfl : j = n := by omega
   have hO : O = some last := by
    rw [List.drop_of_length_le (by rw [Hn.out]; exact Nat.le_refl _)] at hal
    exact hal.symm
   obtain ⟨lk, lc, ⟨la, s0l, n0l, x0l, s1l, n1l, x1l, s2l, n2l, x2l⟩⟩ := last
   obtain ⟨⟨u0, u1, u2, u3, u4, u5, u6, u7, u8, u9⟩, ⟨v0, v1, v2, v3, v4, v5, v6, v7, v8, v9⟩⟩ := Box.ten hbr
   dsimp only [clC] at hbc
   obtain ⟨z0, z1, z2, z3, z4, z5, z6, z7, z8, z9, z10, z11⟩ := (Box.twelve hbc).1
   have HB8 := kp (show Box (setAll wr w.heap.size 0 [.int .i64 la, .int .i64 s0l, .int .i64 n0l, .int .i64 x0l, .int .i64 s1l, .int .i64 n1l, .int .i64 x1l, .int .i64 s2l, .int .i64 n2l, .int .i64 x2l]) w.heap.size 47 #[.int .i64 la, .int .i64 s0l, .int .i64 n0l, .int .i64 x0l, .int .i64 s1l, .int .i64 n1l, .int .i64 x1l, .int .i64 s2l, .int .i64 n2l, .int .i64 x2l] from box_setAll0 hbr [.int .i64 la, .int .i64 s0l, .int .i64 n0l, .int .i64 x0l, .int .i64 s1l, .int .i64 n1l, .int .i64 x1l, .int .i64 s2l, .int .i64 n2l, .int .i64 x2l] rfl)
   have Hfin := kp (show Q (.returned (.tuple #[.agg #[.int .i64 la, .int .i64 s0l, .int .i64 n0l, .int .i64 x0l, .int .i64 s1l, .int .i64 n1l, .int .i64 x1l, .int .i64 s2l, .int .i64 n2l, .int .i64 x2l], .int .i64 (j : Int), .int .i64 0])) (setAll wr w.heap.size 0 [.int .i64 la, .int .i64 s0l, .int .i64 n0l, .int .i64 x0l, .int .i64 s1l, .int .i64 n1l, .int .i64 x1l, .int .i64 s2l, .int .i64 n2l, .int .i64 x2l]) by
    have := HQ.out j _ (below_setAll (Nat.le_refl _) [.int .i64 la, .int .i64 s0l, .int .i64 n0l, .int .i64 x0l, .int .i64 s1l, .int .i64 n1l, .int .i64 x1l, .int .i64 s2l, .int .i64 n2l, .int .i64 x2l] wr 0 hbe)
    rw [hO] at this
    exact this)
   generalize hW8 : setAll wr w.heap.size 0 _ = W8 at *
   simp only [setAll, Nat.zero_add, Nat.reduceAdd] at hW8
   obtain ⟨t0, t1, t2, t3, t4, t5, t6, t7, t8, t9⟩ := (Box.ten HB8.out).1
   clear hbr hbc hbe Hbr Hbc Hbe HQ HB8 hok hal
   go_wp2_with fail
   refine bodyPost_ret (v := .tuple #[.agg #[.int .i64 la, .int .i64 s0l, .int .i64 n0l, .int .i64 x0l, .int .i64 s1l, .int .i64 n1l, .int .i64 x1l, .int .i64 s2l, .int .i64 n2l, .int .i64 x2l], .int .i64 (j : Int), .int .i64 0]) ?_ rfl Hfin.out
   simp [results, Tryz.results37, go_sem, t0, t1, t2, t3, t4, t5, t6, t7, t8, t9]
def PosOk (l : List Nat) (p : Pos) : Prop := (p.tier < 0 ∧ p.key = 0) ∨ ∃ (t k y : Nat), p.tier = (t : Int) ∧ p.key = (k : Int) ∧ l[t]? = some y ∧ k < y
set_option maxRecDepth 100000 in
set_option maxHeartbeats 8000000 in
theorem lcheck_any (A Ap : Option Addr) (c cp m : Nat) (xs : List Fa) (ps : List Pos) (w : World) (h : IlsAt w w.heap.size A xs) (hp : Row w w.heap.size Ap (ps.flatMap posV)) (hlen : ps.length = xs.length) (hn16 : xs.length ≤ 16) (hsz : ∀ x ∈ xs, x.keys.length ≤ 1000)
 (hok : ∀ k (h1 : k < xs.length) (h2 : k < ps.length), PosOk xs[k].keys ps[k]) :
 Calls Tryz.prog 35 #[.agg #[.slice A xs.length c, .int .i64 (m : Nat)], .slice Ap ps.length cp] w fun e w' => e = .returned (.int .i64 0) ∧ Below w.heap.size w w' := by
 have hb0 := (Below.refl w.heap.size w).alloc (Nat.le_refl _) (.cells #[.slice A xs.length c, .int .i64 (m : Nat)] 83)
 have HB := kp (Box.new w 83 #[.slice A xs.length c, .int .i64 (m : Nat)])
 have Hb0 := kp hb0
 have Hh := kp h
 have Hp := kp hp
 have Hok := kp hok
 have Hsz := kp hsz
 clear h hp hok hsz hb0
 generalize hQ : (fun (e : Ending) w' => e = .returned (.int .i64 0) ∧ Below w.heap.size w w') = Q
 have HQ := kp (show ∀ w', Below w.heap.size w w' → Q (.returned (.int .i64 0)) w' by rw [← hQ]; exact fun w' h => ⟨rfl, h⟩)
 clear hQ
 obtain ⟨n, hn⟩ : ∃ n, xs.length = n := ⟨_, rfl⟩
 have Hn := kp hn
 have Hnp := kp (hlen.trans hn)
 rw [hlen]
 rw [hn] at HB Hb0 hn16 ⊢
 clear hn hlen
 have q0 : ((n : Int) == (n : Int)) = true := by simp
 obtain ⟨z0, z1, _, _⟩ := HB.out.two
 generalize hW0 : w.alloc (.cells #[.slice A n c, .int .i64 (m : Nat)] 83) = W0 at *
 go_enter Tryz.func35, Tryz.ntmps35
 go_wp2_with fail
 clear hW0 z0 z1
 go_loopw [15] (fun v15 wr => ∃ k : Nat, k ≤ n ∧ v15 = .int .i64 (k : Nat) ∧ Box wr w.heap.size 83 #[.slice A n c, .int .i64 (m : Nat)] ∧ Below w.heap.size w wr) (fun v15 _ => n - (intOf v15).toNat)
 case atStart => exact ⟨0, Nat.zero_le _, rfl, HB.out, Hb0.out⟩
 case round =>
  obtain ⟨k, hk, rfl, hbx, hbe⟩ := hrel
  have Hbx := kp hbx
  have Hbe := kp hbe
  by_cases hlt : k < n
  ·have hkx : k < xs.length := by rw [Hn.out]; exact hlt
   have hkp : k < ps.length := by rw [Hnp.out]; exact hlt
   obtain ⟨bp, op, hA, hbp, c0, c1⟩ := poss_at (Hp.out.below Hbe.out) k hkp
   have hb3 := (Below.refl wr.heap.size wr).alloc (Nat.le_refl _) (.cells #[.int .i64 (ps[k]'hkp).tier, .int .i64 (ps[k]'hkp).key] 58)
   have HP3 := kp (Box.new wr 58 #[.int .i64 (ps[k]'hkp).tier, .int .i64 (ps[k]'hkp).key])
   have HB3 := kp (hbx.under hb3)
   have Hb3 := kp (hbe.trans (hb3.mono hbe.size))
   have hat := (Hh.out.below Hb3.out).more Hb3.out.size
   obtain ⟨bx, ox, hX, hbx', x0⟩ := Row.at_ hat.row (k := k) (by rw [List.length_map]; exact hkx)
   rw [List.getElem_map] at x0
   unfold ilV at x0
   have hok := Hok.out k hkx hkp
   have hrow := hat.each _ (List.getElem_mem hkx)
   have hlx := Hsz.out _ (List.getElem_mem hkx)
   generalize (ps[k]'hkp) = p at *
   obtain ⟨pt, pk⟩ := p
   generalize (xs[k]'hkx) = x at *
   have hi0 : (0 : Int) ≤ (k : Int) := by omega
   have hi1 : (k : Int) < (n : Int) := by omega
   dsimp only at c0 c1 HP3 HB3 Hb3 x0
   generalize hW3 : wr.alloc (.cells #[.int .i64 pt, .int .i64 pk] 58) = W3 at *
   obtain ⟨y0, y1, _, _⟩ := HP3.out.two
   rw [hA]
   rcases hok with ⟨h1, h2⟩ | ⟨t, q, y, h1, h2, h3, h4⟩
   ·dsimp only at h1 h2
    have q1 : decide (pt < 0) = true := decide_eq_true h1
    have q2 : (pk == (0 : Int)) = true := by rw [h2]; rfl
    clear h2
    go_wp2_with fail
    exact ⟨⟨k + 1, by omega, by go_num, HB3.out, Hb3.out⟩, by simp [intOf]; omega⟩
   ·dsimp only at h1 h2
    subst h1 h2
    obtain ⟨ht, hy⟩ := List.getElem?_eq_some_iff.1 h3
    obtain ⟨by_, oy, hAy, hby, e0⟩ := Row.at_ hrow (k := t) (by rw [natV_len]; exact ht)
    unfold natV at e0
    rw [List.getElem_map, hy] at e0
    obtain ⟨z0, z1, _, _⟩ := HB3.out.two
    rw [hX] at z0
    rw [hAy] at x0
    have q1 : ¬ (t : Int) < 0 := by omega
    have q1d : decide ((t : Int) < 0) = false := decide_eq_false q1
    have q2 : ¬ (x.keys.length : Int) ≤ (t : Int) := by omega
    have q2d : decide ((x.keys.length : Int) ≤ (t : Int)) = false := decide_eq_false q2
    have q3 : ¬ (q : Int) < 0 := by omega
    have q3d : decide ((q : Int) < 0) = false := decide_eq_false q3
    have q4 : ¬ (y : Int) ≤ (q : Int) := by omega
    have q4d : decide ((y : Int) ≤ (q : Int)) = false := decide_eq_false q4
    have q2n : decide (x.keys.length ≤ t) = false := decide_eq_false (by omega)
    have q4n : decide (y ≤ q) = false := decide_eq_false (by omega)
    have i0 : (0 : Int) ≤ (t : Int) := by omega
    have i1 : (t : Int) < (x.keys.length : Int) := by omega
    go_wp2_with fail
    go_quiet (fail)
    go_wp2_with fail
    go_quiet (fail)
    go_wp2_with fail
    go_simp
    exact ⟨⟨_, _, _, _, ⟨k + 1, by omega, by go_num, by rw [← hX]; exact HB3.out, below_drewN Hb3.out _⟩, rfl, rfl, rfl, rfl⟩, by simp [intOf]; omega⟩
  ·obtain rfl : k = n := by omega
   have Hfin := kp (HQ.out wr hbe)
   go_wp2_with fail
   exact Hfin.out
end Go.Proofs.YthmbgbmcdbdecaaGreat.Tc
