/- Parts of a proof: Layer 26: the function of a dimension. Layer 26: the functions of all dimensions. -/
import Derived.Test.YthmbgbmcdbdecaaGreatG05
import Derived.Test.YthmbgbmcdbdecaaGreatG33
namespace Go.Proofs.YthmbgbmcdbdecaaGreat.Tc
open Go.RowKit Base Go.Maps Go.WideMaps
set_option linter.unusedVariables false
set_option linter.unusedSimpArgs false
set_option maxRecDepth 100000 in
set_option maxHeartbeats 8000000 in
theorem node_any (b : Bc) (hb : b.Ok) (at_ : Nat) (hat : at_ < b.X.length) (f : Option Rec) (hc : CellSpec b at_ f) (hnx : NextOk b.ps b.lifts b.X.length at_ f) (hdp : NextDeep at_ f) : NodeSpec b at_ (nodeV b.ps b.lifts b.most f at_) := by
 intro F An cn nds st err Ap cp part w hs
 obtain ⟨i0, ti0, tz0, tz1, tz2⟩ := info_parts info_cell
 obtain ⟨j0, si0, sz0, sz1, sz2⟩ := info_parts info_cells
 have hpl := part_len hb hs.pt
 have hX16 := hb.cfg.n16
 have hnps := hb.cfg.nps
 have HQs := kp (show ∀ w', Below w.heap.size w w' → (findP at_ part st.parts).isSome = true ∨ err = 7 → NodeRet b (nodeV b.ps b.lifts b.most f at_) F err st part w (.returned (.int .i64 (((findP at_ part st.parts).getD 0 : Nat) : Int))) w' from fun w' h1 h2 =>
  ⟨(findP at_ part st.parts).getD 0, An, cn, nds, st, err, rfl, ((Mid.start hs.dy).below h1).did (fun k hk => hk) hs.dy.line, fun he r hr => by
   rcases h2 with h2 | h2
   ·obtain ⟨i, hi⟩ := Option.isSome_iff_exists.1 h2
    rw [node_some hi] at hr
    injection hr with hr
    subst hr
    exact ⟨he, rfl, by rw [hi]; rfl⟩
   ·omega, fun he hr => by
   rcases h2 with h2 | h2
   ·obtain ⟨i, hi⟩ := Option.isSome_iff_exists.1 h2
    rw [node_some hi] at hr
    cases hr
   ·omega, fun h => h, hs.er⟩)
 have HQd := kp (show ∀ (i : Nat) (An' : Option Addr) (cn' : Nat) (nds' : List Nd) (st' : St) (err' : Nat) (F' : Nat → Prop) w', Mid b F w w' F' An' cn' nds' st' err' → (∀ k, F k → F' k) → err = 0 → 
  (err' = 0 → nodeV b.ps b.lifts b.most f at_ part st = some (st', i)) → (err' = 7 → nodeV b.ps b.lifts b.most f at_ part st = none) → (err' = 0 ∨ err' = 7) → NodeRet b (nodeV b.ps b.lifts b.most f at_) F err st part w (.returned (.int .i64 (i : Nat))) w' from fun i An' cn' nds' st' err' F' w' h1 h2 h3 h4 h5 h6 =>
  ⟨i, An', cn', nds', st', err', rfl, h1.did h2 hs.dy.line, fun he r hr => by
   rcases h6 with h6 | h6
   ·have := h4 h6
    rw [hr] at this
    injection this with this
    subst this
    exact ⟨h6, rfl, rfl⟩
   ·have := h5 h6
    rw [hr] at this
    (cases this), fun he hr => by
   rcases h6 with h6 | h6
   ·have := h4 h6
    rw [hr] at this
    (cases this)
   ·exact h6, fun he => by omega, h6⟩)
 have HN := kp (name_any Ap cp at_ part w hs.row (by omega) (by omega) (fun i hi => by have := hs.pt.lt i hi; omega))
 have Hs := kp hs
 have hpB : ∀ i ∈ part, i < 65536 := fun i hi => by have := hs.pt.lt i hi; omega
 have Hnm := kp (show NmOk (at_, part) from ⟨by dsimp only; omega, hpB⟩)
 have Hline := kp hs.dy.line
 have her := hs.er
 generalize hQ : NodeRet b (nodeV b.ps b.lifts b.most f at_) F err st part w = Q at *
 clear hQ hs hpB
 obtain ⟨z, hz⟩ : ∃ z : ByteArray, (⟨(nameL at_ part).toArray⟩ : ByteArray) = z := ⟨_, rfl⟩
 have Hz := kp (show z.data.toList = nameL at_ part by rw [← hz])
 have hzl : z.size ≤ maxLen := by
  have : z.size = (nameL at_ part).length := by rw [← hz]; exact List.size_toArray ..
  rw [this, nameL_len]
  unfold maxLen
  omega
 have Hkey := kp (show keyOf Tryz.prog 9 (.string z) = some (.string z.data.toList) from keyOf_string_mk Tryz.underlying9 hzl)
 rw [hz] at HN
 clear hzl hz
 obtain ⟨n, hN⟩ : ∃ n, part.length = n := ⟨_, rfl⟩
 have Hn := kp hN
 rw [hN] at HN hpl ⊢
 clear hN
 go_enter Tryz.func31, Tryz.ntmps31
 go_wp2_with fail
 refine HN.out.mono ?_
 rintro e w1 ⟨rfl, hb1⟩
 have Hb1 := kp hb1
 have Hs1 := kp (Hs.out.below hb1)
 clear hb1 HN
 obtain ⟨x1, x3, x4⟩ : w1.cell? ⟨b.gb, 1, none⟩ = some (.slice b.Al b.rs.length b.cl) ∧ w1.cell? ⟨b.gb, 3, none⟩ = some (.map (some b.gm)) ∧ w1.cell? ⟨b.gb, 4, none⟩ = some (.int .i64 (err : Nat)) := ⟨Hs1.out.dy.bbox.cell 1, Hs1.out.dy.bbox.cell 3, Hs1.out.dy.bbox.cell 4⟩
 obtain ⟨D, hown, hat2⟩ := Hs1.out.dy.met
 have Hat2 := kp hat2
 have Hfa := kp (hat2.at_ _ Hnm.out)
 have Hfh := kp (hat2.has _ Hnm.out)
 rw [show (at_, part).1 = at_ from rfl, show (at_, part).2 = part from rfl] at Hfa Hfh
 unfold nmK at Hfa Hfh
 rw [← Hz.out] at Hfa Hfh
 have Hq := kp (show ∀ c : Int, D.atKey (.string z.data.toList) (.lit (.int .i64 0)) = .lit (.int .i64 c) → c = (((findP at_ part st.parts).getD 0 : Nat) : Int) from fun c h => by
  have h2 := Hfa.out
  rw [h] at h2
  injection h2 with h2
  injection h2 with h2)
 generalize hfp : findP at_ part st.parts = fp at *
 have Hfp := kp hfp
 clear hfp hat2
 by_cases hfs : fp.isSome = true
 ·have Hfin := kp (HQs.out w1 Hb1.out (.inl hfs))
  have Hhas := kp (Hfh.out.trans hfs)
  go_wp2_with (at_lookup; refine wpList_lookup_own_ok_int _ rfl (.tmp 24) (.tmp 25) 90 rfl 9 3 .i64 strLaw Tryz.underlying90 Tryz.underlying3 (zeroInt _) b.gm st.parts.length D rfl hown (.string z) (.string z.data.toList) rfl Hkey.out ?_; intro q hat1 hwq; obtain rfl := Hq.out q hat1; rw [Hhas.out]; clear hat1 hwq)
  exact Hfin.out
 ·have hfs' : fp.isSome = false := by simpa using hfs
  have Hhas := kp (Hfh.out.trans hfs')
  rcases her with rfl | rfl
  case inr =>
   have Hfin := kp (HQs.out w1 Hb1.out (.inr rfl))
   go_wp2_with (at_lookup; refine wpList_lookup_own_ok_int _ rfl (.tmp 24) (.tmp 25) 90 rfl 9 3 .i64 strLaw Tryz.underlying90 Tryz.underlying3 (zeroInt _) b.gm st.parts.length D rfl hown (.string z) (.string z.data.toList) rfl Hkey.out ?_; intro q hat1 hwq; obtain rfl := Hq.out q hat1; rw [Hhas.out]; clear hat1 hwq)
   exact Hfin.out
  case inl =>
   obtain rfl : fp = none := by simpa using hfs
   have hb2 := (Below.refl w1.heap.size w1).alloc (Nat.le_refl _) (.cells #[.int .i64 0, .slice none 0 0, .int .i64 0, .int .i64 0, .int .i64 0, .int .i64 0, .int .i64 0, .int .i64 0, .int .i64 0, .int .i64 0, .int .i64 0, .int .i64 0, .int .i64 0, .int .i64 0] 108)
   have HBz := kp (Box.new w1 108 #[.int .i64 0, .slice none 0 0, .int .i64 0, .int .i64 0, .int .i64 0, .int .i64 0, .int .i64 0, .int .i64 0, .int .i64 0, .int .i64 0, .int .i64 0, .int .i64 0, .int .i64 0, .int .i64 0])
   generalize hW2 : w1.alloc (.cells #[.int .i64 0, .slice none 0 0, .int .i64 0, .int .i64 0, .int .i64 0, .int .i64 0, .int .i64 0, .int .i64 0, .int .i64 0, .int .i64 0, .int .i64 0, .int .i64 0, .int .i64 0, .int .i64 0] 108) = W2 at *
   obtain ⟨⟨r0, r1, r2, r3, r4, r5, r6, r7, r8, r9, r10, r11, r12, r13⟩, ⟨f0, f1, f2, f3, f4, f5, f6, f7, f8, f9, f10, f11, f12, f13⟩⟩ := Box.fourteen HBz.out
   obtain ⟨W3, hW3⟩ : ∃ W3, setAll W2 w1.heap.size 0 [.int .i64 (at_ : Nat), .slice none 0 0, .int .i64 0, .int .i64 0, .int .i64 0, .int .i64 0, .int .i64 0, .int .i64 0, .int .i64 0, .int .i64 0, .int .i64 0, .int .i64 0, .int .i64 0, .int .i64 0] = W3 := ⟨_, rfl⟩
   have HBn := kp (show Box W3 w1.heap.size 108 #[.int .i64 (at_ : Nat), .slice none 0 0, .int .i64 0, .int .i64 0, .int .i64 0, .int .i64 0, .int .i64 0, .int .i64 0, .int .i64 0, .int .i64 0, .int .i64 0, .int .i64 0, .int .i64 0, .int .i64 0] by rw [← hW3]; exact box_setAll0 HBz.out _ rfl)
   have Hb3 := kp (show Below w1.heap.size w1 W3 by rw [← hW3]; exact below_setAll (Nat.le_refl _) _ _ _ hb2)
   simp only [setAll, Nat.zero_add, Nat.reduceAdd] at hW3
   have Hs3 := kp (Hs1.out.below Hb3.out)
   clear hb2 HBz
   go_upto_region 6 with (at_lookup; refine wpList_lookup_own_ok_int _ rfl (.tmp 24) (.tmp 25) 90 rfl 9 3 .i64 strLaw Tryz.underlying90 Tryz.underlying3 (zeroInt _) b.gm st.parts.length D rfl hown (.string z) (.string z.data.toList) rfl Hkey.out ?_; intro q hat1 hwq; obtain rfl := Hq.out q hat1; rw [Hhas.out]; clear hat1 hwq)
   clear x1 x3 x4 r0 r1 r2 r3 r4 r5 r6 r7 r8 r9 r10 r11 r12 r13 f0 f1 f2 f3 f4 f5 f6 f7 f8 f9 f10 f11 f12 f13 hW3 hW2 hown Hfa Hfh Hq HQs hfs hfs' Hhas Hat2
   obtain ⟨ls0, x0, hl0, hx0⟩ := hb.cfg.dim hat
   obtain ⟨r, hr, rfl⟩ := lifts_get hl0
   have Hl0 := kp (show (b.lifts[at_]?).getD [] = r.fs.map Fa.keys by rw [hl0]; rfl)
   have Hr := kp hr
   have hrl := (List.getElem?_eq_some_iff.1 hr).1
   have hrl16 := rs_len hb
   have ht := hb.cfg.tiers at_ _ _ hl0 hx0
   have hm4 : r.fs.length ≤ 4 := by rw [List.length_map] at ht; omega
   have Hx0 := kp hx0
   have Hl1 := kp hl0
   have Hro3 := kp Hs3.out.ro
   obtain ⟨bl, ol, hA, hbl, l0⟩ := Row.at_ (Hro3.out.lifts.row) (k := at_) (by rw [List.length_map]; exact hrl)
   rw [List.getElem_map, (List.getElem?_eq_some_iff.1 hr).2] at l0
   unfold runV at l0
   have x1 : W3.cell? ⟨b.gb, 1, none⟩ = some (.slice b.Al b.rs.length b.cl) := Hs3.out.dy.bbox.cell 1
   rw [hA] at x1
   have a0 : (0 : Int) ≤ (at_ : Int) := by omega
   have a1 : (at_ : Int) < (b.rs.length : Int) := by omega
   obtain ⟨gN, hgN⟩ : ∃ gN, w1.heap.size = gN := ⟨_, rfl⟩
   have Hgw := kp (show w.heap.size ≤ gN by rw [← hgN]; exact Hb1.out.size)
   have Hm3 := kp ((Mid.start Hs.out.dy).below (Hb1.out.trans (Hb3.out.mono Hb1.out.size)))
   have HgF := kp (show ¬ F gN from fun h => by have := Hs.out.dy.flt _ h; have := Hgw.out; omega)
   rw [hgN] at HBn ⊢
   clear hrl hrl16 ht hx0 hl0 hr
   go_wp2_with fail
   clear x1 l0 a0 a1
   obtain ⟨m, hM⟩ : ∃ m, r.fs.length = m := ⟨_, rfl⟩
   have HM := kp hM
   rw [hM] at hm4 ⊢
   clear hM hA hbl
   have HL := kp (show (r.fs.map Fa.keys).length = m by rw [List.length_map]; exact HM.out)
   obtain ⟨tot2, hT2⟩ : ∃ t, listsV b.ps f at_ part (r.fs.map Fa.keys) (st, []) = t := ⟨_, rfl⟩
   have HT2 := kp hT2
   clear hT2
   go_loopw [48] (fun v48 wr => ∃ k, k ≤ m ∧ v48 = .int .i64 (k : Nat) ∧ LoopI b f at_ part F w gN (r.fs.map Fa.keys) tot2 k wr) (fun v48 _ => m - (intOf v48).toNat)
   case atStart =>
    exact ⟨0, Nat.zero_le _, rfl, F, An, cn, nds, st, 0, none, 0, [], Hm3.out, fun _ h => h, HBn.out, HgF.out, ⟨LlsOwn.nil _ _, (fun k hk => by cases hk), (fun x hx => by cases hx)⟩, rfl, .inl rfl, fun _ => Hs.out.good rfl, fun _ => HT2.out, fun h => by omega⟩
   case round =>
    obtain ⟨k, hk, rfl, F1, An1, cn1, nds1, st1, err1, A1, c1, ls1, hm, hFF, hbx, hgF, hls, hll, he1, hgood, h0, h7⟩ := hrel
    have Hm := kp hm
    have HFF := kp hFF
    have Hbx := kp hbx
    have HgF1 := kp hgF
    have Hls := kp hls
    have Hll := kp hll
    have He1 := kp he1
    have Hgood := kp hgood
    have H0 := kp h0
    have H7 := kp h7
    clear hm hFF hbx hgF hls hll he1 hgood h0 h7
    by_cases hlt : k < m
    ·have hkf : k < r.fs.length := by rw [HM.out]; exact hlt
     have Hf := kp (List.getElem?_eq_getElem hkf)
     have hro := Hs.out.ro.turn Hm.out.turn Hline.out Hs.out.dy.fF
     have hrow := Hm.out.row Hs.out.row Hs.out.off
     have HG := kp (groups_any b.gb b.Af b.Al Ap b.fs b.cf b.cl cp b.rs _ _ _ at_ k r (r.fs[k]'hkf) part (keyL b.ps (r.fs[k]'hkf).keys at_) wr Hm.out.dy.bbox (keyAt_of hb hro Hm.out.dy.line Hr.out Hf.out Hs.out.pt) hrow.1 Hs.out.pt.ne (by rw [Hn.out]; omega))
     have HLk := kp (show (r.fs.map Fa.keys)[k]? = some (r.fs[k]'hkf).keys by rw [List.getElem?_map, Hf.out]; rfl)
     generalize (r.fs[k]'hkf) = lf at *
     rw [Hn.out] at HG
     clear hro hrow
     go_wp2_with fail
     refine HG.out.mono ?_
     rintro e w3 ⟨Ag, cg, gs, rfl, hgp, hgo, hge, hb3⟩
     have Hgp := kp hgp
     have Hm3' := kp (Hm.out.below hb3)
     have Hgr := kp (row_ownK hgo)
     have hgF : ∀ k, wr.heap.size ≤ k → ¬ F1 k := fun k hk hf => by have := Hm.out.dy.flt k hf; omega
     have Hgoff := kp (show ∀ k, Foot Ag (gs.flatMap grV) k → ¬ F1 k from fun k hk => by
      obtain ⟨hne, off, e⟩ := hk
      exact hgF k (From.own hgo (Nat.le_refl _) k off e hne))
     have Hgeach := kp (show ∀ g ∈ gs, Row w3 w3.heap.size g.A (natV g.part) ∧ ∀ k, Foot g.A (natV g.part) k → ¬ F1 k from fun g hg => ⟨(hge g hg).1, fun k hk => by
      obtain ⟨hne, off, e⟩ := hk
      exact hgF k ((hge g hg).2 k off e hne)⟩)
     have Hls3 := kp (Hls.out.below hb3)
     have Hbx3 := kp (Hbx.out.under hb3)
     have Hwr3 := kp hb3.size
     have Hlsw := kp (show ∀ j, (Value.slice A1 k c1).ownBlock = some j → j < w3.heap.size from fun j hj => Nat.lt_of_lt_of_le (Hls.out.own.1.lt j hj).2 hb3.size)
     obtain ⟨q, hq⟩ : ∃ q, gs.length = q := ⟨_, rfl⟩
     have Hq := kp hq
     have hq200 : q ≤ 200 := by
      have := groups_200 (keyL b.ps lf.keys at_) part
      rw [← Hgp.out, List.length_map, hq] at this
      exact this
     obtain ⟨tot, hT⟩ : ∃ t, (if err1 = 0 then rowV b.ps f (groupsP (keyL b.ps lf.keys at_) part) (st1, []) else none) = t := ⟨_, rfl⟩
     have HT := kp hT
     obtain ⟨GS, hGS⟩ : ∃ G, groupsP (keyL b.ps lf.keys at_) part = G := ⟨_, rfl⟩
     have HGS := kp hGS
     rw [hq]
     clear hq hT hGS hgp hgo hge hb3 hgF HG Hls Hbx
     go_wp2_with fail
     go_loopw [12, 57] (fun v12 v57 w4 => ∃ (j : Nat) (A' : Option Addr) (c' : Nat), j ≤ q ∧ v57 = .int .i64 (j : Nat) ∧ v12 = .slice A' j c' ∧ LoopJ b f F1 w3 (groupsP (keyL b.ps lf.keys at_) part) tot j A' c' w4) (fun _ v57 _ => q - (intOf v57).toNat)
     case atStart =>
      exact ⟨0, none, 0, Nat.zero_le _, rfl, rfl, F1, An1, cn1, nds1, st1, err1, [], Mid.start Hm3'.out.dy, fun _ h => h, CsLoc.nil _ _ _, rfl, He1.out, Hgood.out, fun h => by rw [← HT.out, if_pos h]; rfl, fun h => by rw [← HT.out, if_neg (by omega)]⟩
     case round =>
      obtain ⟨j, A2, c2, hj, rfl, rfl, F2, An2, cn2, nds2, st2, err2, cs, hm2, hFF2, hcs, hcl, he2, hgood2, h02, h72⟩ := hrel
      have Hm2 := kp hm2
      have HFF2 := kp hFF2
      have Hcs := kp hcs
      have Hcl := kp hcl
      have He2 := kp he2
      have Hgood2 := kp hgood2
      have H02 := kp h02
      have H72 := kp h72
      clear hm2 hFF2 hcs hcl he2 hgood2 h02 h72
      by_cases hjl : j < q
      ·have hjg : j < gs.length := by rw [Hq.out]; exact hjl
       have hrg := (Hm2.out.row Hgr.out Hgoff.out).1
       obtain ⟨bg, og, hAg, hbg, y0, y1⟩ := grs_at hrg j hjg
       have hgj := Hgeach.out _ (List.getElem_mem hjg)
       have hgr4 := Hm2.out.row hgj.1 hgj.2
       have hGj : (groupsP (keyL b.ps lf.keys at_) part)[j]? = some ((gs[j]'hjg).key, (gs[j]'hjg).part) := by rw [← Hgp.out, List.getElem?_map, List.getElem?_eq_getElem hjg]; rfl
       have HGj := kp hGj
       have hpg : PtOk b.ps (gs[j]'hjg).part := Hs.out.pt.group (List.mem_of_getElem? hGj)
       have hro := Hs.out.ro.turn (Hm3'.out.trans Hm2.out).turn Hline.out Hs.out.dy.fF
       have hst := Mid.start_ (Mid.start Hm2.out.dy) hro Hm2.out.dy.line Hm2.out.dy.fF hgr4.1 hgr4.2 hpg He2.out Hgood2.out
       generalize (gs[j]'hjg).key = gk at *
       generalize (gs[j]'hjg).A = gA at *
       generalize (gs[j]'hjg).part = gp at *
       generalize (gs[j]'hjg).c = gc at *
       have Hba := kp ((Below.refl wr.heap.size wr).alloc (Nat.le_refl _) (.cells #[.int .i64 (gk : Nat), .slice gA gp.length gc] 146))
       have HBg := kp (Box.new wr 146 #[.int .i64 (gk : Nat), .slice gA gp.length gc])
       have HC := kp (hc F2 An2 cn2 nds2 st2 err2 gA gc gk gp _ (hst.below Hba.out))
       have i1 : (0 : Int) ≤ (j : Int) := by omega
       have i2 : (j : Int) < (q : Int) := by omega
       rw [hAg]
       clear hrg hgj hgr4 hGj hpg hro hst
       go_upto_region 13 with fail
       clear y0 y1
       generalize hW5 : wr.alloc (.cells #[.int .i64 (gk : Nat), .slice gA gp.length gc] 146) = W5 at *
       clear hW5
       obtain ⟨y0, y1, _, _⟩ := HBg.out.two
       go_wp2_with fail
       refine HC.out.mono ?_
       rintro e w5 ⟨cx, An5, cn5, nds5, st5, err5, rfl, hd5, k1, k2, k3, k4⟩
       have hm5 := (Hm2.out.below Hba.out).trans hd5.mid
       have hcs5 := Hcs.out.below Hba.out
       have hcs5 := CsLoc.mid (hd5.mid.trans (Mid.start hd5.dy)) hcs5
       have Hm5 := kp hm5
       have Hcs5 := kp hcs5
       have Hstep := kp (row_step (cs := cs) HGj.out H02.out H72.out He2.out k1 k2 k3)
       have Hgo5 := kp (show err5 = 0 → Good b.ps b.lifts b.X.length st5 from fun h => by
        obtain ⟨e1, e2, _⟩ := Hstep.out.1 h
        exact (cellV_ok hnx e2 (Hgood2.out e1) (Hs.out.pt.group (List.mem_of_getElem? HGj.out))).1)
       have He5 := kp k4
       have HFF5 := kp (show ∀ i, F1 i → more F2 W5 w5 i from fun i hi => .inl (HFF2.out i hi))
       have Hown5 := kp (show w5.ownsRow w3.heap.size 106 12 (.slice A2 j c2) j (cs.flatMap clV) by have := Hcs5.out.own; rw [Hcl.out] at this; exact this)
       have Hs5 := kp (show w3.heap.size ≤ w5.heap.size from Hm5.out.turn.size)
       have hk1 : j + 1 < 1048576 * 64 := by omega
       clear hm5 hcs5 hd5 k1 k2 k3 k4 y0 y1 HC
       go_wp2_with (at_builtin; refine wpList_appK rfl (.tmp 61) (.tmp 69) 142 rfl w3.heap.size 106 i0 _ 12 96 Tryz.underlying142 ti0 tz0 tz1 tz2 rfl (by decide) w5 (clC cx) rfl (cl_one cx) (.slice A2 j c2) j (cs.flatMap clV) rfl Hown5.out rfl hk1 (by decide) Hs5.out ?_; intro v6 w6 hown6 happ6; obtain ⟨A6, c6, h6⟩ := own_formK hown6; subst h6; have Hown6 := kp hown6; have Hap6 := kp happ6; clear hown6 happ6)
       exact ⟨⟨j + 1, A6, c6, by omega, by go_num, rfl, more F2 W5 w5, An5, cn5, nds5, st5, err5, cs ++ [cx], Hm5.out.app Hap6.out (fun i hi => ⟨(Hown5.out.lt i hi).1, Hcs5.out.off i hi⟩), HFF5.out, CsLoc.app Hcs5.out Hown6.out Hap6.out Hcl.out Hm5.out.dy.flt, by rw [List.length_append, Hcl.out]; rfl, He5.out, Hgo5.out, fun h => (Hstep.out.1 h).2.2, Hstep.out.2⟩, by simp [intOf]; omega⟩
      ·obtain rfl : j = q := by omega
       have Hdn := kp (show ∀ (s : St) (c : List Cl), rowV b.ps f ((groupsP (keyL b.ps lf.keys at_) part).drop j) (s, c) = rowV b.ps f [] (s, c) from fun s c => by
        have : (groupsP (keyL b.ps lf.keys at_) part).length ≤ j := by rw [← Hgp.out, List.length_map, Hq.out]; exact Nat.le_refl _
        rw [List.drop_of_length_le this])
       have Hst := kp (lists_step (cs := cs) HLk.out H0.out H7.out He1.out (fun h => by rw [← Hdn.out, H02.out h]; exact HT.out.symm) (fun h => HT.out.trans (H72.out h)))
       have Hls4 := kp (LsLoc.mid Hm2.out Hls3.out)
       have HBx4 := kp (Hm2.out.box Hbx3.out HgF1.out)
       have Hm4 := kp (Hm3'.out.trans Hm2.out)
       have hgl : gN < wr.heap.size := HBx4.out.1.lt
       have HgB3 := kp (show gN + 1 ≤ w3.heap.size from Hbx3.out.lt)
       have Hown4 := kp (show wr.ownsRow (gN + 1) 142 1 (.slice A1 k c1) k (ls1.map llV) by have := Hls4.out.own.1; rw [Hll.out] at this; exact this)
       have Hs4 := kp (show gN + 1 ≤ wr.heap.size from hgl)
       have hk1 : k < 1048576 * 64 := by omega
       have n1 : wr.cell? ⟨gN, 1, none⟩ = some (.slice A1 k c1) := HBx4.out.1.cell 1
       have HgA := kp (show (Value.slice A1 k c1).ownBlock ≠ some gN from fun h => by have := (Hown4.out.lt gN h).1; omega)
       go_wp2_with (at_builtin; refine wpList_append1 rfl (.tmp 73) (.tmp 75) 104 rfl (gN + 1) 142 j0 (.slice none 0 0) 24 Tryz.underlying104 si0 sz0 sz1 sz2 rfl wr (.slice A2 j c2) rfl (.slice A1 k c1) k (ls1.map llV) rfl Hown4.out rfl hk1 (by decide) Hs4.out ?_; intro v6 w6 hown6 happ6; obtain ⟨A6, c6, h6⟩ := own_form hown6; subst h6; have Hown6 := kp hown6; have Hap6 := kp happ6; have HB6 := kp (show Box w6 gN 108 _ from (happ6.farK hgl HgA.out).trans HBx4.out.1); obtain ⟨g1, g2⟩ : w6.cell? ⟨gN, 1, none⟩ = some (.slice A1 k c1) ∧ w6.frozen? ⟨gN, 1, none⟩ = false := ⟨HB6.out.cell 1, HB6.out.free 1⟩; clear hown6 happ6 n1)
       have Hll6 := kp (show llV ⟨A2, cs, c2⟩ = .slice A2 j c2 by unfold llV; rw [Hcl.out])
       have Hcs6 := kp (show CsLoc wr F2 w3.heap.size (.slice A2 cs.length c2) cs by rw [Hcl.out]; exact Hcs.out)
       have Hls6 := kp (LsLoc.app (l := ⟨A2, cs, c2⟩) Hls4.out Hcs6.out HgB3.out Hlsw.out (by rw [Hll6.out]; exact Hown6.out) Hap6.out Hll.out Hm4.out.dy.flt)
       have Hm6 := kp ((Hm4.out.app Hap6.out (fun i hi => ⟨Nat.le_trans Hgw.out (Nat.le_of_succ_le (Hown4.out.lt i hi).1), Hls4.out.off i hi⟩)).set (o := 1) Hgw.out HBx4.out.2 (.slice A6 (k + 1) c6))
       exact ⟨⟨k + 1, by omega, by go_num, F2, An2, cn2, nds2, st2, err2, A6, c6, ls1 ++ [⟨A2, cs, c2⟩], Hm6.out, fun i hi => HFF2.out i (HFF.out i hi), HB6.out.set 1 _, HBx4.out.2, Hls6.out.far (Nat.lt_succ_self _) _, by rw [List.length_append, Hll.out]; rfl, He2.out, Hgood2.out, fun h => by rw [List.map_append]; exact Hst.out.1 h, Hst.out.2⟩, by simp [intOf]; omega⟩
    ·obtain rfl : k = m := by omega
     have Hdn := kp (show ∀ (s : St) (l : List (List Cl)), listsV b.ps f at_ part ((r.fs.map Fa.keys).drop k) (s, l) = some (s, l) from fun s l => by
      rw [List.drop_of_length_le (by rw [HL.out]; exact Nat.le_refl _)]
      rfl)
     have hrow := Hm.out.row Hs.out.row Hs.out.off
     have HC := kp (show Calls Tryz.prog 66 #[.pointer (some ⟨b.gb, 0, none⟩), .int .i64 (at_ : Nat), .int .i64 0, .slice Ap part.length cp] wr (CellRet b f F1 err1 0 st1 part wr) from
      hc F1 An1 cn1 nds1 st1 err1 Ap cp 0 part wr (Mid.start_ Hm.out Hs.out.ro Hline.out Hs.out.dy.fF hrow.1 hrow.2 Hs.out.pt He1.out Hgood.out))
     rw [Hn.out] at HC
     clear hrow
     go_wp2_with fail
     refine HC.out.mono ?_
     rintro e w5 ⟨cx, An5, cn5, nds5, st5, err5, rfl, hd5, k1, k2, k3, k4⟩
     have Hm5 := kp (Hm.out.trans hd5.mid)
     have HB5 := kp (hd5.mid.box Hbx.out HgF1.out)
     have Hls5 := kp (LsLoc.mid hd5.mid Hls.out)
     have HF5 := kp (show ∀ i, F i → more F1 wr w5 i from fun i hi => .inl (HFF.out i hi))
     generalize more F1 wr w5 = F5 at *
     have K1 := kp k1
     have K2 := kp k2
     have K3 := kp k3
     have K4 := kp k4
     clear hd5 k1 k2 k3 k4 HC
     obtain ⟨⟨_, _, r2, r3, r4, r5, r6, r7, r8, r9, r10, r11, r12, r13⟩, ⟨_, _, f2, f3, f4, f5, f6, f7, f8, f9, f10, f11, f12, f13⟩⟩ := Box.fourteen HB5.out.1
     obtain ⟨W6, hW6⟩ : ∃ W6, setAll w5 gN 2 [.int .i64 (cx.key : Nat), .int .i64 (cx.child : Nat), .int .i64 cx.ag.c, .int .i64 cx.ag.s0, .int .i64 cx.ag.n0, .int .i64 cx.ag.x0, .int .i64 cx.ag.s1, .int .i64 cx.ag.n1, .int .i64 cx.ag.x1, .int .i64 cx.ag.s2, .int .i64 cx.ag.n2, .int .i64 cx.ag.x2] = W6 := ⟨_, rfl⟩
     have HB6 := kp (show Box W6 gN 108 #[.int .i64 (at_ : Nat), .slice A1 k c1, .int .i64 (cx.key : Nat), .int .i64 (cx.child : Nat), .int .i64 cx.ag.c, .int .i64 cx.ag.s0, .int .i64 cx.ag.n0, .int .i64 cx.ag.x0, .int .i64 cx.ag.s1, .int .i64 cx.ag.n1, .int .i64 cx.ag.x1, .int .i64 cx.ag.s2, .int .i64 cx.ag.n2, .int .i64 cx.ag.x2] by rw [← hW6]; exact box_setAll [.int .i64 (cx.key : Nat), .int .i64 (cx.child : Nat), .int .i64 cx.ag.c, .int .i64 cx.ag.s0, .int .i64 cx.ag.n0, .int .i64 cx.ag.x0, .int .i64 cx.ag.s1, .int .i64 cx.ag.n1, .int .i64 cx.ag.x1, .int .i64 cx.ag.s2, .int .i64 cx.ag.n2, .int .i64 cx.ag.x2] w5 [.int .i64 (at_ : Nat), .slice A1 k c1] [.int .i64 0, .int .i64 0, .int .i64 0, .int .i64 0, .int .i64 0, .int .i64 0, .int .i64 0, .int .i64 0, .int .i64 0, .int .i64 0, .int .i64 0, .int .i64 0] HB5.out.1 rfl)
     have Hm6 := kp (show Mid b F w W6 F5 An5 cn5 nds5 st5 err5 by rw [← hW6]; exact Hm5.out.setAll Hgw.out HB5.out.2 _ _)
     have Hls6 := kp (show LsLoc W6 F5 (gN + 1) (.slice A1 k c1) ls1 by rw [← hW6]; exact LsLoc.farAll (Nat.lt_succ_self _) _ _ _ Hls5.out)
     simp only [setAll, Nat.reduceAdd] at hW6
     have x4 : W6.cell? ⟨b.gb, 4, none⟩ = some (.int .i64 (err5 : Nat)) := Hm6.out.dy.bbox.cell 4
     have HB52 := kp HB5.out.2
     have Hlt := kp (show err5 = 0 → err1 = 0 ∧ cellV b.ps f 0 part st1 = some (st5, cx) from fun h => by
      rcases He1.out with h1 | h1
      ·rcases hcv : cellV b.ps f 0 part st1 with _ | q
       ·have := K2.out h1 hcv; omega
       ·obtain ⟨_, e2, e3⟩ := K1.out h1 q hcv
        exact ⟨h1, by rw [e2, e3]⟩
      ·have := K3.out h1; omega)
     have Hno := kp (show err5 = 7 → nodeV b.ps b.lifts b.most f at_ part st = none from fun h => by
      rw [node_none Hfp.out, Hl0.out, HT2.out]
      rcases He1.out with h1 | h1
      ·rw [← H0.out h1, Hdn.out, Option.bind_some]
       rcases hcv : cellV b.ps f 0 part st1 with _ | q
       ·rfl
       ·have := (K1.out h1 q hcv).1; omega
      ·rw [H7.out h1]; rfl)
     clear HB5 Hls5 Hm5 Hm Hls Hbx
     rcases K4.out with he5 | he5
     case inr =>
      subst he5
      have Hfin := kp (HQd.out 0 An5 cn5 nds5 st5 7 F5 W6 Hm6.out HF5.out (by trivial) (fun h => by omega) (fun h => Hno.out rfl) (.inr rfl))
      go_wp2_with fail
      exact Hfin.out
     case inl =>
      subst he5
      obtain ⟨e1, hcv⟩ := Hlt.out rfl
      have hlists : listsV b.ps f at_ part (r.fs.map Fa.keys) (st, []) = some (st1, ls1.map Ll.cs) := HT2.out.trans ((H0.out e1).symm.trans (Hdn.out _ _))
      obtain ⟨hg1, hx1, hr1⟩ := listsV_ok hnx Hs.out.pt _ [] _ _ hlists (Hs.out.good rfl) (RepL.nil _)
      obtain ⟨hg5, hx5, hr5⟩ := cellV_ok hnx hcv hg1 Hs.out.pt
      have Hg5 := kp hg5
      have Hr1 := kp (RepLs.ext hr1 hx5)
      have Hr5 := kp hr5
      have Hfd := kp (find_deep Hfp.out ((listsV_deep hdp _ _ _ hlists).trans (cellV_deep hdp hcv)))
      have Hnv := kp (show nodeV b.ps b.lifts b.most f at_ part st = if st5.nodes.length < b.most then some (⟨st5.nodes ++ [⟨at_, ls1.map Ll.cs, cx⟩], st5.parts ++ [(at_, part)]⟩, st5.nodes.length) else none by
       rw [node_none Hfp.out, Hl0.out, hlists, Option.bind_some, hcv, Option.bind_some])
      have HA := kp (fun W (hW : Below W6.heap.size W6 W) => add_call (A1 := A1) (c1 := c1) (ls := ls1) hb (Hm6.out.below hW).dy (Hs.out.ro.turn (Hm6.out.below hW).turn Hline.out Hs.out.dy.fF) hat ⟨((Hls6.out.below hW).own.at_).1, ((Hls6.out.below hW).own.at_).2⟩ Hg5.out Hs.out.pt Hl1.out Hr1.out Hr5.out)
      have Hpn := kp (show plN ⟨at_, A1, ls1, c1, cx⟩ = ⟨at_, ls1.map Ll.cs, cx⟩ from rfl)
      generalize plN ⟨at_, A1, ls1, c1, cx⟩ = pn at *
      dsimp only [ndC] at HA
      rw [Hll.out] at HA
      have Hnl := kp (show nds5.length = st5.nodes.length by rw [← Hm6.out.dy.plain, List.length_map])
      have Hnp := kp (show nds5.length = st5.parts.length by rw [Hm6.out.dy.len]; exact Hnl.out)
      have hnmax : nds5.length ≤ 1000000 := Nat.le_trans Hm6.out.dy.most hb.most
      have Hkeep := kp (show ∀ W w7, Below W6.heap.size W6 W → Turn (fun i => i = b.ga ∨ isRow (.slice An5 nds5.length cn5) i) W w7 → w7.heap[b.gb]? = W6.heap[b.gb]? ∧ w7.heap[gN]? = W6.heap[gN]? ∧ w7.heap[b.gm]? = W6.heap[b.gm]? from fun W w7 hW hT => by
       have hd := Hm6.out.dy
       have hh : ∀ i, i < W6.heap.size → i ≠ b.ga → ¬ isRow (.slice An5 nds5.length cn5) i → w7.heap[i]? = W6.heap[i]? := fun i hi h1 h2 => (hT.block i (Nat.lt_of_lt_of_le hi hW.size) (fun e => e.elim h1 h2)).trans (hW.block i hi)
       have hr : ∀ i, isRow (.slice An5 nds5.length cn5) i → b.B ≤ i := fun i hi => (hd.nodes.1.lt i hi).1
       refine ⟨hh _ hd.bbox.lt hb.ba (fun h => by have := hr _ h; have := hb.bB; omega), hh _ HB6.out.lt (fun e => HB52.out (e ▸ hd.fo _ (.inr (.inl rfl)))) (fun h => HB52.out (hd.frow _ h)), hh _ hd.met.lt (fun e => hb.am e.symm) (fun h => by have := hr _ h; have := hb.mB; omega)⟩)
      have HF0 := kp (Hs.out.dy.fo _ (.inl rfl))
      clear hlists hg1 hx1 hr1 hg5 hx5 hr5 hcv e1
      go_upto_region 20 with fail
      clear x4 r2 r3 r4 r5 r6 r7 r8 r9 r10 r11 r12 r13 f2 f3 f4 f5 f6 f7 f8 f9 f10 f11 f12 f13 hW6
      have x2 : W6.cell? ⟨b.gb, 2, none⟩ = some (.pointer (some ⟨b.ga, 0, none⟩)) := Hm6.out.dy.bbox.cell 2
      obtain ⟨nn0, nn1, nn2, nn3, nn4, nn5, nn6, nn7, nn8, nn9, nn10, nn11, nn12, nn13⟩ := (Box.fourteen HB6.out).1
      by_cases hfull : nds5.length < b.most
      ·skip
       refine wp_region_noPanic ?_
       refine wp_region_T (t := 99) (S := (fun w' => (w'.cell? ⟨b.gb, 2, none⟩ = some (.pointer (some ⟨b.ga, 0, none⟩))) ∧ (w'.cell? ⟨gN, 0, none⟩ = some (.int .i64 (at_ : Nat)) ∧ w'.cell? ⟨gN, 1, none⟩ = some (.slice A1 k c1) ∧ w'.cell? ⟨gN, 2, none⟩ = some (.int .i64 (cx.key : Nat)) ∧ w'.cell? ⟨gN, 3, none⟩ = some (.int .i64 (cx.child : Nat)) ∧ w'.cell? ⟨gN, 4, none⟩ = some (.int .i64 cx.ag.c) ∧ w'.cell? ⟨gN, 5, none⟩ = some (.int .i64 cx.ag.s0) ∧ w'.cell? ⟨gN, 6, none⟩ = some (.int .i64 cx.ag.n0) ∧ w'.cell? ⟨gN, 7, none⟩ = some (.int .i64 cx.ag.x0) ∧ w'.cell? ⟨gN, 8, none⟩ = some (.int .i64 cx.ag.s1) ∧ w'.cell? ⟨gN, 9, none⟩ = some (.int .i64 cx.ag.n1) ∧ w'.cell? ⟨gN, 10, none⟩ = some (.int .i64 cx.ag.x1) ∧ w'.cell? ⟨gN, 11, none⟩ = some (.int .i64 cx.ag.s2) ∧ w'.cell? ⟨gN, 12, none⟩ = some (.int .i64 cx.ag.n2) ∧ w'.cell? ⟨gN, 13, none⟩ = some (.int .i64 cx.ag.x2)))) (by kernel_rfl) ⟨x2, nn0, nn1, nn2, nn3, nn4, nn5, nn6, nn7, nn8, nn9, nn10, nn11, nn12, nn13⟩ (fun hHeld => ?_)
       refine tk 0 hHeld ?_
       refine tk 1 hHeld ?_
       refine tk 2 hHeld ?_
       refine tk 3 hHeld ?_
       refine tk 4 hHeld ?_
       refine wpAnyT_one (i := 5) (o := ?op5) (by kernel_rfl) ?ap5 (by decide) (fun K hK => ?bp5)
       case ap5 => (simp only [List.getElem?_toArray, List.getElem?_cons_succ, List.getElem?_cons_zero]; exact rfl)
       go_simp
       refine (HA.out W6.drew (Below.refl _ _).drew).mono ?_
       rintro e w7 ⟨hyes, _⟩
       obtain ⟨An7, cn7, n7, rfl, hpn, hown7, hbox7, hlies7, hfr7, ht7⟩ := hyes hfull
       have Hk7 := kp (Hkeep.out _ _ (Below.refl _ _).drew ht7)
       have Hpn7 := kp hpn
       have Hown7 := kp hown7
       have Hbox7 := kp hbox7
       have Hlies7 := kp hlies7
       have Hfr7 := kp hfr7
       have Ht7 := kp ht7
       clear hyes hpn hown7 hbox7 hlies7 hfr7 ht7
       refine hK.out _ _ ?_ (fun hHeld2 => ?_)
       ·exact ⟨(World.cell?_of_block (a := ⟨b.gb, 2, none⟩) Hk7.out.1).trans x2, keep14 Hk7.out.2.1 ⟨nn0, nn1, nn2, nn3, nn4, nn5, nn6, nn7, nn8, nn9, nn10, nn11, nn12, nn13⟩⟩
       clear hK K hHeld
       have hHeld := hHeld2
       clear hHeld2
       try simp only [Act.put, List.setIfInBounds_toArray, List.set_cons_zero, List.set_cons_succ]
       refine tk 6 hHeld ?_
       refine tk 7 hHeld ?_
       refine tk 8 hHeld ?_
       refine tk 9 hHeld ?_
       refine tk 10 hHeld ?_
       refine wpAnyT_done (by kernel_rfl) ?_ _
       try clear hHeld
       refine NoPanic.normal ?_
       clear x2 nn0 nn1 nn2 nn3 nn4 nn5 nn6 nn7 nn8 nn9 nn10 nn11 nn12 nn13 HA
       have HB7 := kp (show Box w7 b.gb 92 _ from Hk7.out.1.trans Hm6.out.dy.bbox)
       have x3 : w7.cell? ⟨b.gb, 3, none⟩ = some (.map (some b.gm)) := HB7.out.cell 3
       obtain ⟨D7, hown7m, hat7⟩ := Hm6.out.dy.met.same Hk7.out.2.2
       have Hat7 := kp hat7
       have Hlm := kp (show st5.parts.length < maxLen by rw [← Hnp.out]; unfold maxLen; omega)
       have Hwf := kp (show (Lit.int .i64 ((nds5.length : Nat) : Int)).wf = true from WalkArith.wf_i64 (by omega))
       have Hadd := kp (fun w8 hg hmet => (Hm6.out.below (Below.refl _ _).drew).added (p := (at_, part)) hb Hpn7.out Hown7.out Hbox7.out Hlies7.out Hfr7.out Ht7.out hfull (w8 := w8) hg hmet)
       clear hat7
       go_wp2_with (at_mapUpdate; refine wpList_mapUpdate_own _ rfl (.tmp 107) (.tmp 108) (.tmp 109) 90 rfl 9 3 strLaw Tryz.underlying90 (plainElem Tryz.prog 3) b.gm st5.parts.length D7 rfl hown7m Hlm.out (.string z) (.int .i64 ((nds5.length : Nat) : Int)) (.string z.data.toList) rfl rfl Hkey.out _ [] (plainElem_int Tryz.underlying3 Hwf.out) ?_; intro w8 hown8 hgr8; have Hown8 := kp hown8; have Hgr8 := kp hgr8; clear hown8 hgr8 x3 hown7m)
       have Hmet8 := kp (show MetP w8 b.gm (st5.parts ++ [(at_, part)]) from ⟨_, by rw [List.length_append]; exact Hown8.out, by
        rw [Hz.out, Hnp.out]
        exact Hat7.out.put Hnm.out Hfd.out⟩)
       exact HQd.out nds5.length An7 cn7 _ _ 0 _ w8 (Hadd.out w8 Hgr8.out Hmet8.out) (fun i hi => .inl (HF5.out i hi)) (by trivial) (fun _ => by rw [Hnv.out, if_pos (by rw [← Hnl.out]; exact hfull), Hpn.out, Hnl.out]) (fun h => by omega) (.inl rfl)
      ·skip
       refine wp_region_noPanic ?_
       refine wp_region_T (t := 99) (S := (fun w' => (w'.cell? ⟨b.gb, 2, none⟩ = some (.pointer (some ⟨b.ga, 0, none⟩))) ∧ (w'.cell? ⟨gN, 0, none⟩ = some (.int .i64 (at_ : Nat)) ∧ w'.cell? ⟨gN, 1, none⟩ = some (.slice A1 k c1) ∧ w'.cell? ⟨gN, 2, none⟩ = some (.int .i64 (cx.key : Nat)) ∧ w'.cell? ⟨gN, 3, none⟩ = some (.int .i64 (cx.child : Nat)) ∧ w'.cell? ⟨gN, 4, none⟩ = some (.int .i64 cx.ag.c) ∧ w'.cell? ⟨gN, 5, none⟩ = some (.int .i64 cx.ag.s0) ∧ w'.cell? ⟨gN, 6, none⟩ = some (.int .i64 cx.ag.n0) ∧ w'.cell? ⟨gN, 7, none⟩ = some (.int .i64 cx.ag.x0) ∧ w'.cell? ⟨gN, 8, none⟩ = some (.int .i64 cx.ag.s1) ∧ w'.cell? ⟨gN, 9, none⟩ = some (.int .i64 cx.ag.n1) ∧ w'.cell? ⟨gN, 10, none⟩ = some (.int .i64 cx.ag.x1) ∧ w'.cell? ⟨gN, 11, none⟩ = some (.int .i64 cx.ag.s2) ∧ w'.cell? ⟨gN, 12, none⟩ = some (.int .i64 cx.ag.n2) ∧ w'.cell? ⟨gN, 13, none⟩ = some (.int .i64 cx.ag.x2)))) (by kernel_rfl) ⟨x2, nn0, nn1, nn2, nn3, nn4, nn5, nn6, nn7, nn8, nn9, nn10, nn11, nn12, nn13⟩ (fun hHeld => ?_)
       refine tk 0 hHeld ?_
       refine tk 1 hHeld ?_
       refine tk 2 hHeld ?_
       refine tk 3 hHeld ?_
       refine tk 4 hHeld ?_
       refine wpAnyT_one (i := 5) (o := ?oq5) (by kernel_rfl) ?aq5 (by decide) (fun K hK => ?bq5)
       case aq5 => (simp only [List.getElem?_toArray, List.getElem?_cons_succ, List.getElem?_cons_zero]; exact rfl)
       go_simp
       refine (HA.out W6.drew (Below.refl _ _).drew).mono ?_
       rintro e w7 ⟨_, hno⟩
       obtain ⟨rfl, hb7⟩ := hno hfull
       have Hb7 := kp (show Below W6.heap.size W6 w7 from (Below.refl _ _).drew.trans hb7)
       clear hno hb7
       refine hK.out _ _ ?_ (fun hHeld2 => ?_)
       ·exact ⟨cell_keep Hb7.out x2, keep14 (Hb7.out.block _ HB6.out.lt) ⟨nn0, nn1, nn2, nn3, nn4, nn5, nn6, nn7, nn8, nn9, nn10, nn11, nn12, nn13⟩⟩
       clear hK K hHeld
       have hHeld := hHeld2
       clear hHeld2
       try simp only [Act.put, List.setIfInBounds_toArray, List.set_cons_zero, List.set_cons_succ]
       refine tk 6 hHeld ?_
       refine tk 7 hHeld ?_
       refine tk 8 hHeld ?_
       refine tk 9 hHeld ?_
       refine tk 10 hHeld ?_
       refine wpAnyT_done (by kernel_rfl) ?_ _
       try clear hHeld
       refine NoPanic.normal ?_
       clear x2 nn0 nn1 nn2 nn3 nn4 nn5 nn6 nn7 nn8 nn9 nn10 nn11 nn12 nn13 HA
       have Hm7 := kp (Hm6.out.below Hb7.out)
       obtain ⟨g4, g5⟩ : w7.cell? ⟨b.gb, 4, none⟩ = some (.int .i64 ((0 : Nat) : Int)) ∧ w7.frozen? ⟨b.gb, 4, none⟩ = false := ⟨Hm7.out.dy.bbox.cell 4, Hm7.out.dy.bbox.free 4⟩
       have Hfin := kp (HQd.out 0 An5 cn5 nds5 st5 7 F5 _ (Hm7.out.fail hb HF0.out) HF5.out (by trivial) (fun h => by omega) (fun _ => by rw [Hnv.out, if_neg (by rw [← Hnl.out]; exact hfull)]) (.inr rfl))
       go_wp2_with fail
       exact Hfin.out
end Go.Proofs.YthmbgbmcdbdecaaGreat.Tc
namespace Go.Proofs.YthmbgbmcdbdecaaGreat.Tc
open Go.RowKit Base
theorem visit_any (b : Bc) (hb : b.Ok) : ∀ (d : Nat), d < b.X.length → NodeSpec b (b.X.length - 1 - d) (visit b.ps b.lifts b.most b.X.length d)
 | 0, h => node_any b hb _ (by omega) none (cell_last b hb _ (by omega)) (show b.X.length - 1 - 0 + 1 = b.X.length by omega) trivial
 | d + 1, h => by
  have e : b.X.length - 1 - (d + 1) + 1 = b.X.length - 1 - d := by omega
  have ih := visit_any b hb d (by omega)
  refine node_any b hb _ (by omega) (some (visit b.ps b.lifts b.most b.X.length d)) (cell_inner b hb _ (by omega) _ (by rw [e]; exact ih)) ⟨by omega, ?_⟩ ?_
  ·rw [e]
   exact visit_ok (by omega)
  ·unfold NextDeep
   dsimp only
   rw [e]
   exact visit_deep (by omega)
end Go.Proofs.YthmbgbmcdbdecaaGreat.Tc
