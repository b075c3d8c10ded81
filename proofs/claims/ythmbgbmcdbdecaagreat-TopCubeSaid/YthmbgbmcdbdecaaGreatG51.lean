/- Parts of a proof: A cube built; and the cube of 'plain'. The cube of 'plain' is built. What the facts of a batch say of its cube. -/
import Derived.Test.YthmbgbmcdbdecaaGreatG20
import Derived.Test.YthmbgbmcdbdecaaGreatG35
import Derived.Test.YthmbgbmcdbdecaaGreatG50
namespace Go.Proofs.YthmbgbmcdbdecaaGreat.Tc
open Go.RowKit Base
set_option linter.unusedVariables false
set_option linter.unusedSimpArgs false
def CubeRet (s : Sch) (fs : List Fa) (most : Nat) (w : World) (e : Ending) (w' : World) : Prop :=
 (∃ (ns : List PNode) (ga : Nat) (A An : Option Addr) (c cn : Nat) (ys : List Fa) (nds : List Nd), e = .returned (.tuple #[.pointer (some ⟨ga, 0, none⟩), .int .i64 0]) ∧ cubeV s fs most = some ns ∧ CubeAt s fs ns most ga A An c cn ys nds w' ∧ Below w.heap.size w w') ∨
 (cubeV s fs most = none ∧ e = .returned (.tuple #[.pointer none, .int .i64 7]) ∧ Below w.heap.size w w')
theorem cube_any (s : Sch) (most : Nat) (Af : Option Addr) (cf : Nat) (fs : List Fa) (w : World) (h : SchAt w w.heap.size s) (hf : FasAt w w.heap.size Af fs) (hs : SchOk s) (hok : FactsOk s fs) (hm : most ≤ 20000) :
 Calls Tryz.prog 10 #[.agg (schC s), .int .i64 (most : Nat), .slice Af fs.length cf] w (CubeRet s fs most w) := by
 refine (build_any s most Af cf fs w h hf (build_ok hs hok (by omega))).mono ?_
 rintro e w' ⟨h1, h2⟩
 cases hc : cubeV s fs most with
 | none =>
  obtain ⟨he, hb⟩ := h2 hc
  exact .inr ⟨hc, he, hb⟩
 | some ns =>
  obtain ⟨ga, A, An, c, cn, ys, nds, he, hbx, hi, hk, hn, hp, hb, _⟩ := h1 ns hc
  have hmo := cube_most hc
  exact .inl ⟨ns, ga, A, An, c, cn, ys, nds, he, hc, ⟨hs, cube_ok hs hok hc, hbx, hi, hk, hn, hp, by omega⟩, hb⟩
def IngP (w : World) (e : Ending) (w' : World) : Prop := ∃ (A : Option Addr) (c : Nat) (l : List Fa), e = .returned (.tuple #[.slice A l.length c, .int .i64 0]) ∧ l.map pl = plainQ ∧ FasAt w' w'.heap.size A l ∧ Below w.heap.size w w'
theorem plain_ing (B : Nat) (A : Option Addr) (c : Nat) (w : World) (h : SchAt w w.heap.size (plainS B)) (hr : RwsAt w w.heap.size A (plainR B)) :
 Calls Tryz.prog 7 #[.agg (schC (plainS B)), .slice A 3 c] w (IngP w) := by
 refine (ingest_any (plainS B) A (plainR B) c w h hr (plain_batch B) (show (3 : Nat) ≤ 64 by decide)).mono ?_
 rintro e w' ⟨ps, qs, h1, h2, h3, h4, h5⟩
 have hq := plain_sorted h1 h2 h3
 subst hq
 unfold FoldB at h4
 rw [plain_fold] at h4
 obtain ⟨v, l, he, hl, ho, _⟩ := h4
 obtain ⟨A', c', rfl⟩ := ho.form
 exact ⟨A', c', l, he, hl, ho.fas, h5⟩
theorem plain_facts (B : Nat) {l : List Fa} (hl : l.map pl = plainQ) : FactsOk (plainS B) l := by
 have hp : ([([0, 0], agV 3), ([0, 2], agV 5), ([1, 1], agV (-4))] : List (List Nat × Ag)).Perm plainP := List.Perm.cons _ (List.Perm.swap _ _ _)
 refine (ing_ok (plain_batch B) (show (3 : Nat) ≤ 64 by decide) ?_ (plain_rows B) hp ?_ plain_fold hl ?_).1
 ·intro r hr x hx
  unfold fit
  rcases List.mem_cons.1 hr with rfl | hr
  ·rcases List.mem_cons.1 hx with rfl | hx
   ·omega
   ·cases hx
  ·rcases List.mem_cons.1 hr with rfl | hr
   ·rcases List.mem_cons.1 hx with rfl | hx
    ·omega
    ·cases hx
   ·rcases List.mem_cons.1 hr with rfl | hr
    ·rcases List.mem_cons.1 hx with rfl | hx
     ·omega
     ·cases hx
    ·cases hr
 ·unfold SortedP
  refine List.Pairwise.cons (fun x hx => ?_) (List.Pairwise.cons (fun x hx => ?_) (List.Pairwise.cons (fun x hx => by cases hx) List.Pairwise.nil))
  ·rcases List.mem_cons.1 hx with rfl | hx
   ·exact (show cmpN [0, 0] [0, 2] ≤ 0 by decide)
   ·rcases List.mem_cons.1 hx with rfl | hx
    ·exact (show cmpN [0, 0] [1, 1] ≤ 0 by decide)
    ·cases hx
  ·rcases List.mem_cons.1 hx with rfl | hx
   ·exact (show cmpN [0, 2] [1, 1] ≤ 0 by decide)
   ·cases hx
 ·intro x hx
  have hw : ∀ v : Int, -5 ≤ v → v ≤ 5 → WideF (agV v) := fun v h1 h2 => ⟨(show (1 : Int) ≤ 1000000000 by decide), fun i hi => by
   rcases i with _ | _ | _ | i
   ·exact ⟨show -1000000000000 ≤ v by omega, show v ≤ 1000000000000 by omega⟩
   ·exact ⟨show (-1000000000000 : Int) ≤ 0 by decide, show (0 : Int) ≤ 1000000000000 by decide⟩
   ·exact ⟨show (-1000000000000 : Int) ≤ 0 by decide, show (0 : Int) ≤ 1000000000000 by decide⟩
   ·omega⟩
  rcases List.mem_cons.1 hx with rfl | hx
  ·exact hw 3 (by decide) (by decide)
  ·rcases List.mem_cons.1 hx with rfl | hx
   ·exact hw (-4) (by decide) (by decide)
   ·rcases List.mem_cons.1 hx with rfl | hx
    ·exact hw 5 (by decide) (by decide)
    ·cases hx
def CubeP (s : Sch) (fs : List Fa) (w : World) (e : Ending) (w' : World) : Prop := ∃ (ns : List PNode) (ga : Nat) (A An : Option Addr) (c cn : Nat) (ys : List Fa) (nds : List Nd), e = .returned (.tuple #[.pointer (some ⟨ga, 0, none⟩), .int .i64 0]) ∧ CubeAt s fs ns 99 ga A An c cn ys nds w' ∧ Below w.heap.size w w'
theorem plain_build (B : Nat) (Af : Option Addr) (cf : Nat) (l : List Fa) (w : World) (h : SchAt w w.heap.size (plainS B)) (hf : FasAt w w.heap.size Af l) (hl : l.map pl = plainQ) :
 Calls Tryz.prog 10 #[.agg (schC (plainS B)), .int .i64 99, .slice Af l.length cf] w (CubeP (plainS B) l w) := by
 refine (cube_any (plainS B) 99 Af cf l w h hf (plain_sch B) (plain_facts B hl) (by decide)).mono ?_
 rintro e w' (⟨ns, ga, A, An, c, cn, ys, nds, he, hc, hat, hb⟩ | ⟨hc, _⟩)
 ·exact ⟨ns, ga, A, An, c, cn, ys, nds, he, hat, hb⟩
 ·obtain ⟨ns, h1, _⟩ := plain_cube B hl
  rw [hc] at h1
  cases h1
def PointP (w : World) (e : Ending) (w' : World) : Prop := e = .returned (.tuple #[.agg #[.int .i64 2, .int .i64 (-1), .int .i64 (-4), .int .i64 3, .int .i64 0, .int .i64 0, .int .i64 0, .int .i64 0, .int .i64 0, .int .i64 0], .int .i64 0]) ∧ Below w.heap.size w w'
theorem plain_point {B : Nat} {l : List Fa} {ns : List PNode} {ga : Nat} {A An : Option Addr} {c cn : Nat} {ys : List Fa} {nds : List Nd} {w : World} (h : CubeAt (plainS B) l ns 99 ga A An c cn ys nds w) (hl : l.map pl = plainQ) {Ap : Option Addr} {cp : Nat} (hp : Row w w.heap.size Ap [.int .i64 (-1), .int .i64 0, .int .i64 1, .int .i64 0]) :
 Calls Tryz.prog 13 #[.pointer (some ⟨ga, 0, none⟩), .slice Ap 2 cp] w (PointP w) := by
 have hll : l.length = 3 := by have := congrArg List.length hl; rw [List.length_map] at this; exact this
 refine (h.point (way := plainW) (Ap := Ap) (cp := cp) hp rfl (plain_way B)).mono ?_
 rintro e w' ⟨he, hb⟩
 obtain ⟨_, _, h3⟩ := h.ok.way plainW rfl (plain_way B)
 have hpl : pls l = plainQ := hl
 rw [hpl, hll, plain_match, plain_sum] at h3
 obtain ⟨cl, hc, ha⟩ := h3 (by decide)
 rw [hc] at he
 have he' : e = .returned (.tuple #[.agg (agC cl.ag), .int .i64 0]) := he
 rw [ha] at he'
 exact ⟨he', hb⟩
set_option maxRecDepth 100000 in
set_option maxHeartbeats 4000000 in
theorem built_any (w : World) : Calls Tryz.prog 6 #[] w (RetB (fun r => r = true) w) := by
 have HR := kp (fun r w' h hb => RetB.mono (P := fun r => r = true) (w := w) (r := r) (w' := w') h hb)
 have H1 := kp (plain_any w)
 have H2 := kp (fun B A c W h hr => plain_ing B A c W h hr)
 have H3 := kp (fun B Af cf l W h hf hl => plain_build B Af cf l W h hf hl)
 generalize RetB (fun r => r = true) w = Q at *
 obtain ⟨B, hB⟩ : ∃ B, w.heap.size = B := ⟨_, rfl⟩
 go_enter Tryz.func6, Tryz.ntmps6
 go_wp2_with fail
 refine H1.out.mono ?_
 rintro e w1 ⟨rfl, hs1, hr1, hb1⟩
 rw [hB] at hs1 hr1
 have H2s := kp (H2.out B (some ⟨B + 16, 0, none⟩) 3)
 have H3s := kp (H3.out B)
 have H4s := kp (fun l ns ga A An c cn ys nds W (h : CubeAt (plainS B) l ns 99 ga A An c cn ys nds W) => plain_point h)
 rw [hB]
 obtain ⟨s, hs⟩ : ∃ s, plainS B = s := ⟨_, rfl⟩
 obtain ⟨rw', hrw⟩ : ∃ r, plainR B = r := ⟨_, rfl⟩
 rw [hs] at hs1 H2s H3s H4s ⊢
 rw [hrw] at hr1 H2s
 unfold schC at H2s H3s ⊢
 generalize hnd : s.dims.length = nd at *
 generalize hnm : s.meas.length = nm at *
 generalize hsA : s.A = sA at *
 generalize hsc : s.c = sc at *
 generalize hsAm : s.Am = sAm at *
 generalize hscm : s.cm = scm at *
 clear hnd hnm hsA hsc hsAm hscm
 have hb1' := (Below.refl w1.heap.size w1).alloc (Nat.le_refl _) (.cells #[.slice sA nd sc, .slice sAm nm scm] 25)
 have HS1 := kp (Box.new w1 25 #[.slice sA nd sc, .slice sAm nm scm])
 have Hb1 := kp (hb1.trans (hb1'.mono hb1.size))
 have Hs1 := kp ((hs1.below hb1').more hb1'.size)
 have Hr1 := kp ((hr1.below hb1').more hb1'.size)
 generalize hW1 : w1.alloc (.cells #[.slice sA nd sc, .slice sAm nm scm] 25) = W1 at *
 clear hb1' hs1 hr1 hb1
 have HH2 := kp (H2s.out W1 Hs1.out Hr1.out)
 generalize hAr : (some ⟨B + 16, 0, none⟩ : Option Addr) = Ar at *
 clear hAr
 obtain ⟨z0, z1, _, _⟩ := HS1.out.two
 go_wp2_with fail
 refine HH2.out.mono ?_
 clear hW1
 generalize w1.heap.size = g1 at *
 rintro e w2 ⟨A2, c2, l2, rfl, hl2, hf2, hb2⟩
 have Hb2 := kp (Hb1.out.trans (hb2.mono Hb1.out.size))
 have HS2 := kp (HS1.out.under hb2)
 have Hs2 := kp ((Hs1.out.below hb2).more hb2.size)
 have HH3 := kp (H3s.out A2 c2 l2 w2 Hs2.out hf2 hl2)
 have HH4 := kp (H4s.out l2)
 have Hl2 := kp hl2
 generalize hn2 : l2.length = n2 at *
 clear hb2 z0 z1 hf2 hn2 hl2
 obtain ⟨z0, z1, _, _⟩ := HS2.out.two
 go_wp2_with fail
 refine HH3.out.mono ?_
 rintro e w3 ⟨ns, ga, A3, An3, c3, cn3, ys3, nds3, rfl, hat, hb3⟩
 have Hb3 := kp (Hb2.out.trans (hb3.mono Hb2.out.size))
 clear z0 z1
 have hb4 := (Below.refl w3.heap.size w3).alloc (Nat.le_refl _) (.cells #[.int .i64 (-1), .int .i64 0, .int .i64 1, .int .i64 0] 58)
 have HP4 := kp (row_box (Box.new w3 58 #[.int .i64 (-1), .int .i64 0, .int .i64 1, .int .i64 0]))
 have Hat4 := kp (hat.below hb4)
 have Hb4 := kp (Hb3.out.trans (hb4.mono Hb3.out.size))
 clear hb4 hat hb3
 generalize hW4 : w3.alloc (.cells #[.int .i64 (-1), .int .i64 0, .int .i64 1, .int .i64 0] 58) = W4 at *
 have HH5 := kp (HH4.out ns ga A3 An3 c3 cn3 ys3 nds3 W4 Hat4.out Hl2.out (Ap := some ⟨w3.heap.size, 0, none⟩) (cp := 2) HP4.out)
 go_wp2_with fail
 refine HH5.out.mono ?_
 clear hW4
 rintro e w5 ⟨rfl, hb5⟩
 have hb6 := (Below.refl w5.heap.size w5).alloc (Nat.le_refl _) (.cells #[.int .i64 0, .int .i64 0, .int .i64 0, .int .i64 0, .int .i64 0, .int .i64 0, .int .i64 0, .int .i64 0, .int .i64 0, .int .i64 0] 47)
 have HG6 := kp (Box.new w5 47 #[.int .i64 0, .int .i64 0, .int .i64 0, .int .i64 0, .int .i64 0, .int .i64 0, .int .i64 0, .int .i64 0, .int .i64 0, .int .i64 0])
 have Hb6 := kp ((Hb4.out.trans (hb5.mono Hb4.out.size)).trans (hb6.mono (Nat.le_trans Hb4.out.size hb5.size)))
 have Hz6 := kp (Nat.le_trans Hb4.out.size hb5.size)
 clear hb6 hb5
 generalize hW6 : w5.alloc (.cells #[.int .i64 0, .int .i64 0, .int .i64 0, .int .i64 0, .int .i64 0, .int .i64 0, .int .i64 0, .int .i64 0, .int .i64 0, .int .i64 0] 47) = W6 at *
 have HG7 := kp (show Box (setAll W6 w5.heap.size 0 [.int .i64 2, .int .i64 (-1), .int .i64 (-4), .int .i64 3, .int .i64 0, .int .i64 0, .int .i64 0, .int .i64 0, .int .i64 0, .int .i64 0]) w5.heap.size 47 #[.int .i64 2, .int .i64 (-1), .int .i64 (-4), .int .i64 3, .int .i64 0, .int .i64 0, .int .i64 0, .int .i64 0, .int .i64 0, .int .i64 0] from box_setAll0 HG6.out [.int .i64 2, .int .i64 (-1), .int .i64 (-4), .int .i64 3, .int .i64 0, .int .i64 0, .int .i64 0, .int .i64 0, .int .i64 0, .int .i64 0] rfl)
 have Hb7 := kp (below_setAll Hz6.out [.int .i64 2, .int .i64 (-1), .int .i64 (-4), .int .i64 3, .int .i64 0, .int .i64 0, .int .i64 0, .int .i64 0, .int .i64 0, .int .i64 0] W6 0 Hb6.out)
 obtain ⟨⟨u0, u1, u2, u3, u4, u5, u6, u7, u8, u9⟩, ⟨v0, v1, v2, v3, v4, v5, v6, v7, v8, v9⟩⟩ := Box.ten HG6.out
 generalize hW7 : setAll W6 w5.heap.size 0 _ = W7 at *
 simp only [setAll, Nat.zero_add, Nat.reduceAdd] at hW7
 obtain ⟨e0, e1, _⟩ := (Box.ten HG7.out).1
 have Hf := kp (HR.out true W7 rfl Hb7.out)
 go_wp2_with fail
 exact Hf.out
structure TopOk (s : Sch) (l la : List Fa) (way : List Pos) : Prop where
 facts : FactsOk s l
 keys : ∀ f ∈ la, KeyOk s f.keys
 bnd : ∀ f ∈ la, BndA 1 f.ag
 few : la.length ≤ 40
 lt : ∀ i ∈ matchTo s (pls la) way la.length, i < la.length
 fewm : (matchTo s (pls la) way la.length).length ≤ 40
 wok : WayOk s way
 no : ∀ ns, CubeOk s l ns → matchTo s (pls la) way la.length = [] → pointV ns way = none ∧ (sumP (pls la) (matchTo s (pls la) way la.length)).getD agZero = agZero
 yes : ∀ ns, CubeOk s l ns → matchTo s (pls la) way la.length ≠ [] → ∃ c, pointV ns way = some c ∧ c.ag = (sumP (pls la) (matchTo s (pls la) way la.length)).getD agZero
theorem pls_len (l : List Fa) : (pls l).length = l.length := by unfold pls; rw [List.length_map]
theorem way_ok {s : Sch} {way : List Pos} (hlen : way.length = s.dims.length) (h : WayTo s way) : WayOk s way := ⟨hlen, fun d hd hp => by
 rcases h d _ _ (List.getElem?_eq_getElem hd) (List.getElem?_eq_getElem hp) with ⟨e, _⟩ | ⟨t, q, ht, e, _, _⟩
 ·exact .inl (by rw [e]; decide)
 ·exact .inr ⟨t, e, ht⟩⟩
theorem top_ok {s : Sch} {rows : List Rw} {ps qs r : List (List Nat × Ag)} {l la : List Fa} {way : List Pos} (ho : BatchOk s rows) (hn : rows.length ≤ 40) (hfit : ∀ r ∈ rows, ∀ x ∈ r.vals, fit x) (hr : RowsTo s rows ps) (hp : qs.Perm ps) (hs : SortedP qs) (hf : foldP [] qs = some r) (hl : l.map pl = r)
 (hfa : FactsTo s rows rows.length la) (hw : ∀ f ∈ la, WideF f.ag) (hlen : way.length = s.dims.length) (hway : WayTo s way) : TopOk s l la way := by
 have hall : RowsTo s rows (pls la) := ⟨la, hfa, rfl⟩
 have hps := rows_unique ho.sch hr hall
 subst hps
 have hw' : ∀ x ∈ pls la, WideF x.2 := fun x hx => by
  unfold pls at hx
  obtain ⟨f, hf, rfl⟩ := List.mem_map.1 hx
  exact hw f hf
 obtain ⟨h1, h2, h3⟩ := ing_ok ho (by omega) hfit hr hp hs hf hl hw'
 obtain ⟨g1, g2⟩ := rows_good ho hfit hr hw'
 have hgd : ∀ f ∈ la, KeyOk s f.keys ∧ BndA 1 f.ag := fun f hf => by
  obtain ⟨a, b⟩ := g2 (f.keys, f.ag) (by unfold pls; exact List.mem_map.2 ⟨f, hf, rfl⟩)
  exact ⟨a, b.1⟩
 have hfl : la.length ≤ 40 := by rw [← pls_len]; omega
 have hml : (matchTo s (pls la) way la.length).length ≤ la.length := by
  unfold matchTo
  refine Nat.le_trans (List.length_filter_le _ _) ?_
  rw [List.length_range]
  exact Nat.le_refl _
 have hsum : sumP (pls l) (matchTo s (pls l) way l.length) = sumP (pls la) (matchTo s (pls la) way la.length) := by
  have a := match_sum s (pls l) way
  have b := match_sum s (pls la) way
  rw [pls_len] at a b
  rw [a, b, h2]
 have hany : matchTo s (pls l) way l.length ≠ [] ↔ matchTo s (pls la) way la.length ≠ [] := by
  have a := match_any s (pls l) way
  have b := match_any s (pls la) way
  rw [pls_len] at a b
  rw [a, b]
  constructor
  ·rintro ⟨x, hx, hk⟩
   obtain ⟨y, hy, e⟩ := (h3 x.1).1 ⟨x, hx, rfl⟩
   exact ⟨y, hy, by rw [e]; exact hk⟩
  ·rintro ⟨x, hx, hk⟩
   obtain ⟨y, hy, e⟩ := (h3 x.1).2 ⟨x, hx, rfl⟩
   exact ⟨y, hy, by rw [e]; exact hk⟩
 refine ⟨h1, fun f hf => (hgd f hf).1, fun f hf => (hgd f hf).2, hfl, fun i hi => ?_, by omega, way_ok hlen hway, fun ns hc hm => ?_, fun ns hc hm => ?_⟩
 ·unfold matchTo at hi
  exact List.mem_range.1 (List.mem_filter.1 hi).1
 ·obtain ⟨_, c1, _⟩ := hc.way way hlen hway
  refine ⟨c1 ?_, by rw [hm]; rfl⟩
  rcases hx : matchTo s (pls l) way l.length with _ | ⟨x, xs⟩
  ·rfl
  ·exact absurd hm (hany.1 (by rw [hx]; intro h; cases h))
 ·obtain ⟨_, _, c2⟩ := hc.way way hlen hway
  obtain ⟨c, hc1, hc2⟩ := c2 (hany.2 hm)
  exact ⟨c, hc1, by rw [hc2, hsum]⟩
end Go.Proofs.YthmbgbmcdbdecaaGreat.Tc
