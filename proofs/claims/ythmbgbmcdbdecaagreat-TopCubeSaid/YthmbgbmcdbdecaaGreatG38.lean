/- Parts of a proof: Layer 28: a point of a cube. Layer 30: sums of a census. Layer 30: how large the trees under an arena's nodes are. Layer 30: census.Trees, walked. -/
import Derived.Test.YthmbgbmcdbdecaaGreatG31
import Derived.Test.YthmbgbmcdbdecaaGreatG36
import Derived.Test.YthmbgbmcdbdecaaGreatG37
import Derived.Laws.IdiomStrings
namespace Go.Proofs.YthmbgbmcdbdecaaGreat.Tc
open Go.RowKit Base
set_option linter.unusedVariables false
set_option linter.unusedSimpArgs false
section
theorem shape_m (A : Option Addr) (n c m : Nat) (w : World) : (Instr.field 83 (.agg #[.slice A n c, .int .i64 (m : Nat)]) 1).run Tryz.prog w = .ok (.int .i64 (m : Nat)) w := by
 simp [Instr.field, asAgg, go_sem]
attribute [local go_sem] shape_m
def pointV (nodes : List PNode) (ps : List Pos) : Option Cl := if nodes = [] then none else alongV nodes ps (nodes.length - 1) clZero
def PointRet (o : Option Cl) (w : World) (e : Ending) (w' : World) : Prop := e = .returned (.tuple #[.agg (agC ((o.getD clZero).ag)), .int .i64 (if o.isSome then 0 else 10)]) ∧ Below w.heap.size w w'
set_option maxRecDepth 100000 in
set_option maxHeartbeats 8000000 in
theorem point_any (ga : Nat) (As An Ap : Option Addr) (cs m cn cp most : Nat) (xs : List Fa) (nds : List Nd) (ps : List Pos) (w : World) (hbx : Box w ga 138 (arC As xs.length cs m An nds.length cn most)) (hx : IlsAt w w.heap.size As xs) (h : NdsAt w w.heap.size An nds)
 (hn1 : 1 ≤ xs.length) (hn16 : xs.length ≤ 16) (hm1 : 1 ≤ m) (hm : m ≤ 3) (hnn : nds.length ≤ 1000000) (hsm : ∀ n ∈ nds, NdSm n) (hsz : ∀ x ∈ xs, x.keys.length ≤ 1000)
 (hp : Row w w.heap.size Ap (ps.flatMap posV)) (hps : ps.length = xs.length) (hpo : ∀ (k : Nat) (l : List Nat) (p : Pos), (xs.map Fa.keys)[k]? = some l → ps[k]? = some p → PosOk l p) (hok : nds ≠ [] → WalkOk (nds.map plN) ps 0 (nds.length - 1)) :
 Calls Tryz.prog 13 #[.pointer (some ⟨ga, 0, none⟩), .slice Ap ps.length cp] w (PointRet (pointV (nds.map plN) ps) w) := by
 have HQ := kp (show ∀ w', Below w.heap.size w w' → PointRet (pointV (nds.map plN) ps) w (.returned (.tuple #[.agg (agC (((pointV (nds.map plN) ps).getD clZero).ag)), .int .i64 (if (pointV (nds.map plN) ps).isSome then 0 else 10)])) w' from fun w' h => ⟨rfl, h⟩)
 have hb1 := (Below.refl w.heap.size w).alloc (Nat.le_refl _) (.cells #[.int .i64 0, .int .i64 0, .int .i64 0, .int .i64 0, .int .i64 0, .int .i64 0, .int .i64 0, .int .i64 0, .int .i64 0, .int .i64 0] 47)
 have HR1 := kp (Box.new w 47 #[.int .i64 0, .int .i64 0, .int .i64 0, .int .i64 0, .int .i64 0, .int .i64 0, .int .i64 0, .int .i64 0, .int .i64 0, .int .i64 0])
 have HSh := kp (fun W hW => ashape_any ga As An cs m nds.length cn most xs W (hbx.under hW) ((hx.below hW).more hW.size) hn1 hn16 (fun x hx' => by have := hsz x hx'; omega))
 have HTp := kp (fun W hW => top_any ga As An xs.length cs m nds.length cn most W (hbx.under hW) hn1 hnn)
 have HAl := kp (fun (hne : nds ≠ []) W hW => along_any ga As An Ap xs.length cs m cn cp most nds (nds.length - 1) ps W (hbx.under hW) ((h.below hW).more hW.size) hn1 hnn hsm ((hp.below hW).more hW.size) (by omega) (hok hne))
 have HCk := kp (fun A c ys W (hy : IlsAt W W.heap.size A ys) (hyk : ys.map Fa.keys = xs.map Fa.keys) hW => lcheck_any A Ap c cp m ys ps W hy ((hp.below hW).more hW.size) (by rw [hps]; have := congrArg List.length hyk; rw [List.length_map, List.length_map] at this; exact this.symm) (by have := congrArg List.length hyk; rw [List.length_map, List.length_map] at this; omega)
  (fun y hy' => by
    have h1 : y.keys ∈ xs.map Fa.keys := by rw [← hyk]; exact List.mem_map_of_mem hy'
    obtain ⟨x, hx', e⟩ := List.mem_map.1 h1
    rw [← e]
    exact hsz x hx') (fun k h1 h2 => hpo k _ _ (by rw [← hyk, List.getElem?_map, List.getElem?_eq_getElem h1]; rfl) (List.getElem?_eq_getElem h2)))
 have Hb1 := kp hb1
 generalize hQ : PointRet (pointV (nds.map plN) ps) w = Q at *
 clear hQ hbx hx h hp hpo hok hsm hsz hb1 hps
 have q1 : ((m : Int) == 0) = false := by simp; omega
 generalize hW1 : w.alloc (.cells #[.int .i64 0, .int .i64 0, .int .i64 0, .int .i64 0, .int .i64 0, .int .i64 0, .int .i64 0, .int .i64 0, .int .i64 0, .int .i64 0] 47) = W1 at *
 have HS1 := kp (HSh.out W1 Hb1.out)
 go_enter Tryz.func13, Tryz.ntmps13
 go_wp2_with fail
 refine HS1.out.mono ?_
 rintro e w2 ⟨A2, c2, y2, rfl, _, _, hb2⟩
 clear hW1
 have HR2 := kp (HR1.out.under hb2)
 have Hb2 := kp (Hb1.out.trans (hb2.mono Hb1.out.size))
 have HS2 := kp (HSh.out w2 Hb2.out)
 clear hb2
 go_wp2_with fail
 refine HS2.out.mono ?_
 rintro e w3 ⟨A3, c3, y3, rfl, hy3, hk3, hb3⟩
 have HR3 := kp (HR2.out.under hb3)
 have Hb3 := kp (Hb2.out.trans (hb3.mono Hb2.out.size))
 have HC3 := kp (HCk.out A3 c3 y3 w3 hy3.at_ hk3 Hb3.out)
 clear hb3 hy3 hk3
 go_wp2_with fail
 refine HC3.out.mono ?_
 rintro e w4 ⟨rfl, hb4⟩
 have HR4 := kp (HR3.out.under hb4)
 have Hb4 := kp (Hb3.out.trans (hb4.mono Hb3.out.size))
 have HT4 := kp (HTp.out w4 Hb4.out)
 clear hb4
 go_wp2_with fail
 refine HT4.out.mono ?_
 rintro e w5 ⟨rfl, rfl⟩
 by_cases hne : nds = []
 ·have hn0 : nds.length = 0 := by rw [hne]; rfl
  have q2 : ((nds.length : Int) - 1 < 0) := by omega
  have q2d : decide ((nds.length : Int) - 1 < 0) = true := decide_eq_true q2
  obtain ⟨⟨u0, u1, u2, u3, u4, u5, u6, u7, u8, u9⟩, ⟨v0, v1, v2, v3, v4, v5, v6, v7, v8, v9⟩⟩ := Box.ten HR4.out
  have HB8 := kp (show Box (setAll w5 w.heap.size 0 [.int .i64 0, .int .i64 0, .int .i64 0, .int .i64 0, .int .i64 0, .int .i64 0, .int .i64 0, .int .i64 0, .int .i64 0, .int .i64 0]) w.heap.size 47 #[.int .i64 0, .int .i64 0, .int .i64 0, .int .i64 0, .int .i64 0, .int .i64 0, .int .i64 0, .int .i64 0, .int .i64 0, .int .i64 0] from box_setAll0 HR4.out [.int .i64 0, .int .i64 0, .int .i64 0, .int .i64 0, .int .i64 0, .int .i64 0, .int .i64 0, .int .i64 0, .int .i64 0, .int .i64 0] rfl)
  have Hfin := kp (show Q (.returned (.tuple #[.agg #[.int .i64 0, .int .i64 0, .int .i64 0, .int .i64 0, .int .i64 0, .int .i64 0, .int .i64 0, .int .i64 0, .int .i64 0, .int .i64 0], .int .i64 10])) (setAll w5 w.heap.size 0 [.int .i64 0, .int .i64 0, .int .i64 0, .int .i64 0, .int .i64 0, .int .i64 0, .int .i64 0, .int .i64 0, .int .i64 0, .int .i64 0]) by
   have := HQ.out _ (below_setAll (Nat.le_refl _) [.int .i64 0, .int .i64 0, .int .i64 0, .int .i64 0, .int .i64 0, .int .i64 0, .int .i64 0, .int .i64 0, .int .i64 0, .int .i64 0] w5 0 Hb4.out)
   have hpv : pointV (nds.map plN) ps = none := by unfold pointV; rw [if_pos (by rw [hne]; rfl)]
   rw [hpv] at this
   exact this)
  generalize hW8 : setAll w5 w.heap.size 0 _ = W8 at *
  simp only [setAll, Nat.zero_add, Nat.reduceAdd] at hW8
  obtain ⟨t0, t1, t2, t3, t4, t5, t6, t7, t8, t9⟩ := (Box.ten HB8.out).1
  clear HR1 HR2 HR3 HR4 HB8 HQ
  go_wp2_with fail
  refine bodyPost_ret (v := .tuple #[.agg #[.int .i64 0, .int .i64 0, .int .i64 0, .int .i64 0, .int .i64 0, .int .i64 0, .int .i64 0, .int .i64 0, .int .i64 0, .int .i64 0], .int .i64 10]) ?_ rfl Hfin.out
  simp [results, Tryz.results13, go_sem, t0, t1, t2, t3, t4, t5, t6, t7, t8, t9]
 ·have hpos : 0 < nds.length := List.length_pos_iff.2 hne
  have q2 : ¬ ((nds.length : Int) - 1 < 0) := by omega
  have q2d : decide ((nds.length : Int) - 1 < 0) = false := decide_eq_false q2
  have ecast : ((nds.length - 1 : Nat) : Int) = (nds.length : Int) - 1 := by omega
  have HA5 := kp (HAl.out hne w5 Hb4.out)
  rw [ecast] at HA5
  have Hpv := kp (show pointV (nds.map plN) ps = alongV (nds.map plN) ps (nds.length - 1) clZero by
   unfold pointV
   rw [if_neg (fun e => hne (List.map_eq_nil_iff.1 e)), List.length_map])
  rw [← Hpv.out] at HA5
  generalize pointV (nds.map plN) ps = O at *
  have HT5 := kp (HTp.out w5 Hb4.out)
  go_wp2_with fail
  refine HT5.out.mono ?_
  rintro e w6 ⟨rfl, rfl⟩
  go_wp2_with fail
  refine HA5.out.mono ?_
  rintro e w7 ⟨⟨ks, rfl⟩, hb7⟩
  have HR7 := kp (HR4.out.under hb7)
  have Hb7 := kp (Hb4.out.trans (hb7.mono Hb4.out.size))
  have hg7 : w.heap.size < w7.heap.size := HR7.out.lt
  clear hb7
  have hb8 := (Below.refl w7.heap.size w7).alloc (Nat.le_refl _) (.cells #[.int .i64 0, .int .i64 0, .int .i64 0, .int .i64 0, .int .i64 0, .int .i64 0, .int .i64 0, .int .i64 0, .int .i64 0, .int .i64 0] 47)
  have HZ := kp (Box.new w7 47 #[.int .i64 0, .int .i64 0, .int .i64 0, .int .i64 0, .int .i64 0, .int .i64 0, .int .i64 0, .int .i64 0, .int .i64 0, .int .i64 0])
  generalize hbo : (if O.isSome = true then (0 : Int) else 10) = er at *
  generalize (O.getD clZero).ag = qq at *
  obtain ⟨qa, s0q, n0q, x0q, s1q, n1q, x1q, s2q, n2q, x2q⟩ := qq
  dsimp only [agC] at HQ ⊢
  have Hb9 := kp (below_setAll (Nat.le_refl _) [.int .i64 qa, .int .i64 s0q, .int .i64 n0q, .int .i64 x0q, .int .i64 s1q, .int .i64 n1q, .int .i64 x1q, .int .i64 s2q, .int .i64 n2q, .int .i64 x2q] _ 0 hb8)
  have HB9 := kp (show Box (setAll (w7.alloc (.cells #[.int .i64 0, .int .i64 0, .int .i64 0, .int .i64 0, .int .i64 0, .int .i64 0, .int .i64 0, .int .i64 0, .int .i64 0, .int .i64 0] 47)) w7.heap.size 0 [.int .i64 qa, .int .i64 s0q, .int .i64 n0q, .int .i64 x0q, .int .i64 s1q, .int .i64 n1q, .int .i64 x1q, .int .i64 s2q, .int .i64 n2q, .int .i64 x2q]) w7.heap.size 47 #[.int .i64 qa, .int .i64 s0q, .int .i64 n0q, .int .i64 x0q, .int .i64 s1q, .int .i64 n1q, .int .i64 x1q, .int .i64 s2q, .int .i64 n2q, .int .i64 x2q] from box_setAll0 HZ.out [.int .i64 qa, .int .i64 s0q, .int .i64 n0q, .int .i64 x0q, .int .i64 s1q, .int .i64 n1q, .int .i64 x1q, .int .i64 s2q, .int .i64 n2q, .int .i64 x2q] rfl)
  have HR9 := kp (HR7.out.under Hb9.out)
  have Hw9 := kp (Hb7.out.trans (Hb9.out.mono Hb7.out.size))
  obtain ⟨⟨r0, r1, r2, r3, r4, r5, r6, r7, r8, r9⟩, ⟨f0, f1, f2, f3, f4, f5, f6, f7, f8, f9⟩⟩ := Box.ten HZ.out
  generalize hW8 : w7.alloc (.cells #[.int .i64 0, .int .i64 0, .int .i64 0, .int .i64 0, .int .i64 0, .int .i64 0, .int .i64 0, .int .i64 0, .int .i64 0, .int .i64 0] 47) = W8 at *
  generalize hW9 : setAll W8 w7.heap.size 0 _ = W9 at *
  simp only [setAll, Nat.zero_add, Nat.reduceAdd] at hW9
  obtain ⟨⟨u0, u1, u2, u3, u4, u5, u6, u7, u8, u9⟩, ⟨v0, v1, v2, v3, v4, v5, v6, v7, v8, v9⟩⟩ := Box.ten HR9.out
  obtain ⟨z0, z1, z2, z3, z4, z5, z6, z7, z8, z9⟩ := (Box.ten HB9.out).1
  have HB10 := kp (show Box (setAll W9 w.heap.size 0 [.int .i64 qa, .int .i64 s0q, .int .i64 n0q, .int .i64 x0q, .int .i64 s1q, .int .i64 n1q, .int .i64 x1q, .int .i64 s2q, .int .i64 n2q, .int .i64 x2q]) w.heap.size 47 #[.int .i64 qa, .int .i64 s0q, .int .i64 n0q, .int .i64 x0q, .int .i64 s1q, .int .i64 n1q, .int .i64 x1q, .int .i64 s2q, .int .i64 n2q, .int .i64 x2q] from box_setAll0 HR9.out [.int .i64 qa, .int .i64 s0q, .int .i64 n0q, .int .i64 x0q, .int .i64 s1q, .int .i64 n1q, .int .i64 x1q, .int .i64 s2q, .int .i64 n2q, .int .i64 x2q] rfl)
  have Hfin := kp (HQ.out _ (below_setAll (Nat.le_refl _) [.int .i64 qa, .int .i64 s0q, .int .i64 n0q, .int .i64 x0q, .int .i64 s1q, .int .i64 n1q, .int .i64 x1q, .int .i64 s2q, .int .i64 n2q, .int .i64 x2q] W9 0 Hw9.out))
  generalize hW10 : setAll W9 w.heap.size 0 _ = W10 at *
  simp only [setAll, Nat.zero_add, Nat.reduceAdd] at hW10
  obtain ⟨t0, t1, t2, t3, t4, t5, t6, t7, t8, t9⟩ := (Box.ten HB10.out).1
  clear HR1 HR2 HR3 HR4 HR7 HR9 HB9 HB10 HQ HZ hb8 Hb9 Hw9 Hb7
  go_wp2_with fail
  refine bodyPost_ret (v := .tuple #[.agg #[.int .i64 qa, .int .i64 s0q, .int .i64 n0q, .int .i64 x0q, .int .i64 s1q, .int .i64 n1q, .int .i64 x1q, .int .i64 s2q, .int .i64 n2q, .int .i64 x2q], .int .i64 er]) ?_ rfl Hfin.out
  simp [results, Tryz.results13, go_sem, t0, t1, t2, t3, t4, t5, t6, t7, t8, t9]
end
def capN (x y : Nat) : Nat := min (x + y) 1125899906842624
set_option maxRecDepth 100000 in
set_option maxHeartbeats 1000000 in
theorem cadd_any (x y : Nat) (hx : x ≤ 1125899906842624) (hy : y ≤ 1125899906842624) (w : World) :
 Calls Tryz.prog 74 #[.int .i64 (x : Nat), .int .i64 (y : Nat)] w fun e w' => e = .returned (.int .i64 ((capN x y : Nat) : Int)) ∧ w' = w := by
 have hw : IntKind.i64.wrap ((x : Int) + (y : Int)) = (x : Int) + (y : Int) := IntWalk.i64_in _ (by omega)
 have hm : ((capN x y : Nat) : Int) = min ((x : Int) + (y : Int)) 1125899906842624 := by unfold capN; omega
 rw [hm]
 by_cases h : (x : Int) + (y : Int) < 1125899906842624
 ·have hd : decide ((x : Int) + (y : Int) < 1125899906842624) = true := decide_eq_true h
  have hd2 : ¬ (1125899906842624 : Int) < (x : Int) + (y : Int) := by omega
  have hmin : min ((x : Int) + (y : Int)) 1125899906842624 = (x : Int) + (y : Int) := by omega
  rw [hmin]
  go_enter Tryz.func74, Tryz.ntmps74
  go_wp2_with fail
  go_ret
  exact ⟨rfl, rfl⟩
 ·have hd : decide ((x : Int) + (y : Int) < 1125899906842624) = false := decide_eq_false h
  have hmin : min ((x : Int) + (y : Int)) 1125899906842624 = 1125899906842624 := by omega
  rw [hmin]
  go_enter Tryz.func74, Tryz.ntmps74
  go_wp2_with fail
  go_ret
  exact ⟨rfl, rfl⟩
section
theorem shape_s (A : Option Addr) (n c m : Nat) (w : World) : (Instr.field 83 (.agg #[.slice A n c, .int .i64 (m : Nat)]) 0).run Tryz.prog w = .ok (.slice A n c) w := by
 simp [Instr.field, asAgg, go_sem]
attribute [local go_sem] shape_s
def countP (n : PNode) : Nat := 1 + (n.lists.map List.length).sum
def treeP (nd : Nat) (acc : List Nat) (n : PNode) : Nat := if n.dim + 1 < nd then (cellsP n).foldl (fun s c => capN s ((acc[c.child]?).getD 0)) (countP n) else countP n
def treesP (nd : Nat) (nodes : List PNode) : List Nat := nodes.foldl (fun acc n => acc ++ [treeP nd acc n]) []
theorem treesP_snoc (nd : Nat) (l : List PNode) (n : PNode) : treesP nd (l ++ [n]) = treesP nd l ++ [treeP nd (treesP nd l) n] := by
 unfold treesP
 rw [List.foldl_append]
 rfl
theorem treesP_len (nd : Nat) : ∀ l : List PNode, (treesP nd l).length = l.length := by
 intro l
 have : ∀ (l : List PNode) (acc : List Nat), (l.foldl (fun acc n => acc ++ [treeP nd acc n]) acc).length = acc.length + l.length := by
  intro l
  induction l with
  | nil => intro acc; rfl
  | cons n l ih => intro acc; rw [List.foldl_cons, ih, List.length_append]; simp only [List.length_cons, List.length_nil]; omega
 have h := this l []
 simpa [treesP] using h
theorem count_plN (n : Nd) : countN n = countP (plN n) := by
 unfold countN countP plN
 dsimp only
 rw [List.map_map]
 rfl
theorem capN_le (x y : Nat) : capN x y ≤ 1125899906842624 := by unfold capN; omega
theorem fold_cap (acc : List Nat) : ∀ (cs : List Cl) (s : Nat), s ≤ 1125899906842624 → cs.foldl (fun s c => capN s ((acc[c.child]?).getD 0)) s ≤ 1125899906842624
 | [], s, h => h
 | c :: cs, s, h => fold_cap acc cs _ (capN_le _ _)
end
section
attribute [local go_sem] shape_s
theorem cells_len (n : PNode) : (cellsP n).length = countP n := by
 unfold cellsP countP
 rw [List.length_append, List.length_flatten]
 simp only [List.length_cons, List.length_nil]
 omega
theorem treeP_le (nx : Nat) (acc : List Nat) (n : PNode) (h : countP n ≤ 1125899906842624) : treeP nx acc n ≤ 1125899906842624 := by
 unfold treeP
 split
 ·exact fold_cap acc _ _ h
 ·exact h
theorem treesP_le (nx : Nat) (P : List PNode) (h : ∀ n ∈ P, countP n ≤ 1125899906842624) : ∀ x ∈ treesP nx P, x ≤ 1125899906842624 := by
 have H : ∀ (l : List PNode) (acc : List Nat), (∀ n ∈ l, countP n ≤ 1125899906842624) → (∀ x ∈ acc, x ≤ 1125899906842624) → ∀ x ∈ l.foldl (fun acc n => acc ++ [treeP nx acc n]) acc, x ≤ 1125899906842624 := by
  intro l
  induction l with
  | nil => intro acc _ h2 x hx; exact h2 x hx
  | cons n l ih =>
   intro acc h1 h2 x hx
   refine ih _ (fun m hm => h1 m (List.mem_cons_of_mem _ hm)) (fun y hy => ?_) x hx
   rcases List.mem_append.1 hy with hy | hy
   ·exact h2 y hy
   ·rw [List.mem_singleton.1 hy]; exact treeP_le nx acc n (h1 n List.mem_cons_self)
 exact H P [] h (fun x hx => by cases hx)
set_option maxRecDepth 100000 in
set_option maxHeartbeats 8000000 in
theorem trees_any (ga : Nat) (As An : Option Addr) (cs m cn most : Nat) (xs : List Fa) (nds : List Nd) (w : World) (hbx : Box w ga 138 (arC As xs.length cs m An nds.length cn most)) (hx : IlsAt w w.heap.size As xs) (h : NdsAt w w.heap.size An nds)
 (hn1 : 1 ≤ xs.length) (hn16 : xs.length ≤ 16) (hnn : nds.length ≤ 1000000) (hsm : ∀ n ∈ nds, NdSm n) (hl : ∀ n ∈ nds, ∀ l ∈ n.ls, l.cs.length ≤ 1000) (hsz : ∀ x ∈ xs, x.keys.length ≤ 1000)
 (hback : ∀ (i : Nat) (n : PNode), (nds.map plN)[i]? = some n → n.dim + 1 < xs.length → ∀ c ∈ cellsP n, c.child < i) :
 Calls Tryz.prog 41 #[.pointer (some ⟨ga, 0, none⟩)] w (Nums (treesP xs.length (nds.map plN)) w) := by
 obtain ⟨i0, ti0, tz0, tz1, tz2⟩ := info_parts info_int
 have HQ := kp (show ∀ v w', w'.ownsRow w.heap.size 3 1 v (treesP xs.length (nds.map plN)).length (natV (treesP xs.length (nds.map plN))) → Below w.heap.size w w' → Nums (treesP xs.length (nds.map plN)) w (.returned v) w' from fun v w' h1 h2 => ⟨v, rfl, h1, h2⟩)
 have HS := kp (ashape_any ga As An cs m nds.length cn most xs w hbx hx hn1 hn16 (fun x hx' => by have := hsz x hx'; omega))
 have HN := kp (fun W hW => anodes_any ga As An xs.length cs m cn most nds W (hbx.under hW) ((h.below hW).more hW.size) hn1 hnn hsm)
 have Hback := kp hback
 have Hys := kp (show ∀ ys : List Nd, ys.map plN = nds.map plN → ∀ n ∈ ys, n.ls.length ≤ 4 ∧ ∀ l ∈ n.ls, l.cs.length ≤ 1000 from fun ys e n hn => by
  have h1 : plN n ∈ nds.map plN := by rw [← e]; exact List.mem_map_of_mem hn
  obtain ⟨n', hn', e'⟩ := List.mem_map.1 h1
  have h2 : n'.ls.map Ll.cs = n.ls.map Ll.cs := by have := congrArg PNode.lists e'; exact this
  have h3 := congrArg List.length h2
  rw [List.length_map, List.length_map] at h3
  refine ⟨by have := (hsm n' hn').n4; omega, fun l hl' => ?_⟩
  have h4 : l.cs ∈ n'.ls.map Ll.cs := by rw [h2]; exact List.mem_map_of_mem hl'
  obtain ⟨l', hl'', e''⟩ := List.mem_map.1 h4
  rw [← e'']
  exact hl n' hn' l' hl'')
 have HPl := kp (show (nds.map plN).length ≤ 1000000 by rw [List.length_map]; exact hnn)
 generalize nds.map plN = P at *
 generalize hQ : Nums (treesP xs.length P) w = Q at *
 clear hQ hbx hx h hback hsm hl hsz
 go_enter Tryz.func41, Tryz.ntmps41
 go_wp2_with fail
 refine HS.out.mono ?_
 rintro e w1 ⟨A1, c1, y1, rfl, _, hk1, hb1⟩
 have hlen1 : y1.length = xs.length := by have := congrArg List.length hk1; rw [List.length_map, List.length_map] at this; exact this
 have Hb1 := kp hb1
 have HN1 := kp (HN.out w1 hb1)
 rw [hlen1]
 clear hk1 hb1 hlen1
 have hw1 : IntKind.i64.wrap ((xs.length : Int) - 1) = (xs.length : Int) - 1 := IntWalk.i64_in _ (by omega)
 go_wp2_with fail
 refine HN1.out.mono ?_
 rintro e w2 ⟨A2, c2, ys, rfl, hys, hpl, hb2⟩
 have Hpl := kp hpl
 have Hat := kp hys.at_
 have Hb2 := kp (Hb1.out.trans (hb2.mono Hb1.out.size))
 have Hsm := kp (Hys.out ys hpl)
 clear hpl hys hb2 HN HN1 HS Hys
 obtain ⟨n, hn⟩ : ∃ n, ys.length = n := ⟨_, rfl⟩
 have Hn := kp hn
 rw [hn]
 clear hn
 go_wp2_with fail
 go_loopw [3, 18] (fun v3 v18 wr => ∃ (k : Nat) (A' : Option Addr) (c' : Nat), k ≤ n ∧ v18 = .int .i64 (k : Nat) ∧ v3 = .slice A' k c' ∧ wr.ownsRow w2.heap.size 3 1 (.slice A' k c') k (natV (treesP xs.length (P.take k))) ∧ Below w2.heap.size w2 wr) (fun _ v18 _ => n - (intOf v18).toNat)
 case atStart => exact ⟨0, none, 0, Nat.zero_le _, rfl, rfl, own_nil _ _ _ _, Below.refl _ _⟩
 case round =>
  obtain ⟨k, A', c', hk, rfl, rfl, hown, hbe⟩ := hrel
  have Hown := kp hown
  have Hbe := kp hbe
  clear hown hbe
  by_cases hlt : k < n
  ·have hkd : k < ys.length := by rw [Hn.out]; exact hlt
   have hat := (Hat.out.below Hbe.out).more Hbe.out.size
   obtain ⟨bn, on, hA, hbn, d0, d1, d2, d3, d4, d5, d6, d7, d8, d9, d10, d11, d12, d13⟩ := nodes_at hat.row k hkd
   have hsk := Hsm.out _ (List.getElem_mem hkd)
   have hatk := hat.each _ (List.getElem_mem hkd)
   have hPk : P[k]? = some (plN (ys[k]'hkd)) := by rw [← Hpl.out, List.getElem?_map, List.getElem?_eq_getElem hkd]; rfl
   have HT := kp (show treesP xs.length (P.take (k + 1)) = treesP xs.length (P.take k) ++ [treeP xs.length (treesP xs.length (P.take k)) (plN (ys[k]'hkd))] by
    obtain ⟨hkP, e⟩ := List.getElem?_eq_some_iff.1 hPk
    rw [List.take_succ_eq_append_getElem hkP, e, treesP_snoc])
   have HBk := kp (Hback.out k _ hPk)
   have Hlen := kp (show (treesP xs.length (P.take k)).length = k by rw [treesP_len, List.length_take]; have := (List.getElem?_eq_some_iff.1 hPk).1; omega)
   have HAcc := kp (treesP_le xs.length (P.take k) (fun p hp => by
    have hp' := List.mem_of_mem_take hp
    rw [← Hpl.out] at hp'
    obtain ⟨y, hy, rfl⟩ := List.mem_map.1 hp'
    obtain ⟨h1, h2⟩ := Hsm.out y hy
    have := count_le (fun l hl => h2 l hl) y.ls.length
    rw [List.take_of_length_le (Nat.le_refl _)] at this
    rw [← count_plN]
    unfold countN
    have : y.ls.length * 1000 ≤ 4 * 1000 := Nat.mul_le_mul_right _ h1
    omega))
   generalize (ys[k]'hkd) = nd at *
   generalize treesP xs.length (P.take k) = acc at *
   have hb3 := (Below.refl wr.heap.size wr).alloc (Nat.le_refl _) (.cells #[.int .i64 0, .slice none 0 0, .int .i64 0, .int .i64 0, .int .i64 0, .int .i64 0, .int .i64 0, .int .i64 0, .int .i64 0, .int .i64 0, .int .i64 0, .int .i64 0, .int .i64 0, .int .i64 0] 108)
   have HZ := kp (Box.new wr 108 #[.int .i64 0, .slice none 0 0, .int .i64 0, .int .i64 0, .int .i64 0, .int .i64 0, .int .i64 0, .int .i64 0, .int .i64 0, .int .i64 0, .int .i64 0, .int .i64 0, .int .i64 0, .int .i64 0])
   have Hb4 := kp (below_setAll (Nat.le_refl _) (ndV nd) _ 0 hb3)
   have HB4 := kp (show Box (setAll (wr.alloc (.cells #[.int .i64 0, .slice none 0 0, .int .i64 0, .int .i64 0, .int .i64 0, .int .i64 0, .int .i64 0, .int .i64 0, .int .i64 0, .int .i64 0, .int .i64 0, .int .i64 0, .int .i64 0, .int .i64 0] 108)) wr.heap.size 0 (ndV nd)) wr.heap.size 108 (ndC nd) from box_setAll0 HZ.out (ndV nd) rfl)
   have HC := kp (count_any nd _ ((hatk.below Hb4.out).more Hb4.out.size) hsk.1 hsk.2)
   have HE := kp (fun W (hW : Below wr.heap.size wr W) => each_any nd W ((hatk.below hW).more hW.size) hsk.1 hsk.2)
   have Hcn := kp (count_plN nd)
   have Hcl := kp (show nd.ls.flatMap Ll.cs ++ [nd.all] = cellsP (plN nd) by unfold cellsP plN; simp [List.flatMap_def])
   have Hcb := kp (show countN nd ≤ 4001 by
    have := count_le (fun l hl => hsk.2 l hl) nd.ls.length
    rw [List.take_of_length_le (Nat.le_refl _)] at this
    unfold countN
    have := hsk.1
    have : nd.ls.length * 1000 ≤ 4 * 1000 := Nat.mul_le_mul_right _ hsk.1
    omega)
   have Hdm := kp (show (plN nd).dim = nd.dim from rfl)
   obtain ⟨⟨r0, r1, r2, r3, r4, r5, r6, r7, r8, r9, r10, r11, r12, r13⟩, ⟨f0, f1, f2, f3, f4, f5, f6, f7, f8, f9, f10, f11, f12, f13⟩⟩ := Box.fourteen HZ.out
   have hi0 : (0 : Int) ≤ (k : Int) := by omega
   have hi1 : (k : Int) < (n : Int) := by omega
   generalize plN nd = pn at *
   generalize countN nd = cN at *
   clear hat hsk hatk hb3 HZ hPk
   obtain ⟨dim, nA, ls, nc, ⟨key, child, ⟨ac, s0, n0, x0, s1, n1, x1, s2, n2, x2⟩⟩⟩ := nd
   dsimp only [ndC, ndV] at HC HE HB4 Hb4 Hcl Hdm d0 d1 d2 d3 d4 d5 d6 d7 d8 d9 d10 d11 d12 d13
   generalize hW3 : wr.alloc (.cells #[.int .i64 0, .slice none 0 0, .int .i64 0, .int .i64 0, .int .i64 0, .int .i64 0, .int .i64 0, .int .i64 0, .int .i64 0, .int .i64 0, .int .i64 0, .int .i64 0, .int .i64 0, .int .i64 0] 108) = W3 at *
   generalize hW4 : setAll W3 wr.heap.size 0 _ = W4 at *
   simp only [setAll, Nat.zero_add, Nat.reduceAdd] at hW4
   obtain ⟨z0, z1, z2, z3, z4, z5, z6, z7, z8, z9, z10, z11, z12, z13⟩ := (Box.fourteen HB4.out).1
   rw [hA]
   go_wp2_with fail
   refine HC.out.mono ?_
   rintro e w5 ⟨rfl, hb5⟩
   have HB5 := kp (HB4.out.under hb5)
   have Hb5 := kp (Hb4.out.trans (hb5.mono Hb4.out.size))
   clear hb5 HB4 Hb4 HC hW3 hW4 d0 d1 d2 d3 d4 d5 d6 d7 d8 d9 d10 d11 d12 d13 r0 r1 r2 r3 r4 r5 r6 r7 r8 r9 r10 r11 r12 r13 f0 f1 f2 f3 f4 f5 f6 f7 f8 f9 f10 f11 f12 f13 z0 z1 z2 z3 z4 z5 z6 z7 z8 z9 z10 z11 z12 z13 hA
   obtain ⟨z0, z1, z2, z3, z4, z5, z6, z7, z8, z9, z10, z11, z12, z13⟩ := (Box.fourteen HB5.out).1
   have hPn : P.length = n := by rw [← Hpl.out, List.length_map]; exact Hn.out
   have hPm := HPl.out
   have hk1 : k < 1048576 * 64 := by omega
   clear hPm
   by_cases hd : dim + 1 < xs.length
   ·have q1 : (dim : Int) < (xs.length : Int) - 1 := by omega
    have q1d : decide ((dim : Int) < (xs.length : Int) - 1) = true := decide_eq_true q1
    have HE5 := kp (HE.out w5 Hb5.out)
    go_wp2_with fail
    refine HE5.out.mono ?_
    rintro e w6 ⟨v6, rfl, hcs, hb6⟩
    obtain ⟨A6, c6, rfl⟩ := own_formK hcs
    rw [Hcl.out] at hcs
    have Hrow6 := kp (row_ownK hcs)
    have Hb6 := kp (Hb5.out.trans (hb6.mono Hb5.out.size))
    have hcl : (ls.flatMap Ll.cs ++ [(⟨key, child, ⟨ac, s0, n0, x0, s1, n1, x1, s2, n2, x2⟩⟩ : Cl)]).length = (cellsP pn).length := congrArg List.length Hcl.out
    rw [hcl]
    have HBk2 := kp (HBk.out (by rw [Hdm.out]; exact hd))
    have hcs200 : cN ≤ 1125899906842624 := by have := Hcb.out; omega
    have Hc0 := kp hcs200
    clear hcs hb6 hcl z0 z1 z2 z3 z4 z5 z6 z7 z8 z9 z10 z11 z12 z13 HB5 HE HE5 hcs200
    obtain ⟨q, hq⟩ : ∃ q, (cellsP pn).length = q := ⟨_, rfl⟩
    have Hq := kp hq
    rw [hq]
    clear hq
    have hq6 : q ≤ 4001 := by rw [← Hq.out, cells_len, ← Hcn.out]; exact Hcb.out
    go_wp2_with fail
    go_loopw [7, 31] (fun v7 v31 wj => ∃ (j s : Nat), j ≤ q ∧ v31 = .int .i64 (j : Nat) ∧ v7 = .int .i64 (s : Nat) ∧ s ≤ 1125899906842624 ∧ s = ((cellsP pn).take j).foldl (fun s c => capN s ((acc[c.child]?).getD 0)) cN ∧ Below w6.heap.size w6 wj) (fun _ v31 _ => q - (intOf v31).toNat)
    case atStart => exact ⟨0, cN, Nat.zero_le _, rfl, rfl, Hc0.out, rfl, Below.refl _ _⟩
    case round =>
     obtain ⟨j, sm, hj, rfl, rfl, hsm, hfo, hbj⟩ := hrel
     have Hbj := kp hbj
     have Hfo := kp hfo
     clear hbj hfo
     by_cases hjl : j < q
     ·have hjc : j < (cellsP pn).length := by rw [Hq.out]; exact hjl
      obtain ⟨bc, oc, hAc, hbc, e0, e1, e2, e3, e4, e5, e6, e7, e8, e9, e10, e11⟩ := cells_at ((Hrow6.out.below Hbj.out).more Hbj.out.size) j hjc
      have hch := HBk2.out _ (List.getElem_mem hjc)
      have HT2 := kp (show (cellsP pn).take (j + 1) = (cellsP pn).take j ++ [(cellsP pn)[j]'hjc] from List.take_succ_eq_append_getElem hjc)
      generalize ((cellsP pn)[j]'hjc) = cc at *
      obtain ⟨ck, cch, ⟨ca, s0c, n0c, x0c, s1c, n1c, x1c, s2c, n2c, x2c⟩⟩ := cc
      dsimp only at e0 e1 e2 e3 e4 e5 e6 e7 e8 e9 e10 e11 hch
      have HrowA := kp (row_ownK (own_below Hown.out (Hb6.out.trans (Hbj.out.mono Hb6.out.size))))
      have hca : cch < acc.length := by rw [Hlen.out]; exact hch
      obtain ⟨ba, oa, hAa, hba, a0⟩ := Row.at_ HrowA.out (k := cch) (by rw [natV_len]; exact hca)
      unfold natV at a0
      rw [List.getElem_map] at a0
      have hg0 : (acc[cch]?).getD 0 = acc[cch]'hca := by rw [List.getElem?_eq_getElem hca]; rfl
      have hb8 := (Below.refl wr.heap.size wr).alloc (Nat.le_refl _) (.cells #[.int .i64 0, .int .i64 0, .int .i64 0, .int .i64 0, .int .i64 0, .int .i64 0, .int .i64 0, .int .i64 0, .int .i64 0, .int .i64 0, .int .i64 0, .int .i64 0] 106)
      have HZ8 := kp (Box.new wr 106 #[.int .i64 0, .int .i64 0, .int .i64 0, .int .i64 0, .int .i64 0, .int .i64 0, .int .i64 0, .int .i64 0, .int .i64 0, .int .i64 0, .int .i64 0, .int .i64 0])
      have Hb9 := kp (below_setAll (Nat.le_refl _) [.int .i64 (ck : Nat), .int .i64 (cch : Nat), .int .i64 ca, .int .i64 s0c, .int .i64 n0c, .int .i64 x0c, .int .i64 s1c, .int .i64 n1c, .int .i64 x1c, .int .i64 s2c, .int .i64 n2c, .int .i64 x2c] _ 0 hb8)
      have HB9 := kp (show Box (setAll (wr.alloc (.cells #[.int .i64 0, .int .i64 0, .int .i64 0, .int .i64 0, .int .i64 0, .int .i64 0, .int .i64 0, .int .i64 0, .int .i64 0, .int .i64 0, .int .i64 0, .int .i64 0] 106)) wr.heap.size 0 [.int .i64 (ck : Nat), .int .i64 (cch : Nat), .int .i64 ca, .int .i64 s0c, .int .i64 n0c, .int .i64 x0c, .int .i64 s1c, .int .i64 n1c, .int .i64 x1c, .int .i64 s2c, .int .i64 n2c, .int .i64 x2c]) wr.heap.size 106 #[.int .i64 (ck : Nat), .int .i64 (cch : Nat), .int .i64 ca, .int .i64 s0c, .int .i64 n0c, .int .i64 x0c, .int .i64 s1c, .int .i64 n1c, .int .i64 x1c, .int .i64 s2c, .int .i64 n2c, .int .i64 x2c] from box_setAll0 HZ8.out [.int .i64 (ck : Nat), .int .i64 (cch : Nat), .int .i64 ca, .int .i64 s0c, .int .i64 n0c, .int .i64 x0c, .int .i64 s1c, .int .i64 n1c, .int .i64 x1c, .int .i64 s2c, .int .i64 n2c, .int .i64 x2c] rfl)
      obtain ⟨⟨r0, r1, r2, r3, r4, r5, r6, r7, r8, r9, r10, r11⟩, ⟨f0, f1, f2, f3, f4, f5, f6, f7, f8, f9, f10, f11⟩⟩ := Box.twelve HZ8.out
      generalize hW8 : wr.alloc (.cells #[.int .i64 0, .int .i64 0, .int .i64 0, .int .i64 0, .int .i64 0, .int .i64 0, .int .i64 0, .int .i64 0, .int .i64 0, .int .i64 0, .int .i64 0, .int .i64 0] 106) = W8 at *
      generalize hW9 : setAll W8 wr.heap.size 0 _ = W9 at *
      simp only [setAll, Nat.zero_add, Nat.reduceAdd] at hW9
      have hz1 : W9.cell? ⟨wr.heap.size, 1, none⟩ = some (.int .i64 (cch : Nat)) := HB9.out.cell 1
      have a9 := cell_keep Hb9.out a0
      have hy : acc[cch]'hca ≤ 1125899906842624 := HAcc.out _ (List.getElem_mem hca)
      have HCA := kp (cadd_any sm (acc[cch]'hca) hsm hy W9)
      generalize (acc[cch]'hca) = ay at *
      have j0 : (0 : Int) ≤ (j : Int) := by omega
      have j1 : (j : Int) < (q : Int) := by omega
      have j2 : (0 : Int) ≤ (cch : Int) := by omega
      have j3 : (cch : Int) < (k : Int) := by omega
      rw [hAc, hAa]
      go_wp2_with fail
      refine HCA.out.mono ?_
      rintro e w10 ⟨rfl, rfl⟩
      clear hW8 hW9 hAc hAa hbc hba e0 e1 e2 e3 e4 e5 e6 e7 e8 e9 e10 e11 r0 r1 r2 r3 r4 r5 r6 r7 r8 r9 r10 r11 f0 f1 f2 f3 f4 f5 f6 f7 f8 f9 f10 f11 hz1 a0 a9 hb8 HZ8 HCA hy hca hjc HrowA
      go_wp2_with fail
      have Hbn := kp (Hbj.out.trans (Hb9.out.mono Hbj.out.size))
      have Hfn := kp (show capN sm ay = ((cellsP pn).take (j + 1)).foldl (fun s c => capN s ((acc[c.child]?).getD 0)) cN by
       rw [HT2.out, List.foldl_append, ← Hfo.out, List.foldl_cons, List.foldl_nil]
       exact congrArg (capN sm) hg0.symm)
      exact ⟨⟨j + 1, capN sm ay, by omega, by go_num, rfl, capN_le _ _, Hfn.out, Hbn.out⟩, by simp [intOf]; omega⟩
     ·obtain rfl : j = q := by omega
      have hv : treeP xs.length acc pn = sm := by
       unfold treeP
       have := Hfo.out
       rw [List.take_of_length_le (by rw [Hq.out]; exact Nat.le_refl _)] at this
       rw [if_pos (by rw [Hdm.out]; exact hd), ← Hcn.out, this]
      have Hb6j := kp (Hb6.out.trans (Hbj.out.mono Hb6.out.size))
      have HbW := kp (Hbe.out.trans (Hb6j.out.mono Hbe.out.size))
      have HownW := kp (own_below Hown.out Hb6j.out)
      have HsW := kp HbW.out.size
      go_wp2_with (at_builtin; refine wpList_append1 rfl (.tmp 43) (.tmp 45) 41 rfl w2.heap.size 3 i0 (.int .i64 0) 8 Tryz.underlying41 ti0 tz0 tz1 tz2 rfl wr (.int .i64 ((sm : Nat) : Int)) rfl (.slice A' k c') k (natV acc) rfl HownW.out rfl hk1 (by decide) HsW.out ?_; intro v8 w7 hown6 happ6; obtain ⟨A8, c8, h6⟩ := own_form hown6; subst h6; have Hown6 := kp hown6; have Hb7 := kp (happ6.below HbW.out HownW.out (Nat.le_refl _) HsW.out); clear hown6 happ6)
      exact ⟨⟨k + 1, A8, c8, by omega, by go_num, rfl, by rw [HT.out, hv]; unfold natV at *; rw [List.map_append]; exact Hown6.out, Hb7.out⟩, by simp [intOf]; omega⟩
   ·have q1 : ¬ (dim : Int) < (xs.length : Int) - 1 := by omega
    have q1d : decide ((dim : Int) < (xs.length : Int) - 1) = false := decide_eq_false q1
    have HbW := kp (Hbe.out.trans (Hb5.out.mono Hbe.out.size))
    have HownW := kp (own_below Hown.out Hb5.out)
    have HsW := kp HbW.out.size
    go_wp2_with (at_builtin; refine wpList_append1 rfl (.tmp 43) (.tmp 45) 41 rfl w2.heap.size 3 i0 (.int .i64 0) 8 Tryz.underlying41 ti0 tz0 tz1 tz2 rfl w5 (.int .i64 ((cN : Nat) : Int)) rfl (.slice A' k c') k (natV acc) rfl HownW.out rfl hk1 (by decide) HsW.out ?_; intro v6 w7 hown6 happ6; obtain ⟨A6, c6, h6⟩ := own_form hown6; subst h6; have Hown6 := kp hown6; have Hb7 := kp (happ6.below HbW.out HownW.out (Nat.le_refl _) HsW.out); clear hown6 happ6)
    have hv : treeP xs.length acc pn = cN := by unfold treeP; rw [if_neg (by rw [Hdm.out]; exact hd), Hcn.out]
    exact ⟨⟨k + 1, A6, c6, by omega, by go_num, rfl, by rw [HT.out, hv]; unfold natV at *; rw [List.map_append]; exact Hown6.out, Hb7.out⟩, by simp [intOf]; omega⟩
  ·obtain rfl : k = n := by omega
   have hPk : P.length = k := by rw [← Hpl.out, List.length_map]; exact Hn.out
   have Hfin := kp (HQ.out (.slice A' k c') wr (by
    have := Hown.out
    rw [List.take_of_length_le (by rw [hPk]; exact Nat.le_refl _)] at this
    rw [treesP_len, hPk]
    exact own_base this Hb2.out.size) (Hb2.out.trans (Hbe.out.mono Hb2.out.size)))
   go_wp2_with fail
   exact Hfin.out
end
end Go.Proofs.YthmbgbmcdbdecaaGreat.Tc
