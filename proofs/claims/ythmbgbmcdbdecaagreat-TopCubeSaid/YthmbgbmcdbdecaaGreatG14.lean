/- Parts of a proof: Layer 22: a heap of one or two runs. Layer 22: a heap of one or two runs: into it, out of it. -/
import Derived.Test.YthmbgbmcdbdecaaGreatG05
import Derived.Test.YthmbgbmcdbdecaaGreatG13
namespace Go.Proofs.YthmbgbmcdbdecaaGreat.Tc
open Go.RowKit Base
set_option linter.unusedVariables false
set_option linter.unusedSimpArgs false
structure Hd where
 A : Option Addr
 fs : List Fa
 c : Nat
 no : Nat
abbrev headV (h : Hd) : List Value := [.slice h.A h.fs.length h.c, .int .i64 (h.no : Int)]
theorem headV_len (h : Hd) : (headV h).length = 2 := rfl
structure HeapAt (w : World) (B gh gr c : Nat) (hs : List Hd) : Prop where
 box : Box w gh 200 #[.slice (some ⟨gr, 0, none⟩) hs.length c]
 own : w.ownsRow B 203 2 (.slice (some ⟨gr, 0, none⟩) hs.length c) hs.length (hs.flatMap headV)
 ne : gh ≠ gr
abbrev hpV (gh : Nat) : Value := .iface 198 (.pointer (some ⟨gh, 0, none⟩))
theorem run_nilchk (ts : Array TypeId) (t : TypeId) (a : Addr) (s m : ByteArray) (w : World) : (Builtin.ssaWrapNilChk_ ts t #[.pointer (some a), .string s, .string m]).run Tryz.prog w = .ok (.pointer (some a)) w := rfl
theorem run_meth_v {T E : TypeId} {name : String} {f : FuncId} (h1 : (Tryz.prog.info? T).map (fun i => (i.methods.find? (·.name == name)).map fun m => (m.func, m.path.size)) = some (some (some (f, false), 0))) (hT : Tryz.prog.underlying T = some (.pointer E)) (ha : ∀ w, (isAgg E).run Tryz.prog w = .ok false w) (fuel gh : Nat) (v : Value) (w : World) (h : w.cell? ⟨gh, 0, none⟩ = some v) :
 Sem.run Tryz.prog (method (fuel + 1) T (.pointer (some ⟨gh, 0, none⟩)) name) w = .ok (f, v) w := by
 rcases hi : Tryz.prog.info? T with _ | i
 ·rw [hi] at h1; cases h1
 ·rw [hi] at h1
  simp only [Option.map_some, Option.some.injEq] at h1
  rcases hm : i.methods.find? (·.name == name) with _ | m
  ·rw [hm] at h1; cases h1
  ·rw [hm] at h1
   simp only [Option.map_some, Option.some.injEq, Prod.mk.injEq] at h1
   obtain ⟨h2, h3⟩ := h1
   have h4 : m.path = #[] := Array.eq_empty_of_size_eq_zero h3
   unfold method
   have hu : ∀ w, Sem.run Tryz.prog (underlying T) w = .ok (.pointer E) w := run_underlying hT
   simp [go_sem, typeInfo, hi, hm, h2, h4, follow, receiverAt, hu, Place.get, strVal, run_nilchk, ha, h]
theorem run_meth_p {T E : TypeId} {name : String} {f : FuncId} (h1 : (Tryz.prog.info? T).map (fun i => (i.methods.find? (·.name == name)).map fun m => (m.func, m.path.size)) = some (some (some (f, true), 0))) (hT : Tryz.prog.underlying T = some (.pointer E)) (fuel gh : Nat) (w : World) :
 Sem.run Tryz.prog (method (fuel + 1) T (.pointer (some ⟨gh, 0, none⟩)) name) w = .ok (f, .pointer (some ⟨gh, 0, none⟩)) w := by
 rcases hi : Tryz.prog.info? T with _ | i
 ·rw [hi] at h1; cases h1
 ·rw [hi] at h1
  simp only [Option.map_some, Option.some.injEq] at h1
  rcases hm : i.methods.find? (·.name == name) with _ | m
  ·rw [hm] at h1; cases h1
  ·rw [hm] at h1
   simp only [Option.map_some, Option.some.injEq, Prod.mk.injEq] at h1
   obtain ⟨h2, h3⟩ := h1
   have h4 : m.path = #[] := Array.eq_empty_of_size_eq_zero h3
   unfold method
   have hu : ∀ w, Sem.run Tryz.prog (underlying T) w = .ok (.pointer E) w := run_underlying hT
   simp [go_sem, typeInfo, hi, hm, h2, h4, follow, receiverAt, hu, Place.get]
theorem isAgg_heads (w : World) : (isAgg 200).run Tryz.prog w = .ok false w := by kernel_rfl
theorem run_len (fuel gh : Nat) (v : Value) (w : World) (h : w.cell? ⟨gh, 0, none⟩ = some v) : Sem.run Tryz.prog (method (fuel + 1) 198 (.pointer (some ⟨gh, 0, none⟩)) "Len") w = .ok (113, v) w := run_meth_v (by kernel_rfl) Tryz.underlying198 isAgg_heads fuel gh v w h
theorem run_less (fuel gh : Nat) (v : Value) (w : World) (h : w.cell? ⟨gh, 0, none⟩ = some v) : Sem.run Tryz.prog (method (fuel + 1) 198 (.pointer (some ⟨gh, 0, none⟩)) "Less") w = .ok (172, v) w := run_meth_v (by kernel_rfl) Tryz.underlying198 isAgg_heads fuel gh v w h
theorem run_swap (fuel gh : Nat) (v : Value) (w : World) (h : w.cell? ⟨gh, 0, none⟩ = some v) : Sem.run Tryz.prog (method (fuel + 1) 198 (.pointer (some ⟨gh, 0, none⟩)) "Swap") w = .ok (175, v) w := run_meth_v (by kernel_rfl) Tryz.underlying198 isAgg_heads fuel gh v w h
theorem run_push (fuel gh : Nat) (w : World) : Sem.run Tryz.prog (method (fuel + 1) 198 (.pointer (some ⟨gh, 0, none⟩)) "Push") w = .ok (174, .pointer (some ⟨gh, 0, none⟩)) w := run_meth_p (by kernel_rfl) Tryz.underlying198 fuel gh w
theorem run_pop (fuel gh : Nat) (w : World) : Sem.run Tryz.prog (method (fuel + 1) 198 (.pointer (some ⟨gh, 0, none⟩)) "Pop") w = .ok (173, .pointer (some ⟨gh, 0, none⟩)) w := run_meth_p (by kernel_rfl) Tryz.underlying198 fuel gh w
set_option maxHeartbeats 400000 in
theorem hlen_any (A : Option Addr) (m c : Nat) (w : World) : Calls Tryz.prog 113 #[.slice A m c] w fun e w' => e = .returned (.int .i64 (m : Int)) ∧ w = w' := by
 go_enter Tryz.func113, Tryz.ntmps113
 go_wp2_with fail
 go_ret
 exact ⟨rfl, rfl⟩
theorem own_cells {w : World} {B g n c sz : Nat} {e : TypeId} {xs : List Value} (h : w.ownsRow B e sz (.slice (some ⟨g, 0, none⟩) n c) n xs) {i : Nat} {v : Value} (hv : xs[i]? = some v) : w.cell? ⟨g, i, none⟩ = some v ∧ w.frozen? ⟨g, i, none⟩ = false := by
 constructor
 ·have := h.cells (g := g) rfl i v hv
  rw [add_at, Nat.zero_add] at this
  exact this
 ·rcases h.2 with ⟨h0, _⟩ | ⟨g', cap, cur, hv, hB, hh, _⟩
  ·cases h0
  ·injection hv with hA _ _
   injection hA with hA
   injection hA with hg _ _
   subst hg
   simp [World.frozen?, hh]
set_option maxRecDepth 100000 in
set_option maxHeartbeats 2000000 in
theorem swap2_any (B gh gr c : Nat) (a b : Hd) (w : World) (h : HeapAt w B gh gr c [a, b]) : Calls Tryz.prog 175 #[.slice (some ⟨gr, 0, none⟩) 2 c, .int .i64 0, .int .i64 1] w fun e w' => e = .returned (.tuple #[]) ∧ HeapAt w' B gh gr c [b, a] ∧ Turn (fun k => k = gr) w w' := by
 obtain ⟨c0, f0⟩ := own_cells h.own (i := 0) rfl
 obtain ⟨c1, f1⟩ := own_cells h.own (i := 1) rfl
 obtain ⟨c2, f2⟩ := own_cells h.own (i := 2) rfl
 obtain ⟨c3, f3⟩ := own_cells h.own (i := 3) rfl
 have Hh := kp h
 clear h
 go_enter Tryz.func175, Tryz.ntmps175
 go_wp2_with fail
 go_region
 go_end0
 refine ⟨rfl, ⟨?_, ?_, Hh.out.ne⟩, ?_⟩
 ·have hne : gh ≠ gr := Hh.out.ne
  exact ((((Hh.out.box.far (p := ⟨gr, 0, none⟩) hne _).far (p := ⟨gr, 1, none⟩) hne _).far (p := ⟨gr, 2, none⟩) hne _).far (p := ⟨gr, 3, none⟩) hne _)
 ·exact own_set1 (own_set1 (own_set1 (own_set1 Hh.out.own (i := 0) (by simp) (.slice b.A b.fs.length b.c)) (i := 1) (by simp) (.int .i64 (b.no : Int))) (i := 2) (by simp) (.slice a.A a.fs.length a.c)) (i := 3) (by simp) (.int .i64 (a.no : Int))
 ·exact ((((Turn.set (p := fun k => k = gr) w ⟨gr, 0, none⟩ _ rfl).trans (Turn.set _ ⟨gr, 1, none⟩ _ rfl)).trans (Turn.set _ ⟨gr, 2, none⟩ _ rfl)).trans (Turn.set _ ⟨gr, 3, none⟩ _ rfl)).drew
set_option maxRecDepth 100000 in
set_option maxHeartbeats 2000000 in
theorem swap1_any (B gh gr c : Nat) (a : Hd) (w : World) (h : HeapAt w B gh gr c [a]) : Calls Tryz.prog 175 #[.slice (some ⟨gr, 0, none⟩) 1 c, .int .i64 0, .int .i64 0] w fun e w' => e = .returned (.tuple #[]) ∧ HeapAt w' B gh gr c [a] ∧ Turn (fun k => k = gr) w w' := by
 obtain ⟨c0, f0⟩ := own_cells h.own (i := 0) rfl
 obtain ⟨c1, f1⟩ := own_cells h.own (i := 1) rfl
 have Hh := kp h
 clear h
 go_enter Tryz.func175, Tryz.ntmps175
 go_wp2_with fail
 go_region
 go_end0
 refine ⟨rfl, ⟨?_, ?_, Hh.out.ne⟩, ?_⟩
 ·have hne : gh ≠ gr := Hh.out.ne
  exact ((((Hh.out.box.far (p := ⟨gr, 0, none⟩) hne _).far (p := ⟨gr, 1, none⟩) hne _).far (p := ⟨gr, 0, none⟩) hne _).far (p := ⟨gr, 1, none⟩) hne _)
 ·exact own_set1 (own_set1 (own_set1 (own_set1 Hh.out.own (i := 0) (by simp) (.slice a.A a.fs.length a.c)) (i := 1) (by simp) (.int .i64 (a.no : Int))) (i := 0) (by simp) (.slice a.A a.fs.length a.c)) (i := 1) (by simp) (.int .i64 (a.no : Int))
 ·exact ((((Turn.set (p := fun k => k = gr) w ⟨gr, 0, none⟩ _ rfl).trans (Turn.set _ ⟨gr, 1, none⟩ _ rfl)).trans (Turn.set _ ⟨gr, 0, none⟩ _ rfl)).trans (Turn.set _ ⟨gr, 1, none⟩ _ rfl)).drew
def hk (h : Hd) : List Nat := match h.fs with
 | x :: _ => x.keys
 | [] => []
def ltP (b a : Hd) : Prop := cmpN (hk b) (hk a) < 0 ∨ cmpN (hk b) (hk a) = 0 ∧ b.no < a.no
theorem ltP_asymm {a b : Hd} (h : ltP b a) : ¬ ltP a b := by
 unfold ltP at *
 rw [cmpN_swap (hk b) (hk a)]
 omega
structure HdOk (w : World) (LB : Nat) (h : Hd) : Prop where
 fas : FasAt w LB h.A h.fs
 ne : h.fs ≠ []
 keys : ∀ f ∈ h.fs, f.keys.length ≤ 1000000
 len : h.fs.length ≤ 1000000
 cap : h.fs.length ≤ h.c
 no : h.no ≤ 1000000
theorem HdOk.below {w w' : World} {LB : Nat} {h : Hd} (ho : HdOk w LB h) (hb : Below LB w w') : HdOk w' LB h := ⟨ho.fas.below hb, ho.ne, ho.keys, ho.len, ho.cap, ho.no⟩
def LessRet (p : Prop) (w : World) (e : Ending) (w' : World) : Prop := ∃ r : Bool, e = .returned (.bool r) ∧ (r = true ↔ p) ∧ Below w.heap.size w w'
set_option maxRecDepth 100000 in
set_option maxHeartbeats 4000000 in
theorem less_any2 (B gh gr c : Nat) (a b : Hd) (x y : Fa) (xs ys : List Fa) (hb : b.fs = x :: xs) (ha : a.fs = y :: ys) (w : World) (h : HeapAt w B gh gr c [a, b]) (hra : FasAt w w.heap.size a.A a.fs) (hrb : FasAt w w.heap.size b.A b.fs) (hkx : x.keys.length ≤ 1000000) (hky : y.keys.length ≤ 1000000) (hn : a.no ≤ 1000000 ∧ b.no ≤ 1000000) :
 Calls Tryz.prog 172 #[.slice (some ⟨gr, 0, none⟩) 2 c, .int .i64 1, .int .i64 0] w (LessRet (cmpN x.keys y.keys < 0 ∨ cmpN x.keys y.keys = 0 ∧ b.no < a.no) w) := by
 have HR := kp (show ∀ (r : Bool) wx, (r = true ↔ (cmpN x.keys y.keys < 0 ∨ cmpN x.keys y.keys = 0 ∧ b.no < a.no)) → Below w.heap.size w wx → LessRet (cmpN x.keys y.keys < 0 ∨ cmpN x.keys y.keys = 0 ∧ b.no < a.no) w (.returned (.bool r)) wx from fun r wx h hb => ⟨r, rfl, h, hb⟩)
 generalize hQ : LessRet (cmpN x.keys y.keys < 0 ∨ cmpN x.keys y.keys = 0 ∧ b.no < a.no) w = Q at *
 clear hQ
 obtain ⟨c0, f0⟩ := own_cells h.own (i := 0) rfl
 obtain ⟨c1, f1⟩ := own_cells h.own (i := 1) rfl
 obtain ⟨c2, f2⟩ := own_cells h.own (i := 2) rfl
 obtain ⟨c3, f3⟩ := own_cells h.own (i := 3) rfl
 have hgl : gr < w.heap.size := (h.own.lt gr rfl).2
 rw [hb] at hrb c2
 rw [ha] at hra c0
 obtain ⟨ba, oa, hA, hba, a0, a1, a2, a3, a4, a5, a6, a7, a8, a9, a10⟩ := hra.cells 0 (by simp)
 obtain ⟨bb, ob, hB, hbb, b0, b1, b2, b3, b4, b5, b6, b7, b8, b9, b10⟩ := hrb.cells 0 (by simp)
 rw [hA] at c0
 rw [hB] at c2
 simp only [List.getElem_cons_zero, Nat.zero_mul, Nat.add_zero] at a0 a1 a2 a3 a4 a5 a6 a7 a8 a9 a10 b0 b1 b2 b3 b4 b5 b6 b7 b8 b9 b10
 have HCmp := kp (show Calls Tryz.prog 52 #[.agg (factC x), .agg (factC y)] w.drew _ from factcmp_any x y w.drew hkx hky (hrb.keys x (by simp)) (hra.keys y (by simp)))
 have HV := kp (show cmpN x.keys y.keys = cmpN x.keys y.keys from rfl)
 clear h hra hrb hb ha hA hB
 have hlb : bb < w.heap.size := hbb
 have hla : ba < w.heap.size := hba
 go_enter Tryz.func172, Tryz.ntmps172
 go_wp2_with fail
 refine wp_region_noPanic ?_
 refine wp_region_T (t := 99) (S := (fun w' => (w'.cell? ⟨gr, 0, none⟩ = some (.slice (some ⟨ba, oa, none⟩) (y :: ys).length a.c) ∧ w'.cell? ⟨gr, 2, none⟩ = some (.slice (some ⟨bb, ob, none⟩) (x :: xs).length b.c)) ∧ (w'.cell? ⟨ba, oa, none⟩ = some (.slice y.A y.keys.length y.c) ∧ w'.cell? ⟨ba, oa + 1, none⟩ = some (.int .i64 y.ag.c) ∧ w'.cell? ⟨ba, oa + 2, none⟩ = some (.int .i64 y.ag.s0) ∧ w'.cell? ⟨ba, oa + 3, none⟩ = some (.int .i64 y.ag.n0) ∧ w'.cell? ⟨ba, oa + 4, none⟩ = some (.int .i64 y.ag.x0) ∧ w'.cell? ⟨ba, oa + 5, none⟩ = some (.int .i64 y.ag.s1) ∧ w'.cell? ⟨ba, oa + 6, none⟩ = some (.int .i64 y.ag.n1) ∧ w'.cell? ⟨ba, oa + 7, none⟩ = some (.int .i64 y.ag.x1) ∧ w'.cell? ⟨ba, oa + 8, none⟩ = some (.int .i64 y.ag.s2) ∧ w'.cell? ⟨ba, oa + 9, none⟩ = some (.int .i64 y.ag.n2) ∧ w'.cell? ⟨ba, oa + 10, none⟩ = some (.int .i64 y.ag.x2)) ∧ (w'.cell? ⟨bb, ob, none⟩ = some (.slice x.A x.keys.length x.c) ∧ w'.cell? ⟨bb, ob + 1, none⟩ = some (.int .i64 x.ag.c) ∧ w'.cell? ⟨bb, ob + 2, none⟩ = some (.int .i64 x.ag.s0) ∧ w'.cell? ⟨bb, ob + 3, none⟩ = some (.int .i64 x.ag.n0) ∧ w'.cell? ⟨bb, ob + 4, none⟩ = some (.int .i64 x.ag.x0) ∧ w'.cell? ⟨bb, ob + 5, none⟩ = some (.int .i64 x.ag.s1) ∧ w'.cell? ⟨bb, ob + 6, none⟩ = some (.int .i64 x.ag.n1) ∧ w'.cell? ⟨bb, ob + 7, none⟩ = some (.int .i64 x.ag.x1) ∧ w'.cell? ⟨bb, ob + 8, none⟩ = some (.int .i64 x.ag.s2) ∧ w'.cell? ⟨bb, ob + 9, none⟩ = some (.int .i64 x.ag.n2) ∧ w'.cell? ⟨bb, ob + 10, none⟩ = some (.int .i64 x.ag.x2)))) (by kernel_rfl) ⟨⟨c0, c2⟩, ⟨a0, a1, a2, a3, a4, a5, a6, a7, a8, a9, a10⟩, ⟨b0, b1, b2, b3, b4, b5, b6, b7, b8, b9, b10⟩⟩ (fun hHeld => ?_)
 refine tk 0 hHeld ?_
 refine tk 1 hHeld ?_
 refine tk 2 hHeld ?_
 refine tk 3 hHeld ?_
 refine tk 4 hHeld ?_
 refine tk 5 hHeld ?_
 refine tk 6 hHeld ?_
 refine tk 7 hHeld ?_
 refine tk 8 hHeld ?_
 refine tk 9 hHeld ?_
 refine tk 10 hHeld ?_
 refine tk 11 hHeld ?_
 refine tk 12 hHeld ?_
 refine tk 13 hHeld ?_
 refine wpAnyT_one (i := 14) (o := ?op14) (by kernel_rfl) ?ap14 (by decide) (fun K hK => ?bp14)
 case ap14 => (simp only [List.getElem?_toArray, List.getElem?_cons_succ, List.getElem?_cons_zero]; exact rfl)
 go_simp
 refine HCmp.out.mono ?_
 rintro e wc ⟨rfl, hwc⟩
 have Hwc := kp hwc
 clear hwc
 refine hK.out _ _ ?_ (fun hHeld2 => ?_)
 ·have e1 : ∀ g, g < w.heap.size → ∀ i, wc.cell? ⟨g, i, none⟩ = w.drew.cell? ⟨g, i, none⟩ := fun g hg i => World.cell?_of_block (a := ⟨g, i, none⟩) (by rw [Hwc.out]; exact (Below.heap_alloc _ _ _ (by simp; omega)).trans (Below.heap_alloc _ _ _ hg))
  simp only [e1 gr hgl, e1 ba hla, e1 bb hlb]
  exact ⟨⟨c0, c2⟩, ⟨a0, a1, a2, a3, a4, a5, a6, a7, a8, a9, a10⟩, ⟨b0, b1, b2, b3, b4, b5, b6, b7, b8, b9, b10⟩⟩
 clear hK K hHeld
 have hHeld := hHeld2
 clear hHeld2
 try simp only [Act.put, List.setIfInBounds_toArray, List.set_cons_zero, List.set_cons_succ]
 refine tk 15 hHeld ?_
 refine wpAnyT_done (by kernel_rfl) ?_ _
 try clear hHeld
 refine NoPanic.normal ?_
 have hbc : Below w.drew.heap.size w.drew wc := by rw [Hwc.out]; exact ((Below.refl _ _).alloc (Nat.le_refl _) _).alloc (by simp) _
 have d1 : wc.cell? ⟨gr, 1, none⟩ = some (.int .i64 (a.no : Int)) := cell_keep hbc (show w.drew.cell? ⟨gr, 1, none⟩ = some (.int .i64 (a.no : Int)) from c1)
 have d3 : wc.cell? ⟨gr, 3, none⟩ = some (.int .i64 (b.no : Int)) := cell_keep hbc (show w.drew.cell? ⟨gr, 3, none⟩ = some (.int .i64 (b.no : Int)) from c3)
 have Hbc := kp (show Below w.heap.size w wc from (Below.refl _ _).drew.trans hbc)
 clear hbc HCmp c0 c1 c2 c3 f0 f1 f2 f3 a0 a1 a2 a3 a4 a5 a6 a7 a8 a9 a10 b0 b1 b2 b3 b4 b5 b6 b7 b8 b9 b10 Hwc
 generalize cmpN x.keys y.keys = V at *
 by_cases h1 : V < 0
 ·have g1 : decide (V < 0) = true := decide_eq_true h1
  go_wp2_with fail
  go_quiet (fail)
  go_wp2_with fail
  exact HR.out true _ (by simp [h1]) (below_drewN Hbc.out _)
 ·have g1 : decide (V < 0) = false := decide_eq_false h1
  by_cases h2 : V = 0
  ·subst h2
   have g2 : ((0 : Int) == 0) = true := by simp
   go_wp2_with fail
   go_quiet (fail)
   go_wp2_with fail
   refine HR.out _ _ ?_ (below_drewN Hbc.out _)
   simp
  ·have g2 : (V == 0) = false := by simpa using h2
   go_wp2_with fail
   go_quiet (fail)
   go_wp2_with fail
   exact HR.out false _ (by simp [h1, h2]) (below_drewN Hbc.out _)
theorem less_ok (B gh gr c LB : Nat) (a b : Hd) (w : World) (h : HeapAt w B gh gr c [a, b]) (ha : HdOk w LB a) (hb : HdOk w LB b) (hL : LB ≤ w.heap.size) :
 Calls Tryz.prog 172 #[.slice (some ⟨gr, 0, none⟩) 2 c, .int .i64 1, .int .i64 0] w (LessRet (ltP b a) w) := by
 rcases hbf : b.fs with _ | ⟨x, xs⟩
 ·exact absurd hbf hb.ne
 ·rcases haf : a.fs with _ | ⟨y, ys⟩
  ·exact absurd haf ha.ne
  ·have e1 : hk b = x.keys := by unfold hk; rw [hbf]
   have e2 : hk a = y.keys := by unfold hk; rw [haf]
   unfold ltP
   rw [e1, e2]
   exact less_any2 B gh gr c a b x y xs ys hbf haf w h (ha.fas.more hL) (hb.fas.more hL) (hb.keys x (by rw [hbf]; simp)) (ha.keys y (by rw [haf]; simp)) ⟨ha.no, hb.no⟩
theorem HeapAt.below {w w' : World} {B gh gr c : Nat} {hs : List Hd} (h : HeapAt w B gh gr c hs) (hb : Below w.heap.size w w') : HeapAt w' B gh gr c hs := ⟨h.box.under hb, own_below h.own hb, h.ne⟩
def Two (a b : Hd) (B gh gr c : Nat) (w w' : World) : Prop := ∃ x y, ((x = a ∧ y = b) ∨ (x = b ∧ y = a)) ∧ HeapAt w' B gh gr c [x, y] ∧ ¬ ltP y x ∧ Turn (fun k => k = gr) w w'
set_option maxRecDepth 100000 in
set_option maxHeartbeats 1000000 in
theorem up0_any (V : Value) (w : World) : Calls Tryz.prog 133 #[V, .int .i64 0] w fun e w' => e = .returned (.tuple #[]) ∧ w = w' := by
 go_enter Tryz.func133, Tryz.ntmps133
 go_wp2_with fail
 go_loop [1, 4] (fun v1 v4 => v1 = .int .i64 0) (fun _ _ => 0)
 case atStart => rfl
 case round =>
  subst hrel
  go_wp2_with fail
  go_end0
  exact ⟨rfl, rfl⟩
set_option maxRecDepth 100000 in
set_option maxHeartbeats 2000000 in
theorem up1_any (B gh gr c LB : Nat) (a b : Hd) (w : World) (h : HeapAt w B gh gr c [a, b]) (ha : HdOk w LB a) (hb : HdOk w LB b) (hL : LB ≤ w.heap.size) :
 Calls Tryz.prog 133 #[hpV gh, .int .i64 1] w fun e w' => e = .returned (.tuple #[]) ∧ Two a b B gh gr c w w' := by
 have HLess := kp (less_ok B gh gr c LB a b w h ha hb hL)
 have HSw := kp swap2_any
 have Hh := kp h
 obtain ⟨c0, f0⟩ := h.box.one
 have e2 := fun fuel => run_less fuel gh _ w c0
 have HQ := kp (show ∀ w', Two a b B gh gr c w w' → (Ending.returned (.tuple #[]) = Ending.returned (.tuple #[]) ∧ Two a b B gh gr c w w') from fun w' h => ⟨rfl, h⟩)
 clear h ha hb
 go_enter Tryz.func133, Tryz.ntmps133
 go_wp2_with fail
 go_loopw [1, 4] (fun v1 v4 wr => (v1 = .int .i64 1 ∧ wr = w) ∨ (v1 = .int .i64 0 ∧ Two a b B gh gr c w wr)) (fun v1 _ _ => (intOf v1).toNat)
 case atStart => exact .inl ⟨rfl, rfl⟩
 case round =>
  rcases hrel with ⟨rfl, rfl⟩ | ⟨rfl, htwo⟩
  ·go_wp2_with fail
   refine HLess.out.mono ?_
   rintro e w1 ⟨r, rfl, hr, hb1⟩
   have Hr := kp hr
   have Hh1 := kp (Hh.out.below hb1)
   have c1 := cell_keep hb1 c0
   have e3 := fun fuel => run_swap fuel gh _ w1 c1
   have HSw1 := kp (HSw.out B gh gr c a b w1 Hh1.out)
   have Hb1 := kp hb1
   clear hr hb1 HLess
   rcases r with _ | _
   ·have hn : ¬ ltP b a := fun h => by have := Hr.out.2 h; cases this
    have Htw := kp (show Two a b B gh gr c wr w1 from ⟨a, b, .inl ⟨rfl, rfl⟩, Hh1.out, hn, Turn.below Hb1.out⟩)
    go_wp2_with fail
    go_end0
    exact ⟨rfl, Htw.out⟩
   ·have hn : ¬ ltP a b := ltP_asymm (Hr.out.1 rfl)
    go_wp2_with fail
    refine HSw1.out.mono ?_
    rintro e w2 ⟨rfl, hh2, ht2⟩
    have Htw := kp (show Two a b B gh gr c wr w2 from ⟨b, a, .inr ⟨rfl, rfl⟩, hh2, hn, (Turn.below Hb1.out).trans ht2⟩)
    clear hh2 ht2
    go_wp2_with fail
    exact ⟨.inr ⟨rfl, Htw.out⟩, by simp [intOf]⟩
  ·have Htw := kp htwo
   clear htwo
   go_wp2_with fail
   go_end0
   exact ⟨rfl, Htw.out⟩
set_option maxRecDepth 100000 in
set_option maxHeartbeats 1000000 in
theorem down1_any (V : Value) (n : Nat) (hn : n ≤ 1) (w : World) : Calls Tryz.prog 134 #[V, .int .i64 0, .int .i64 (n : Int)] w fun e w' => e = .returned (.bool false) ∧ w = w' := by
 have h1 : (n : Int) ≤ 1 := by omega
 go_enter Tryz.func134, Tryz.ntmps134
 go_wp2_with fail
 go_loop [7] (fun v7 => v7 = .int .i64 0) (fun _ => 0)
 case atStart => rfl
 case round =>
  subst hrel
  go_wp2_with fail
  go_ret
  exact ⟨rfl, rfl⟩
def DownRet (a b : Hd) (B gh gr c : Nat) (w : World) (e : Ending) (w' : World) : Prop := ∃ r : Bool, e = .returned (.bool r) ∧ Two a b B gh gr c w w'
set_option maxRecDepth 100000 in
set_option maxHeartbeats 2000000 in
theorem down2_any (B gh gr c LB : Nat) (a b : Hd) (w : World) (h : HeapAt w B gh gr c [a, b]) (ha : HdOk w LB a) (hb : HdOk w LB b) (hL : LB ≤ w.heap.size) :
 Calls Tryz.prog 134 #[hpV gh, .int .i64 0, .int .i64 2] w (DownRet a b B gh gr c w) := by
 have HLess := kp (less_ok B gh gr c LB a b w h ha hb hL)
 have HSw := kp swap2_any
 have Hh := kp h
 obtain ⟨c0, f0⟩ := h.box.one
 have e2 := fun fuel => run_less fuel gh _ w c0
 have HQ := kp (show ∀ (r : Bool) w', Two a b B gh gr c w w' → DownRet a b B gh gr c w (.returned (.bool r)) w' from fun r w' h => ⟨r, rfl, h⟩)
 generalize hQ : DownRet a b B gh gr c w = Q at *
 clear h ha hb hQ
 go_enter Tryz.func134, Tryz.ntmps134
 go_wp2_with fail
 go_loopw [7] (fun v7 wr => (v7 = .int .i64 0 ∧ wr = w) ∨ (v7 = .int .i64 1 ∧ Two a b B gh gr c w wr)) (fun v7 _ => 1 - (intOf v7).toNat)
 case atStart => exact .inl ⟨rfl, rfl⟩
 case round =>
  rcases hrel with ⟨rfl, rfl⟩ | ⟨rfl, htwo⟩
  ·go_wp2_with fail
   refine HLess.out.mono ?_
   rintro e w1 ⟨r, rfl, hr, hb1⟩
   have Hr := kp hr
   have Hh1 := kp (Hh.out.below hb1)
   have c1 := cell_keep hb1 c0
   have e3 := fun fuel => run_swap fuel gh _ w1 c1
   have HSw1 := kp (HSw.out B gh gr c a b w1 Hh1.out)
   have Hb1 := kp hb1
   clear hr hb1 HLess
   rcases r with _ | _
   ·have hn : ¬ ltP b a := fun h => by have := Hr.out.2 h; cases this
    have Htw := kp (show Two a b B gh gr c wr w1 from ⟨a, b, .inl ⟨rfl, rfl⟩, Hh1.out, hn, Turn.below Hb1.out⟩)
    go_wp2_with fail
    exact HQ.out _ _ Htw.out
   ·have hn : ¬ ltP a b := ltP_asymm (Hr.out.1 rfl)
    go_wp2_with fail
    refine HSw1.out.mono ?_
    rintro e w2 ⟨rfl, hh2, ht2⟩
    have Htw := kp (show Two a b B gh gr c wr w2 from ⟨b, a, .inr ⟨rfl, rfl⟩, hh2, hn, (Turn.below Hb1.out).trans ht2⟩)
    clear hh2 ht2
    go_wp2_with fail
    exact ⟨.inr ⟨rfl, Htw.out⟩, by simp [intOf]⟩
  ·have Htw := kp htwo
   clear htwo
   go_wp2_with fail
   exact HQ.out _ _ Htw.out
set_option maxRecDepth 100000 in
set_option maxHeartbeats 1000000 in
theorem fix1_any (B gh gr c : Nat) (a : Hd) (w : World) (h : HeapAt w B gh gr c [a]) : Calls Tryz.prog 115 #[hpV gh, .int .i64 0] w fun e w' => e = .returned (.tuple #[]) ∧ w = w' := by
 obtain ⟨c0, f0⟩ := h.box.one
 have e1 := fun fuel => run_len fuel gh _ w c0
 have HL := kp (hlen_any (some ⟨gr, 0, none⟩) 1 c w)
 have HD := kp (down1_any (hpV gh) 1 (by omega) w)
 have HU := kp (up0_any (hpV gh) w)
 go_enter Tryz.func115, Tryz.ntmps115
 go_wp2_with fail
 refine HL.out.mono ?_
 rintro e w1 ⟨rfl, rfl⟩
 go_wp2_with fail
 refine HD.out.mono ?_
 rintro e w1 ⟨rfl, rfl⟩
 go_wp2_with fail
 refine HU.out.mono ?_
 rintro e w1 ⟨rfl, rfl⟩
 go_wp2_with fail
 go_end0
 exact ⟨rfl, rfl⟩
def FixRet (a b : Hd) (B gh gr c : Nat) (w : World) (e : Ending) (w' : World) : Prop := e = .returned (.tuple #[]) ∧ Two a b B gh gr c w w'
set_option maxRecDepth 100000 in
set_option maxHeartbeats 1000000 in
theorem fix2_any (B gh gr c LB : Nat) (a b : Hd) (w : World) (h : HeapAt w B gh gr c [a, b]) (ha : HdOk w LB a) (hb : HdOk w LB b) (hL : LB ≤ w.heap.size) : Calls Tryz.prog 115 #[hpV gh, .int .i64 0] w (FixRet a b B gh gr c w) := by
 obtain ⟨c0, f0⟩ := h.box.one
 have e1 := fun fuel => run_len fuel gh _ w c0
 have HL := kp (hlen_any (some ⟨gr, 0, none⟩) 2 c w)
 have HD := kp (down2_any B gh gr c LB a b w h ha hb hL)
 have HU := kp (up0_any (hpV gh))
 have HQ := kp (show ∀ w', Two a b B gh gr c w w' → FixRet a b B gh gr c w (.returned (.tuple #[])) w' from fun w' h => ⟨rfl, h⟩)
 generalize hQ : FixRet a b B gh gr c w = Q at *
 clear h ha hb hQ
 go_enter Tryz.func115, Tryz.ntmps115
 go_wp2_with fail
 refine HL.out.mono ?_
 rintro e w1 ⟨rfl, rfl⟩
 go_wp2_with fail
 refine HD.out.mono ?_
 rintro e w1 ⟨r, rfl, htwo⟩
 have Htw := kp htwo
 clear htwo HD HL
 rcases r with _ | _
 ·go_wp2_with fail
  refine (HU.out w1).mono ?_
  rintro e w2 ⟨rfl, rfl⟩
  go_wp2_with fail
  go_end0
  exact HQ.out _ Htw.out
 ·go_wp2_with fail
  go_end0
  exact HQ.out _ Htw.out
theorem own_shrink {w : World} {B g n c sz m : Nat} {e : TypeId} {xs ys : List Value} (h : w.ownsRow B e sz (.slice (some ⟨g, 0, none⟩) n c) n (xs ++ ys)) (hx : xs.length = m * sz) (hm : m ≤ n) : w.ownsRow B e sz (.slice (some ⟨g, 0, none⟩) m c) m xs := by
 refine ⟨hx, ?_⟩
 rcases h.2 with ⟨h0, _⟩ | ⟨g', cap, cur, hv, hB, hh, hnc, hcm, hcs, ht⟩
 ·cases h0
 ·injection hv with hA _ hc
  injection hA with hA
  injection hA with hg _ _
  subst hg hc
  refine .inr ⟨g, c, cur, rfl, hB, hh, by omega, hcm, hcs, ?_⟩
  have h1 : m * sz ≤ n * sz := Nat.mul_le_mul_right _ hm
  have h2 : cur.toList.take (m * sz) = (cur.toList.take (n * sz)).take (m * sz) := by rw [List.take_take, Nat.min_eq_left h1]
  rw [h2, ht, ← hx, List.take_left]
def PopRet (hs : List Hd) (B gh gr c : Nat) (w : World) (e : Ending) (w' : World) : Prop := ∃ v, e = .returned v ∧ HeapAt w' B gh gr c hs ∧ Turn (fun k => k = gh) w w'
set_option maxRecDepth 100000 in
set_option maxHeartbeats 2000000 in
theorem mpop_any (B gh gr c : Nat) (hs : List Hd) (x : Hd) (hl : hs.length ≤ 1) (hc : hs.length + 1 ≤ c) (hcm : c ≤ 9223372036854775807) (w : World) (h : HeapAt w B gh gr c (hs ++ [x])) : Calls Tryz.prog 173 #[.pointer (some ⟨gh, 0, none⟩)] w (PopRet hs B gh gr c w) := by
 have hown := h.own
 have hbx := h.box
 obtain ⟨n, hn⟩ : ∃ n, hs.length = n := ⟨_, rfl⟩
 have hlen : (hs ++ [x]).length = n + 1 := by simp [hn]
 rw [hlen] at hown hbx
 have hfl : (hs ++ [x]).flatMap headV = hs.flatMap headV ++ headV x := by rw [List.flatMap_append]; simp
 have hfx : (hs.flatMap headV).length = n * 2 := by rw [flat_len headV_len, hn]
 rw [hfl] at hown
 obtain ⟨c0, f0⟩ := hbx.one
 obtain ⟨c1, f1⟩ := own_cells hown (i := n * 2) (v := .slice x.A x.fs.length x.c) (by rw [List.getElem?_append_right (by rw [hfx]; exact Nat.le_refl _), hfx, Nat.sub_self]; rfl)
 obtain ⟨c2, f2⟩ := own_cells hown (i := n * 2 + 1) (v := .int .i64 (x.no : Int)) (by rw [List.getElem?_append_right (by rw [hfx]; omega), hfx, show n * 2 + 1 - n * 2 = 1 by omega]; rfl)
 have hgl : gh < w.heap.size := hbx.lt
 have Hown := kp hown
 have Hbx := kp hbx
 have Hne := kp h.ne
 have Hfx := kp hfx
 have HQ := kp (show ∀ v w', HeapAt w' B gh gr c hs → Turn (fun k => k = gh) w w' → PopRet hs B gh gr c w (.returned v) w' from fun v w' h1 h2 => ⟨v, rfl, h1, h2⟩)
 have Hn := kp hn
 generalize hQ : PopRet hs B gh gr c w = Q at *
 have hnc : (n : Int) + 1 ≤ (c : Int) := by omega
 have hn1 : n ≤ 1 := by omega
 clear h hown hbx hfl hfx hlen hQ hn hl
 have h0c := (Below.refl w.heap.size w).alloc (Nat.le_refl _) (.cells #[.slice x.A x.fs.length x.c, .int .i64 (x.no : Int)] 203)
 have H0c := kp h0c
 have HBx := kp (Box.new w 203 #[.slice x.A x.fs.length x.c, .int .i64 (x.no : Int)])
 clear h0c
 go_enter Tryz.func173, Tryz.ntmps173
 go_upto_region 3 with fail
 have k0 := cell_keep H0c.out c0
 have kf : (w.alloc (.cells #[.slice x.A x.fs.length x.c, .int .i64 (x.no : Int)] 203)).frozen? ⟨gh, 0, none⟩ = false := by rw [frozen_below H0c.out _ _ hgl]; exact f0
 have Hown2 := kp (own_below Hown.out H0c.out)
 have Hbx2 := kp (Hbx.out.under H0c.out)
 clear c0 c1 c2 f0 f1 f2
 generalize hW2 : w.alloc (.cells #[.slice x.A x.fs.length x.c, .int .i64 (x.no : Int)] 203) = W2 at *
 clear hW2
 have hq0 : decide ((c : Int) = (n : Int)) = false := by simp; omega
 go_upto_region 4 with fail
 have HBx2 := kp (HBx.out.far (p := ⟨gh, 0, none⟩) (by simp; omega) (.slice (some ⟨gr, 0, none⟩) n c))
 have Hf := kp (HQ.out (.iface 203 (.agg #[.slice x.A x.fs.length x.c, .int .i64 (x.no : Int)])) (W2.setCell ⟨gh, 0, none⟩ (.slice (some ⟨gr, 0, none⟩) n c)) ⟨by rw [Hn.out]; exact Hbx2.out.set 0 _, by rw [Hn.out]; exact (own_shrink Hown2.out Hfx.out (by omega)).kept (grownBy_setCell' W2 gh _) (.inr (fun e => by (have e2 : gr = gh := by injection e); have := Hne.out; omega)), Hne.out⟩ ((Turn.below H0c.out).trans (Turn.set (p := fun k => k = gh) W2 ⟨gh, 0, none⟩ _ rfl)))
 obtain ⟨d0, d1, _, _⟩ := HBx2.out.two
 clear k0 kf
 go_wp2_with fail
 exact Hf.out
set_option maxRecDepth 100000 in
set_option maxHeartbeats 1000000 in
theorem pop1_any (B gh gr c : Nat) (a : Hd) (w : World) (hc : 1 ≤ c) (hcm : c ≤ 9223372036854775807) (h : HeapAt w B gh gr c [a]) : Calls Tryz.prog 114 #[hpV gh] w fun e w' => ∃ v, e = .returned v ∧ HeapAt w' B gh gr c [] ∧ Turn (fun k => k = gh ∨ k = gr) w w' := by
 obtain ⟨c0, f0⟩ := h.box.one
 have e1 := fun fuel => run_len fuel gh _ w c0
 have e2 := fun fuel => run_swap fuel gh _ w c0
 have e3 := fun fuel w => run_pop fuel gh w
 have HL := kp (hlen_any (some ⟨gr, 0, none⟩) 1 c w)
 have HSw := kp (swap1_any B gh gr c a w h)
 have HD := kp (down1_any (hpV gh) 0 (by omega))
 have HP := kp (fun w' (h' : HeapAt w' B gh gr c [a]) => mpop_any B gh gr c [] a (by simp) (by simpa using hc) hcm w' h')
 go_enter Tryz.func114, Tryz.ntmps114
 go_wp2_with fail
 refine HL.out.mono ?_
 rintro e w1 ⟨rfl, rfl⟩
 go_wp2_with fail
 refine HSw.out.mono ?_
 rintro e w1 ⟨rfl, hh1, ht1⟩
 have Hh1 := kp hh1
 have Ht1 := kp ht1
 clear hh1 ht1
 go_wp2_with fail
 refine (HD.out w1).mono ?_
 rintro e w2 ⟨rfl, rfl⟩
 go_wp2_with fail
 refine (HP.out w1 Hh1.out).mono ?_
 rintro e w2 ⟨v, rfl, hh2, ht2⟩
 have Hh2 := kp hh2
 have Ht2 := kp ht2
 clear hh2 ht2
 go_wp2_with fail
 go_ret
 exact ⟨_, rfl, Hh2.out, (Ht1.out.more (fun k h => .inr h)).trans (Ht2.out.more (fun k h => .inl h))⟩
set_option maxRecDepth 100000 in
set_option maxHeartbeats 1000000 in
theorem pop2_any (B gh gr c : Nat) (a b : Hd) (w : World) (hc : 2 ≤ c) (hcm : c ≤ 9223372036854775807) (h : HeapAt w B gh gr c [a, b]) : Calls Tryz.prog 114 #[hpV gh] w fun e w' => ∃ v, e = .returned v ∧ HeapAt w' B gh gr c [b] ∧ Turn (fun k => k = gh ∨ k = gr) w w' := by
 obtain ⟨c0, f0⟩ := h.box.one
 have e1 := fun fuel => run_len fuel gh _ w c0
 have e2 := fun fuel => run_swap fuel gh _ w c0
 have e3 := fun fuel w => run_pop fuel gh w
 have HL := kp (hlen_any (some ⟨gr, 0, none⟩) 2 c w)
 have HSw := kp (swap2_any B gh gr c a b w h)
 have HD := kp (down1_any (hpV gh) 1 (by omega))
 have HP := kp (fun w' (h' : HeapAt w' B gh gr c [b, a]) => mpop_any B gh gr c [b] a (by simp) (by simpa using hc) hcm w' h')
 go_enter Tryz.func114, Tryz.ntmps114
 go_wp2_with fail
 refine HL.out.mono ?_
 rintro e w1 ⟨rfl, rfl⟩
 go_wp2_with fail
 refine HSw.out.mono ?_
 rintro e w1 ⟨rfl, hh1, ht1⟩
 have Hh1 := kp hh1
 have Ht1 := kp ht1
 clear hh1 ht1
 go_wp2_with fail
 refine (HD.out w1).mono ?_
 rintro e w2 ⟨rfl, rfl⟩
 go_wp2_with fail
 refine (HP.out w1 Hh1.out).mono ?_
 rintro e w2 ⟨v, rfl, hh2, ht2⟩
 have Hh2 := kp hh2
 have Ht2 := kp ht2
 clear hh2 ht2
 go_wp2_with fail
 go_ret
 exact ⟨_, rfl, Hh2.out, (Ht1.out.more (fun k h => .inr h)).trans (Ht2.out.more (fun k h => .inl h))⟩
end Go.Proofs.YthmbgbmcdbdecaaGreat.Tc
