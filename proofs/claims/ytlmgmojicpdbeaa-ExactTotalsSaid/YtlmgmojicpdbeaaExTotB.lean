/- The walk of ExactTotals, two of its eight ways: it returns true and writes nothing that was there. -/
import Derived.Test.YtlmgmojicpdbeaaEx5
import Derived.Test.YtlmgmojicpdbeaaOpen
import Derived.Deep.RegionHeld3
import Derived.Deep.DeepCutAuto
namespace Go.Proofs.Ytlmgmojicpdbeaa.exactTotals
open Go.ChangeShapes Go.WideShapes Go.ChangeAt Go.RowKit Base Ex
set_option linter.unusedVariables false

set_option maxHeartbeats 4000000 in
set_option maxRecDepth 100000 in
theorem way_101 (p n q m x v0 v1 u0 u1 c1 c2 j0 j1 : Int) (ok down : Bool) (w : World) (hdA : decide (n ≤ x) = false) (hdB : decide (0 ≤ p) = true)
    (hN : x < 0 → v0 = p ∧ ∀ w, Calls Try.prog 15 #[.int .i64 n, .int .i64 x] w fun e w' => e = .returned (.tuple #[.int .i64 v1, .bool ok]) ∧ w = w')
    (hP : ¬ x < 0 → v1 = n ∧ ∀ w, Calls Try.prog 15 #[.int .i64 p, .int .i64 x] w fun e w' => e = .returned (.tuple #[.int .i64 v0, .bool ok]) ∧ w = w')
    (hu1 : ok = true → u0 = v0 ∧ u1 = v1) (hu0 : ok = false → u0 = 0 ∧ u1 = 0)
    (hG : ∀ w, Calls Try.prog 23 #[.agg #[.int .i64 p, .int .i64 n], .int .i64 x] w fun e w' => e = .returned (.tuple #[.agg #[.int .i64 u0, .int .i64 u1], .bool ok]) ∧ Below w.heap.size w w')
    (hU : ∀ w, Calls Try.prog 15 #[.int .i64 p, .int .i64 q] w fun e w' => e = .returned (.tuple #[.int .i64 c1, .bool true]) ∧ w = w')
    (hD : ∀ w, Calls Try.prog 15 #[.int .i64 n, .int .i64 m] w fun e w' => e = .returned (.tuple #[.int .i64 c2, .bool down]) ∧ w = w')
    (hJ : ∀ w, Calls Try.prog 24 #[.agg #[.int .i64 p, .int .i64 n], .agg #[.int .i64 q, .int .i64 m]] w fun e w' => e = .returned (.tuple #[.agg #[.int .i64 j0, .int .i64 j1], .bool down]) ∧ Below w.heap.size w w')
    (hj1 : down = true → j0 = c1 ∧ j1 = c2) (hj0 : down = false → j0 = 0 ∧ j1 = 0) :
    Calls Try.prog 5 #[.agg #[.int .i64 p, .int .i64 n], .agg #[.int .i64 q, .int .i64 m], .int .i64 x] w fun e w' => e = .returned (.bool true) ∧ Below w.heap.size w w' := by
  have HN := Lib.hid hN
  have HP := Lib.hid hP
  have HU := Lib.hid hU
  have HD := Lib.hid hD
  have HG := Lib.hid hG
  have HJ := Lib.hid hJ
  have HU1 := Lib.hid hu1
  have HU0 := Lib.hid hu0
  have HJ1 := Lib.hid hj1
  have HJ0 := Lib.hid hj0
  have HdA := Lib.hid hdA
  have HdB := Lib.hid hdB
  clear hN hP hU hD hG hJ hu1 hu0 hj1 hj0 hdA hdB
  go_enter Try.func5, Try.ntmps5
  go_upto_if 20 with fail
  go_cut [8] (fun s8 wc => s8 = .bool ok ∧ Box wc w.heap.size 30 #[.int .i64 p, .int .i64 n] ∧ Box wc (w.heap.size + 1) 30 #[.int .i64 q, .int .i64 m] ∧ Box wc (w.heap.size + 2) 30 #[.int .i64 v0, .int .i64 v1] ∧ Below w.heap.size w wc ∧ wc.heap.size = w.heap.size + 3)
  case first =>
    by_cases hx : x < 0
    · obtain ⟨rfl, hA⟩ := HN.out hx
      have HA := Lib.hid hA
      clear hA
      go_wp2_with fail
      refine (HA.out _).mono ?_
      rintro e w' ⟨rfl, rfl⟩
      go_wp2_with fail
      go_meet
      exact ⟨rfl, ((Box.lay rfl).alloc _).alloc _, (Box.lay (by simp)).alloc _, Box.lay (by simp), (by repeat (first | exact Below.refl _ _ | assumption | refine Below.drew ?_ | (refine Below.alloc ?_ (by simp <;> omega) _) | (refine Below.setCell ?_ (by simp <;> omega) _))), by simp⟩
    · obtain ⟨rfl, hA⟩ := HP.out hx
      have HA := Lib.hid hA
      clear hA
      go_wp2_with fail
      refine (HA.out _).mono ?_
      rintro e w' ⟨rfl, rfl⟩
      go_wp2_with fail
      go_meet
      exact ⟨rfl, ((Box.lay rfl).alloc _).alloc _, (Box.lay (by simp)).alloc _, Box.lay (by simp), (by repeat (first | exact Below.refl _ _ | assumption | refine Below.drew ?_ | (refine Below.alloc ?_ (by simp <;> omega) _) | (refine Below.setCell ?_ (by simp <;> omega) _))), by simp⟩
  case rest =>
    obtain ⟨rfl, a0, a1, a2, hbe, hsz⟩ := hcut
    obtain ⟨c20, c21, f20, f21⟩ := a2.two
    rename_i wa
    go_upto_if 38 with fail
    go_cut [] (fun wc => Box wc w.heap.size 30 #[.int .i64 p, .int .i64 n] ∧ Box wc (w.heap.size + 1) 30 #[.int .i64 q, .int .i64 m] ∧ Box wc (w.heap.size + 2) 30 #[.int .i64 u0, .int .i64 u1] ∧ Below w.heap.size w wc ∧ wc.heap.size = w.heap.size + 3)
    case first =>
      cases ok
      · obtain ⟨rfl, rfl⟩ := HU0.out rfl
        go_wp2_with fail
        go_meet
        exact ⟨(a0.far (by simp <;> omega) _).far (by simp <;> omega) _, (a1.far (by simp <;> omega) _).far (by simp <;> omega) _, (a2.set 0 _).set 1 _, (hbe.setCell (by simp <;> omega) _).setCell (by simp <;> omega) _, by simpa [World.setCell] using hsz⟩
      · obtain ⟨rfl, rfl⟩ := HU1.out rfl
        go_wp2_with fail
        go_meet
        exact ⟨a0, a1, a2, hbe, hsz⟩
    case rest =>
      clear c20 c21 f20 f21 a0 a1 a2 hbe hsz HU0 HU1 HN HP
      obtain ⟨a0, a1, a2, hbe, hsz⟩ := hcut
      obtain ⟨e0, e1, e2, e3⟩ := a0.two
      obtain ⟨f0, f1, f2, f3⟩ := a1.two
      go_wp2_with fail
      refine (HG.out _).mono ?_
      rintro e w1 ⟨rfl, hb1⟩
      have b0 := a0.under hb1
      have b1 := a1.under hb1
      have b2 := a2.under hb1
      have hs1 : w.heap.size + 3 ≤ w1.heap.size := by have := hb1.size; have h2 := hsz; omega
      have s2 : w.heap.size < w1.heap.size := by omega
      have s3 : w.heap.size + 1 < w1.heap.size := by omega
      have s4 : w.heap.size + 2 < w1.heap.size := by omega
      have hbf := hbe.trans (hb1.mono hbe.size)
      clear a0 a1 a2 hbe hsz hb1 e0 e1 e2 e3 f0 f1 f2 f3 HG
      obtain ⟨e0, e1, e2, e3⟩ := b0.two
      obtain ⟨f0, f1, f2, f3⟩ := b1.two
      go_wp2_with fail
      refine (HU.out _).mono ?_
      rintro e w' ⟨rfl, rfl⟩
      go_wp2_with fail
      refine (HD.out _).mono ?_
      rintro e w' ⟨rfl, rfl⟩
      go_upto_if 70 with fail
      go_cut [] (fun wc => Box wc w.heap.size 30 #[.int .i64 p, .int .i64 n] ∧ Box wc (w.heap.size + 1) 30 #[.int .i64 q, .int .i64 m] ∧ Box wc (w.heap.size + 2) 30 #[.int .i64 u0, .int .i64 u1] ∧ Box wc w1.heap.size 30 #[.int .i64 u0, .int .i64 u1] ∧ Box wc (w1.heap.size + 1) 30 #[.int .i64 j0, .int .i64 j1] ∧ Below w.heap.size w wc ∧ wc.heap.size = w1.heap.size + 2)
      case first =>
        cases down
        · obtain ⟨rfl, rfl⟩ := HJ0.out rfl
          go_wp2_with fail
          go_meet
          exact ⟨(b0.alloc _).alloc _, (b1.alloc _).alloc _, (b2.alloc _).alloc _, (Box.lay rfl).alloc _, Box.lay (by simp), (hbf.alloc hbf.size _).alloc (by simp; omega) _, by simp⟩
        · obtain ⟨rfl, rfl⟩ := HJ1.out rfl
          go_wp2_with fail
          go_meet
          exact ⟨(b0.alloc _).alloc _, (b1.alloc _).alloc _, (b2.alloc _).alloc _, (Box.lay rfl).alloc _, Box.lay (by simp), (hbf.alloc hbf.size _).alloc (by simp; omega) _, by simp⟩
      case rest =>
        clear b0 b1 b2 hbf HD HU HJ1 HJ0 e0 e1 e2 e3 f0 f1 f2 f3 hs1 s2 s3 s4
        obtain ⟨b0, b1, b2, b3, b4, hbf, hsz⟩ := hcut
        obtain ⟨e0, e1, e2, e3⟩ := b0.two
        obtain ⟨f0, f1, f2, f3⟩ := b1.two
        go_wp2_with fail
        refine (HJ.out _).mono ?_
        rintro e w2 ⟨rfl, hb2⟩
        have d0 := b0.under hb2
        have d2 := b2.under hb2
        have d3 := b3.under hb2
        have d4 := b4.under hb2
        have hbh := hbf.trans (hb2.mono hbf.size)
        clear b0 b1 b2 b3 b4 hbf hsz hb2 e0 e1 e2 e3 f0 f1 f2 f3 HJ
        go_wp2_with fail
        obtain ⟨e0, e1, _, _⟩ := (d0.alloc (.cells #[.int .i64 j0, .int .i64 j1] 30)).two
        obtain ⟨f0, f1, _, _⟩ := (d2.alloc (.cells #[.int .i64 j0, .int .i64 j1] 30)).two
        obtain ⟨i0, i1, _, _⟩ := (d3.alloc (.cells #[.int .i64 j0, .int .i64 j1] 30)).two
        obtain ⟨k0, k1, _, _⟩ := (d4.alloc (.cells #[.int .i64 j0, .int .i64 j1] 30)).two
        obtain ⟨y0, y1, _, _⟩ := (Box.new w2 30 #[.int .i64 j0, .int .i64 j1]).two
        have hB3 := hbh.alloc hbh.size (.cells #[.int .i64 j0, .int .i64 j1] 30)
        clear d0 d2 d3 d4 hbh
        generalize hW2 : w2.alloc (.cells #[.int .i64 j0, .int .i64 j1] 30) = W2 at *
        clear hW2
        have hdA := HdA.out
        have hdB := HdB.out
        clear HdA HdB
        refine wp_region_noPanic ?_
        refine wp_region_held_drew (S := fun w' => w'.cell? ⟨w.heap.size, 0, none⟩ = some (.int .i64 p) ∧ w'.cell? ⟨w.heap.size, 1, none⟩ = some (.int .i64 n) ∧ w'.cell? ⟨(w.heap.size + 2), 0, none⟩ = some (.int .i64 u0) ∧ w'.cell? ⟨(w.heap.size + 2), 1, none⟩ = some (.int .i64 u1) ∧ w'.cell? ⟨w1.heap.size, 0, none⟩ = some (.int .i64 u0) ∧ w'.cell? ⟨w1.heap.size, 1, none⟩ = some (.int .i64 u1) ∧ w'.cell? ⟨(w1.heap.size + 1), 0, none⟩ = some (.int .i64 j0) ∧ w'.cell? ⟨(w1.heap.size + 1), 1, none⟩ = some (.int .i64 j1) ∧ w'.cell? ⟨w2.heap.size, 0, none⟩ = some (.int .i64 j0) ∧ w'.cell? ⟨w2.heap.size, 1, none⟩ = some (.int .i64 j1) ∧ Below w.heap.size w w') (by kernel_rfl) ⟨e0, e1, f0, f1, i0, i1, k0, k1, y0, y1, hB3.drew⟩ (fun hHeld => ?_)
        refine wpAnyH_take (i := 0) (oi := ?o0) (v := ?v0) ?a0 (by kernel_rfl) (by kernel_rfl) (by kernel_rfl) (fun _ _ _ h => h) ?b0 hHeld ?c0
        case a0 => (simp only [List.getElem?_toArray, List.getElem?_cons_zero]; exact rfl)
        case b0 => (refine Or.inl ⟨by rfl, ?_⟩; intro w hSw; (try dsimp only at hSw); go_simp; try exact rfl)
        try simp only [Act.put, List.setIfInBounds_toArray, List.set_cons_zero, List.set_cons_succ]
        refine wpAnyH_take (i := 1) (oi := ?o1) (v := ?v1) ?a1 (by kernel_rfl) (by kernel_rfl) (by kernel_rfl) (fun _ _ _ h => h) ?b1 hHeld ?c1
        case a1 => (simp only [List.getElem?_toArray, List.getElem?_cons_succ, List.getElem?_cons_zero]; exact rfl)
        case b1 => (refine Or.inl ⟨by rfl, ?_⟩; intro w hSw; (try dsimp only at hSw); go_simp; try exact rfl)
        try simp only [Act.put, List.setIfInBounds_toArray, List.set_cons_zero, List.set_cons_succ]
        refine wpAnyH_take (i := 2) (oi := ?o2) (v := ?v2) ?a2 (by kernel_rfl) (by kernel_rfl) (by kernel_rfl) (fun _ _ _ h => h) ?b2 hHeld ?c2
        case a2 => (simp only [List.getElem?_toArray, List.getElem?_cons_succ, List.getElem?_cons_zero]; exact rfl)
        case b2 => (refine Or.inl ⟨by rfl, ?_⟩; intro w hSw; (try dsimp only at hSw); go_simp; try exact rfl)
        try simp only [Act.put, List.setIfInBounds_toArray, List.set_cons_zero, List.set_cons_succ]
        refine wpAnyH_take (i := 3) (oi := ?o3) (v := ?v3) ?a3 (by kernel_rfl) (by kernel_rfl) (by kernel_rfl) (fun _ _ _ h => h) ?b3 hHeld ?c3
        case a3 => (simp only [List.getElem?_toArray, List.getElem?_cons_succ, List.getElem?_cons_zero]; exact rfl)
        case b3 => (refine Or.inl ⟨by rfl, ?_⟩; intro w hSw; (try dsimp only at hSw); go_simp; try exact rfl)
        try simp only [Act.put, List.setIfInBounds_toArray, List.set_cons_zero, List.set_cons_succ]
        refine wpAnyH_take (i := 4) (oi := ?o4) (v := ?v4) ?a4 (by kernel_rfl) (by kernel_rfl) (by kernel_rfl) (fun _ _ _ h => h) ?b4 hHeld ?c4
        case a4 => (simp only [List.getElem?_toArray, List.getElem?_cons_succ, List.getElem?_cons_zero]; exact rfl)
        case b4 => (refine Or.inl ⟨by rfl, ?_⟩; intro w hSw; (try dsimp only at hSw); go_simp; try exact rfl)
        try simp only [Act.put, List.setIfInBounds_toArray, List.set_cons_zero, List.set_cons_succ]
        refine wpAnyH_take (i := 5) (oi := ?o5) (v := ?v5) ?a5 (by kernel_rfl) (by kernel_rfl) (by kernel_rfl) (fun _ _ _ h => h) ?b5 hHeld ?c5
        case a5 => (simp only [List.getElem?_toArray, List.getElem?_cons_succ, List.getElem?_cons_zero]; exact rfl)
        case b5 => (refine Or.inl ⟨by rfl, ?_⟩; intro w hSw; (try dsimp only at hSw); go_simp; try exact rfl)
        try simp only [Act.put, List.setIfInBounds_toArray, List.set_cons_zero, List.set_cons_succ]
        refine wpAnyH_take (i := 6) (oi := ?o6) (v := ?v6) ?a6 (by kernel_rfl) (by kernel_rfl) (by kernel_rfl) (fun _ _ _ h => h) ?b6 hHeld ?c6
        case a6 => (simp only [List.getElem?_toArray, List.getElem?_cons_succ, List.getElem?_cons_zero]; exact rfl)
        case b6 => (refine Or.inl ⟨by rfl, ?_⟩; intro w hSw; (try dsimp only at hSw); go_simp; try exact rfl)
        try simp only [Act.put, List.setIfInBounds_toArray, List.set_cons_zero, List.set_cons_succ]
        refine wpAnyH_take (i := 7) (oi := ?o7) (v := ?v7) ?a7 (by kernel_rfl) (by kernel_rfl) (by kernel_rfl) (fun _ _ _ h => h) ?b7 hHeld ?c7
        case a7 => (simp only [List.getElem?_toArray, List.getElem?_cons_succ, List.getElem?_cons_zero]; exact rfl)
        case b7 => (refine Or.inl ⟨by rfl, ?_⟩; intro w hSw; (try dsimp only at hSw); go_simp; try exact rfl)
        try simp only [Act.put, List.setIfInBounds_toArray, List.set_cons_zero, List.set_cons_succ]
        refine wpAnyH_take (i := 8) (oi := ?o8) (v := ?v8) ?a8 (by kernel_rfl) (by kernel_rfl) (by kernel_rfl) (fun _ _ _ h => h) ?b8 hHeld ?c8
        case a8 => (simp only [List.getElem?_toArray, List.getElem?_cons_succ, List.getElem?_cons_zero]; exact rfl)
        case b8 => (refine Or.inl ⟨by rfl, ?_⟩; intro w hSw; (try dsimp only at hSw); go_simp; try exact rfl)
        try simp only [Act.put, List.setIfInBounds_toArray, List.set_cons_zero, List.set_cons_succ]
        refine wpAnyH_take (i := 9) (oi := ?o9) (v := ?v9) ?a9 (by kernel_rfl) (by kernel_rfl) (by kernel_rfl) (fun _ _ _ h => h) ?b9 hHeld ?c9
        case a9 => (simp only [List.getElem?_toArray, List.getElem?_cons_succ, List.getElem?_cons_zero]; exact rfl)
        case b9 => (refine Or.inl ⟨by rfl, ?_⟩; intro w hSw; (try dsimp only at hSw); go_simp; try exact rfl)
        try simp only [Act.put, List.setIfInBounds_toArray, List.set_cons_zero, List.set_cons_succ]
        refine wpAnyH_take (i := 10) (oi := ?o10) (v := ?v10) ?a10 (by kernel_rfl) (by kernel_rfl) (by kernel_rfl) (fun _ _ _ h => h) ?b10 hHeld ?c10
        case a10 => (simp only [List.getElem?_toArray, List.getElem?_cons_succ, List.getElem?_cons_zero]; exact rfl)
        case b10 => (refine Or.inl ⟨by rfl, ?_⟩; intro w hSw; (try dsimp only at hSw); go_simp; try exact rfl)
        try simp only [Act.put, List.setIfInBounds_toArray, List.set_cons_zero, List.set_cons_succ]
        refine wpAnyH_take (i := 11) (oi := ?o11) (v := ?v11) ?a11 (by kernel_rfl) (by kernel_rfl) (by kernel_rfl) (fun _ _ _ h => h) ?b11 hHeld ?c11
        case a11 => (simp only [List.getElem?_toArray, List.getElem?_cons_succ, List.getElem?_cons_zero]; exact rfl)
        case b11 => (refine Or.inl ⟨by rfl, ?_⟩; intro w hSw; (try dsimp only at hSw); go_simp; try exact rfl)
        try simp only [Act.put, List.setIfInBounds_toArray, List.set_cons_zero, List.set_cons_succ]
        refine wpAnyH_take (i := 12) (oi := ?o12) (v := ?v12) ?a12 (by kernel_rfl) (by kernel_rfl) (by kernel_rfl) (fun _ _ _ h => h) ?b12 hHeld ?c12
        case a12 => (simp only [List.getElem?_toArray, List.getElem?_cons_succ, List.getElem?_cons_zero]; exact rfl)
        case b12 => (refine Or.inl ⟨by rfl, ?_⟩; intro w hSw; (try dsimp only at hSw); go_simp; try exact rfl)
        try simp only [Act.put, List.setIfInBounds_toArray, List.set_cons_zero, List.set_cons_succ]
        refine wpAnyH_take (i := 13) (oi := ?o13) (v := ?v13) ?a13 (by kernel_rfl) (by kernel_rfl) (by kernel_rfl) (fun _ _ _ h => h) ?b13 hHeld ?c13
        case a13 => (simp only [List.getElem?_toArray, List.getElem?_cons_succ, List.getElem?_cons_zero]; exact rfl)
        case b13 => (refine Or.inl ⟨by rfl, ?_⟩; intro w hSw; (try dsimp only at hSw); go_simp; try exact rfl)
        try simp only [Act.put, List.setIfInBounds_toArray, List.set_cons_zero, List.set_cons_succ]
        refine wpAnyH_take (i := 14) (oi := ?o14) (v := ?v14) ?a14 (by kernel_rfl) (by kernel_rfl) (by kernel_rfl) (fun _ _ _ h => h) ?b14 hHeld ?c14
        case a14 => (simp only [List.getElem?_toArray, List.getElem?_cons_succ, List.getElem?_cons_zero]; exact rfl)
        case b14 => (refine Or.inl ⟨by rfl, ?_⟩; intro w hSw; (try dsimp only at hSw); go_simp; try exact rfl)
        try simp only [Act.put, List.setIfInBounds_toArray, List.set_cons_zero, List.set_cons_succ]
        refine wpAnyH_take (i := 15) (oi := ?o15) (v := ?v15) ?a15 (by kernel_rfl) (by kernel_rfl) (by kernel_rfl) (fun _ _ _ h => h) ?b15 hHeld ?c15
        case a15 => (simp only [List.getElem?_toArray, List.getElem?_cons_succ, List.getElem?_cons_zero]; exact rfl)
        case b15 => (refine Or.inl ⟨by rfl, ?_⟩; intro w hSw; (try dsimp only at hSw); go_simp; try exact rfl)
        try simp only [Act.put, List.setIfInBounds_toArray, List.set_cons_zero, List.set_cons_succ]
        refine wpAnyH_take (i := 16) (oi := ?o16) (v := ?v16) ?a16 (by kernel_rfl) (by kernel_rfl) (by kernel_rfl) (fun _ _ _ h => h) ?b16 hHeld ?c16
        case a16 => (simp only [List.getElem?_toArray, List.getElem?_cons_succ, List.getElem?_cons_zero]; exact rfl)
        case b16 => (refine Or.inl ⟨by rfl, ?_⟩; intro w hSw; (try dsimp only at hSw); go_simp; try exact rfl)
        try simp only [Act.put, List.setIfInBounds_toArray, List.set_cons_zero, List.set_cons_succ]
        refine wpAnyH_take (i := 17) (oi := ?o17) (v := ?v17) ?a17 (by kernel_rfl) (by kernel_rfl) (by kernel_rfl) (fun _ _ _ h => h) ?b17 hHeld ?c17
        case a17 => (simp only [List.getElem?_toArray, List.getElem?_cons_succ, List.getElem?_cons_zero]; exact rfl)
        case b17 => (refine Or.inl ⟨by rfl, ?_⟩; intro w hSw; (try dsimp only at hSw); go_simp; try exact rfl)
        try simp only [Act.put, List.setIfInBounds_toArray, List.set_cons_zero, List.set_cons_succ]
        refine wpAnyH_take (i := 18) (oi := ?o18) (v := ?v18) ?a18 (by kernel_rfl) (by kernel_rfl) (by kernel_rfl) (fun _ _ _ h => h) ?b18 hHeld ?c18
        case a18 => (simp only [List.getElem?_toArray, List.getElem?_cons_succ, List.getElem?_cons_zero]; exact rfl)
        case b18 => (refine Or.inl ⟨by rfl, ?_⟩; intro w hSw; (try dsimp only at hSw); go_simp; try exact rfl)
        try simp only [Act.put, List.setIfInBounds_toArray, List.set_cons_zero, List.set_cons_succ]
        refine wpAnyH_take (i := 19) (oi := ?o19) (v := ?v19) ?a19 (by kernel_rfl) (by kernel_rfl) (by kernel_rfl) (fun _ _ _ h => h) ?b19 hHeld ?c19
        case a19 => (simp only [List.getElem?_toArray, List.getElem?_cons_succ, List.getElem?_cons_zero]; exact rfl)
        case b19 => (refine Or.inl ⟨by rfl, ?_⟩; intro w hSw; (try dsimp only at hSw); go_simp; try exact rfl)
        try simp only [Act.put, List.setIfInBounds_toArray, List.set_cons_zero, List.set_cons_succ]
        refine wpAnyH_take (i := 20) (oi := ?o20) (v := ?v20) ?a20 (by kernel_rfl) (by kernel_rfl) (by kernel_rfl) (fun _ _ _ h => h) ?b20 hHeld ?c20
        case a20 => (simp only [List.getElem?_toArray, List.getElem?_cons_succ, List.getElem?_cons_zero]; exact rfl)
        case b20 => (refine Or.inl ⟨by rfl, ?_⟩; intro w hSw; (try dsimp only at hSw); go_simp; try exact rfl)
        try simp only [Act.put, List.setIfInBounds_toArray, List.set_cons_zero, List.set_cons_succ]
        refine wpAnyH_take (i := 21) (oi := ?o21) (v := ?v21) ?a21 (by kernel_rfl) (by kernel_rfl) (by kernel_rfl) (fun _ _ _ h => h) ?b21 hHeld ?c21
        case a21 => (simp only [List.getElem?_toArray, List.getElem?_cons_succ, List.getElem?_cons_zero]; exact rfl)
        case b21 => (refine Or.inl ⟨by rfl, ?_⟩; intro w hSw; (try dsimp only at hSw); go_simp; try exact rfl)
        try simp only [Act.put, List.setIfInBounds_toArray, List.set_cons_zero, List.set_cons_succ]
        refine wpAnyH_take (i := 22) (oi := ?o22) (v := ?v22) ?a22 (by kernel_rfl) (by kernel_rfl) (by kernel_rfl) (fun _ _ _ h => h) ?b22 hHeld ?c22
        case a22 => (simp only [List.getElem?_toArray, List.getElem?_cons_succ, List.getElem?_cons_zero]; exact rfl)
        case b22 => (refine Or.inl ⟨by rfl, ?_⟩; intro w hSw; (try dsimp only at hSw); go_simp; try exact rfl)
        try simp only [Act.put, List.setIfInBounds_toArray, List.set_cons_zero, List.set_cons_succ]
        refine wpAnyH_take (i := 23) (oi := ?o23) (v := ?v23) ?a23 (by kernel_rfl) (by kernel_rfl) (by kernel_rfl) (fun _ _ _ h => h) ?b23 hHeld ?c23
        case a23 => (simp only [List.getElem?_toArray, List.getElem?_cons_succ, List.getElem?_cons_zero]; exact rfl)
        case b23 => (refine Or.inl ⟨by rfl, ?_⟩; intro w hSw; (try dsimp only at hSw); go_simp; try exact rfl)
        try simp only [Act.put, List.setIfInBounds_toArray, List.set_cons_zero, List.set_cons_succ]
        refine wpAnyH_take (i := 25) (oi := ?o25) (v := ?v25) ?a25 (by kernel_rfl) (by kernel_rfl) (by kernel_rfl) (fun _ _ _ h => h) ?b25 hHeld ?c25
        case a25 => (simp only [List.getElem?_toArray, List.getElem?_cons_succ, List.getElem?_cons_zero]; exact rfl)
        case b25 => (refine Or.inl ⟨by rfl, ?_⟩; intro w hSw; (try dsimp only at hSw); go_simp; try exact rfl)
        try simp only [Act.put, List.setIfInBounds_toArray, List.set_cons_zero, List.set_cons_succ]
        refine wpAnyH_take (i := 26) (oi := ?o26) (v := ?v26) ?a26 (by kernel_rfl) (by kernel_rfl) (by kernel_rfl) (fun _ _ _ h => h) ?b26 hHeld ?c26
        case a26 => (simp only [List.getElem?_toArray, List.getElem?_cons_succ, List.getElem?_cons_zero]; exact rfl)
        case b26 => (refine Or.inl ⟨by rfl, ?_⟩; intro w hSw; (try dsimp only at hSw); go_simp; try exact rfl)
        try simp only [Act.put, List.setIfInBounds_toArray, List.set_cons_zero, List.set_cons_succ]
        refine wpAnyH_take (i := 27) (oi := ?o27) (v := ?v27) ?a27 (by kernel_rfl) (by kernel_rfl) (by kernel_rfl) (fun _ _ _ h => h) ?b27 hHeld ?c27
        case a27 => (simp only [List.getElem?_toArray, List.getElem?_cons_succ, List.getElem?_cons_zero]; exact rfl)
        case b27 => (refine Or.inl ⟨by rfl, ?_⟩; intro w hSw; (try dsimp only at hSw); go_simp; try exact rfl)
        try simp only [Act.put, List.setIfInBounds_toArray, List.set_cons_zero, List.set_cons_succ]
        refine wpAnyH_take (i := 28) (oi := ?o28) (v := ?v28) ?a28 (by kernel_rfl) (by kernel_rfl) (by kernel_rfl) (fun _ _ _ h => h) ?b28 hHeld ?c28
        case a28 => (simp only [List.getElem?_toArray, List.getElem?_cons_succ, List.getElem?_cons_zero]; exact rfl)
        case b28 => (refine Or.inl ⟨by rfl, ?_⟩; intro w hSw; (try dsimp only at hSw); go_simp; try exact rfl)
        try simp only [Act.put, List.setIfInBounds_toArray, List.set_cons_zero, List.set_cons_succ]
        refine wpAnyH_ready (rs := [24]) (by kernel_rfl) (by simp) ?_
        refine AllReadyH.cons (o := ?o24) ?a24 (fun K hK => ?b24) AllReadyH.nil
        case a24 => (simp only [List.getElem?_toArray, List.getElem?_cons_succ, List.getElem?_cons_zero]; exact rfl)
        go_simp
        refine (holds_any _ _ _ _).mono ?_
        rintro e w' ⟨rfl, hb⟩
        refine hK.out _ _ ?_ (fun hHeld2 => ?_)
        · obtain ⟨h0, h1, h2, h3, h4, h5, h6, h7, h8, h9, h10⟩ := hHeld
          exact ⟨cell_keep hb h0, cell_keep hb h1, cell_keep hb h2, cell_keep hb h3, cell_keep hb h4, cell_keep hb h5, cell_keep hb h6, cell_keep hb h7, cell_keep hb h8, cell_keep hb h9, h10.trans (hb.mono h10.size)⟩
        clear hK K hHeld hb
        have hHeld := hHeld2
        clear hHeld2
        try simp only [Act.put, List.setIfInBounds_toArray, List.set_cons_zero, List.set_cons_succ]
        refine wpAnyH_take (i := 29) (oi := ?o29) (v := ?v29) ?a29 (by kernel_rfl) (by kernel_rfl) (by kernel_rfl) (fun _ _ _ h => h) ?b29 hHeld ?c29
        case a29 => (simp only [List.getElem?_toArray, List.getElem?_cons_succ, List.getElem?_cons_zero]; exact rfl)
        case b29 => (refine Or.inl ⟨by rfl, ?_⟩; intro w hSw; (try dsimp only at hSw); go_simp; try exact rfl)
        try simp only [Act.put, List.setIfInBounds_toArray, List.set_cons_zero, List.set_cons_succ]
        refine wpAnyH_take (i := 30) (oi := ?o30) (v := undef) ?a30 (by kernel_rfl) (by kernel_rfl) (by kernel_rfl) (fun _ _ _ h => h) ?b30 hHeld ?c30
        case a30 => (simp only [List.getElem?_toArray, List.getElem?_cons_succ, List.getElem?_cons_zero]; exact rfl)
        case b30 => (exact Or.inr ⟨by rfl, rfl⟩)
        try simp only [Act.put, List.setIfInBounds_toArray, List.set_cons_zero, List.set_cons_succ]
        refine wpAnyH_take (i := 31) (oi := ?o31) (v := undef) ?a31 (by kernel_rfl) (by kernel_rfl) (by kernel_rfl) (fun _ _ _ h => h) ?b31 hHeld ?c31
        case a31 => (simp only [List.getElem?_toArray, List.getElem?_cons_succ, List.getElem?_cons_zero]; exact rfl)
        case b31 => (exact Or.inr ⟨by rfl, rfl⟩)
        try simp only [Act.put, List.setIfInBounds_toArray, List.set_cons_zero, List.set_cons_succ]
        refine wpAnyH_take (i := 32) (oi := ?o32) (v := undef) ?a32 (by kernel_rfl) (by kernel_rfl) (by kernel_rfl) (fun _ _ _ h => h) ?b32 hHeld ?c32
        case a32 => (simp only [List.getElem?_toArray, List.getElem?_cons_succ, List.getElem?_cons_zero]; exact rfl)
        case b32 => (exact Or.inr ⟨by rfl, rfl⟩)
        try simp only [Act.put, List.setIfInBounds_toArray, List.set_cons_zero, List.set_cons_succ]
        refine wpAnyH_take (i := 33) (oi := ?o33) (v := undef) ?a33 (by kernel_rfl) (by kernel_rfl) (by kernel_rfl) (fun _ _ _ h => h) ?b33 hHeld ?c33
        case a33 => (simp only [List.getElem?_toArray, List.getElem?_cons_succ, List.getElem?_cons_zero]; exact rfl)
        case b33 => (exact Or.inr ⟨by rfl, rfl⟩)
        try simp only [Act.put, List.setIfInBounds_toArray, List.set_cons_zero, List.set_cons_succ]
        refine wpAnyH_take (i := 34) (oi := ?o34) (v := ?v34) ?a34 (by kernel_rfl) (by kernel_rfl) (by kernel_rfl) (fun _ _ _ h => h) ?b34 hHeld ?c34
        case a34 => (simp only [List.getElem?_toArray, List.getElem?_cons_succ, List.getElem?_cons_zero]; exact rfl)
        case b34 => (refine Or.inl ⟨by rfl, ?_⟩; intro w hSw; (try dsimp only at hSw); go_simp; try exact rfl)
        try simp only [Act.put, List.setIfInBounds_toArray, List.set_cons_zero, List.set_cons_succ]
        refine wpAnyH_take (i := 35) (oi := ?o35) (v := ?v35) ?a35 (by kernel_rfl) (by kernel_rfl) (by kernel_rfl) (fun _ _ _ h => h) ?b35 hHeld ?c35
        case a35 => (simp only [List.getElem?_toArray, List.getElem?_cons_succ, List.getElem?_cons_zero]; exact rfl)
        case b35 => (refine Or.inl ⟨by rfl, ?_⟩; intro w hSw; (try dsimp only at hSw); go_simp; try exact rfl)
        try simp only [Act.put, List.setIfInBounds_toArray, List.set_cons_zero, List.set_cons_succ]
        refine wpAnyH_take (i := 36) (oi := ?o36) (v := ?v36) ?a36 (by kernel_rfl) (by kernel_rfl) (by kernel_rfl) (fun _ _ _ h => h) ?b36 hHeld ?c36
        case a36 => (simp only [List.getElem?_toArray, List.getElem?_cons_succ, List.getElem?_cons_zero]; exact rfl)
        case b36 => (refine Or.inl ⟨by rfl, ?_⟩; intro w hSw; (try dsimp only at hSw); go_simp; try exact rfl)
        try simp only [Act.put, List.setIfInBounds_toArray, List.set_cons_zero, List.set_cons_succ]
        refine wpAnyH_take (i := 37) (oi := ?o37) (v := ?v37) ?a37 (by kernel_rfl) (by kernel_rfl) (by kernel_rfl) (fun _ _ _ h => h) ?b37 hHeld ?c37
        case a37 => (simp only [List.getElem?_toArray, List.getElem?_cons_succ, List.getElem?_cons_zero]; exact rfl)
        case b37 => (refine Or.inl ⟨by rfl, ?_⟩; intro w hSw; (try dsimp only at hSw); go_simp; try exact rfl)
        try simp only [Act.put, List.setIfInBounds_toArray, List.set_cons_zero, List.set_cons_succ]
        refine wpAnyH_take (i := 38) (oi := ?o38) (v := ?v38) ?a38 (by kernel_rfl) (by kernel_rfl) (by kernel_rfl) (fun _ _ _ h => h) ?b38 hHeld ?c38
        case a38 => (simp only [List.getElem?_toArray, List.getElem?_cons_succ, List.getElem?_cons_zero]; exact rfl)
        case b38 => (refine Or.inl ⟨by rfl, ?_⟩; intro w hSw; (try dsimp only at hSw); go_simp; try exact rfl)
        try simp only [Act.put, List.setIfInBounds_toArray, List.set_cons_zero, List.set_cons_succ]
        refine wpAnyH_take (i := 40) (oi := ?o40) (v := ?v40) ?a40 (by kernel_rfl) (by kernel_rfl) (by kernel_rfl) (fun _ _ _ h => h) ?b40 hHeld ?c40
        case a40 => (simp only [List.getElem?_toArray, List.getElem?_cons_succ, List.getElem?_cons_zero]; exact rfl)
        case b40 => (refine Or.inl ⟨by rfl, ?_⟩; intro w hSw; (try dsimp only at hSw); go_simp; try exact rfl)
        try simp only [Act.put, List.setIfInBounds_toArray, List.set_cons_zero, List.set_cons_succ]
        refine wpAnyH_take (i := 41) (oi := ?o41) (v := ?v41) ?a41 (by kernel_rfl) (by kernel_rfl) (by kernel_rfl) (fun _ _ _ h => h) ?b41 hHeld ?c41
        case a41 => (simp only [List.getElem?_toArray, List.getElem?_cons_succ, List.getElem?_cons_zero]; exact rfl)
        case b41 => (refine Or.inl ⟨by rfl, ?_⟩; intro w hSw; (try dsimp only at hSw); go_simp; try exact rfl)
        try simp only [Act.put, List.setIfInBounds_toArray, List.set_cons_zero, List.set_cons_succ]
        refine wpAnyH_take (i := 42) (oi := ?o42) (v := ?v42) ?a42 (by kernel_rfl) (by kernel_rfl) (by kernel_rfl) (fun _ _ _ h => h) ?b42 hHeld ?c42
        case a42 => (simp only [List.getElem?_toArray, List.getElem?_cons_succ, List.getElem?_cons_zero]; exact rfl)
        case b42 => (refine Or.inl ⟨by rfl, ?_⟩; intro w hSw; (try dsimp only at hSw); go_simp; try exact rfl)
        try simp only [Act.put, List.setIfInBounds_toArray, List.set_cons_zero, List.set_cons_succ]
        refine wpAnyH_ready (rs := [39]) (by kernel_rfl) (by simp) ?_
        refine AllReadyH.cons (o := ?o39) ?a39 (fun K hK => ?b39) AllReadyH.nil
        case a39 => (simp only [List.getElem?_toArray, List.getElem?_cons_succ, List.getElem?_cons_zero]; exact rfl)
        go_simp
        refine (may_any _ _ _).mono ?_
        rintro e w' ⟨rfl, hb⟩
        refine hK.out _ _ ?_ (fun hHeld2 => ?_)
        · obtain ⟨h0, h1, h2, h3, h4, h5, h6, h7, h8, h9, h10⟩ := hHeld
          exact ⟨cell_keep hb h0, cell_keep hb h1, cell_keep hb h2, cell_keep hb h3, cell_keep hb h4, cell_keep hb h5, cell_keep hb h6, cell_keep hb h7, cell_keep hb h8, cell_keep hb h9, h10.trans (hb.mono h10.size)⟩
        clear hK K hHeld hb
        have hHeld := hHeld2
        clear hHeld2
        try simp only [Act.put, List.setIfInBounds_toArray, List.set_cons_zero, List.set_cons_succ]
        refine wpAnyH_take (i := 43) (oi := ?o43) (v := ?v43) ?a43 (by kernel_rfl) (by kernel_rfl) (by kernel_rfl) (fun _ _ _ h => h) ?b43 hHeld ?c43
        case a43 => (simp only [List.getElem?_toArray, List.getElem?_cons_succ, List.getElem?_cons_zero]; exact rfl)
        case b43 => (refine Or.inl ⟨by rfl, ?_⟩; intro w hSw; (try dsimp only at hSw); go_simp; try exact rfl)
        try simp only [Act.put, List.setIfInBounds_toArray, List.set_cons_zero, List.set_cons_succ]
        refine wpAnyH_take (i := 44) (oi := ?o44) (v := ?v44) ?a44 (by kernel_rfl) (by kernel_rfl) (by kernel_rfl) (fun _ _ _ h => h) ?b44 hHeld ?c44
        case a44 => (simp only [List.getElem?_toArray, List.getElem?_cons_succ, List.getElem?_cons_zero]; exact rfl)
        case b44 => (refine Or.inl ⟨by rfl, ?_⟩; intro w hSw; (try dsimp only at hSw); go_simp; try exact rfl)
        try simp only [Act.put, List.setIfInBounds_toArray, List.set_cons_zero, List.set_cons_succ]
        refine wpAnyH_take (i := 45) (oi := ?o45) (v := ?v45) ?a45 (by kernel_rfl) (by kernel_rfl) (by kernel_rfl) (fun _ _ _ h => h) ?b45 hHeld ?c45
        case a45 => (simp only [List.getElem?_toArray, List.getElem?_cons_succ, List.getElem?_cons_zero]; exact rfl)
        case b45 => (refine Or.inl ⟨by rfl, ?_⟩; intro w hSw; (try dsimp only at hSw); go_simp; try exact rfl)
        try simp only [Act.put, List.setIfInBounds_toArray, List.set_cons_zero, List.set_cons_succ]
        refine wpAnyH_take (i := 46) (oi := ?o46) (v := ?v46) ?a46 (by kernel_rfl) (by kernel_rfl) (by kernel_rfl) (fun _ _ _ h => h) ?b46 hHeld ?c46
        case a46 => (simp only [List.getElem?_toArray, List.getElem?_cons_succ, List.getElem?_cons_zero]; exact rfl)
        case b46 => (refine Or.inl ⟨by rfl, ?_⟩; intro w hSw; (try dsimp only at hSw); go_simp; try exact rfl)
        try simp only [Act.put, List.setIfInBounds_toArray, List.set_cons_zero, List.set_cons_succ]
        refine wpAnyH_take (i := 47) (oi := ?o47) (v := ?v47) ?a47 (by kernel_rfl) (by kernel_rfl) (by kernel_rfl) (fun _ _ _ h => h) ?b47 hHeld ?c47
        case a47 => (simp only [List.getElem?_toArray, List.getElem?_cons_succ, List.getElem?_cons_zero]; exact rfl)
        case b47 => (refine Or.inl ⟨by rfl, ?_⟩; intro w hSw; (try dsimp only at hSw); go_simp; try exact rfl)
        try simp only [Act.put, List.setIfInBounds_toArray, List.set_cons_zero, List.set_cons_succ]
        refine wpAnyH_take (i := 48) (oi := ?o48) (v := ?v48) ?a48 (by kernel_rfl) (by kernel_rfl) (by kernel_rfl) (fun _ _ _ h => h) ?b48 hHeld ?c48
        case a48 => (simp only [List.getElem?_toArray, List.getElem?_cons_succ, List.getElem?_cons_zero]; exact rfl)
        case b48 => (refine Or.inl ⟨by rfl, ?_⟩; intro w hSw; (try dsimp only at hSw); go_simp; try exact rfl)
        try simp only [Act.put, List.setIfInBounds_toArray, List.set_cons_zero, List.set_cons_succ]
        refine wpAnyH_take (i := 49) (oi := ?o49) (v := ?v49) ?a49 (by kernel_rfl) (by kernel_rfl) (by kernel_rfl) (fun _ _ _ h => h) ?b49 hHeld ?c49
        case a49 => (simp only [List.getElem?_toArray, List.getElem?_cons_succ, List.getElem?_cons_zero]; exact rfl)
        case b49 => (refine Or.inl ⟨by rfl, ?_⟩; intro w hSw; (try dsimp only at hSw); go_simp; try exact rfl)
        try simp only [Act.put, List.setIfInBounds_toArray, List.set_cons_zero, List.set_cons_succ]
        refine wpAnyH_take (i := 50) (oi := ?o50) (v := ?v50) ?a50 (by kernel_rfl) (by kernel_rfl) (by kernel_rfl) (fun _ _ _ h => h) ?b50 hHeld ?c50
        case a50 => (simp only [List.getElem?_toArray, List.getElem?_cons_succ, List.getElem?_cons_zero]; exact rfl)
        case b50 => (refine Or.inl ⟨by rfl, ?_⟩; intro w hSw; (try dsimp only at hSw); go_simp; try exact rfl)
        try simp only [Act.put, List.setIfInBounds_toArray, List.set_cons_zero, List.set_cons_succ]
        refine wpAnyH_ready (rs := [51]) (by kernel_rfl) (by simp) ?_
        refine AllReadyH.cons (o := ?o51) ?a51 (fun K hK => ?b51) AllReadyH.nil
        case a51 => (simp only [List.getElem?_toArray, List.getElem?_cons_succ, List.getElem?_cons_zero]; exact rfl)
        go_simp
        refine (awake_any _).mono ?_
        rintro e w' ⟨rfl, hb⟩
        refine hK.out _ _ ?_ (fun hHeld2 => ?_)
        · obtain ⟨h0, h1, h2, h3, h4, h5, h6, h7, h8, h9, h10⟩ := hHeld
          exact ⟨cell_keep hb h0, cell_keep hb h1, cell_keep hb h2, cell_keep hb h3, cell_keep hb h4, cell_keep hb h5, cell_keep hb h6, cell_keep hb h7, cell_keep hb h8, cell_keep hb h9, h10.trans (hb.mono h10.size)⟩
        clear hK K hHeld hb
        have hHeld := hHeld2
        clear hHeld2
        try simp only [Act.put, List.setIfInBounds_toArray, List.set_cons_zero, List.set_cons_succ]
        refine wpAnyH_take (i := 52) (oi := ?o52) (v := ?v52) ?a52 (by kernel_rfl) (by kernel_rfl) (by kernel_rfl) (fun _ _ _ h => h) ?b52 hHeld ?c52
        case a52 => (simp only [List.getElem?_toArray, List.getElem?_cons_succ, List.getElem?_cons_zero]; exact rfl)
        case b52 => (refine Or.inl ⟨by rfl, ?_⟩; intro w hSw; (try dsimp only at hSw); go_simp; try exact rfl)
        try simp only [Act.put, List.setIfInBounds_toArray, List.set_cons_zero, List.set_cons_succ]
        refine wpAnyH_take (i := 53) (oi := ?o53) (v := ?v53) ?a53 (by kernel_rfl) (by kernel_rfl) (by kernel_rfl) (fun _ _ _ h => h) ?b53 hHeld ?c53
        case a53 => (simp only [List.getElem?_toArray, List.getElem?_cons_succ, List.getElem?_cons_zero]; exact rfl)
        case b53 => (refine Or.inl ⟨by rfl, ?_⟩; intro w hSw; (try dsimp only at hSw); go_simp; try exact rfl)
        try simp only [Act.put, List.setIfInBounds_toArray, List.set_cons_zero, List.set_cons_succ]
        refine wpAnyH_done (by kernel_rfl) ?_ _
        refine NoPanic.normal ?_
        go_wp2_with fail
        go_ret
        obtain ⟨_, _, _, _, _, _, _, _, _, _, h10⟩ := hHeld
        exact ⟨by first | (simp; done) | (simp [*]; done), h10⟩

set_option maxHeartbeats 4000000 in
set_option maxRecDepth 100000 in
theorem way_100 (p n q m x v0 v1 u0 u1 c1 c2 j0 j1 : Int) (ok down : Bool) (w : World) (hdA : decide (n ≤ x) = false) (hdB : decide (0 ≤ p) = false)
    (hN : x < 0 → v0 = p ∧ ∀ w, Calls Try.prog 15 #[.int .i64 n, .int .i64 x] w fun e w' => e = .returned (.tuple #[.int .i64 v1, .bool ok]) ∧ w = w')
    (hP : ¬ x < 0 → v1 = n ∧ ∀ w, Calls Try.prog 15 #[.int .i64 p, .int .i64 x] w fun e w' => e = .returned (.tuple #[.int .i64 v0, .bool ok]) ∧ w = w')
    (hu1 : ok = true → u0 = v0 ∧ u1 = v1) (hu0 : ok = false → u0 = 0 ∧ u1 = 0)
    (hG : ∀ w, Calls Try.prog 23 #[.agg #[.int .i64 p, .int .i64 n], .int .i64 x] w fun e w' => e = .returned (.tuple #[.agg #[.int .i64 u0, .int .i64 u1], .bool ok]) ∧ Below w.heap.size w w')
    (hU : ∀ w, Calls Try.prog 15 #[.int .i64 p, .int .i64 q] w fun e w' => e = .returned (.tuple #[.int .i64 c1, .bool true]) ∧ w = w')
    (hD : ∀ w, Calls Try.prog 15 #[.int .i64 n, .int .i64 m] w fun e w' => e = .returned (.tuple #[.int .i64 c2, .bool down]) ∧ w = w')
    (hJ : ∀ w, Calls Try.prog 24 #[.agg #[.int .i64 p, .int .i64 n], .agg #[.int .i64 q, .int .i64 m]] w fun e w' => e = .returned (.tuple #[.agg #[.int .i64 j0, .int .i64 j1], .bool down]) ∧ Below w.heap.size w w')
    (hj1 : down = true → j0 = c1 ∧ j1 = c2) (hj0 : down = false → j0 = 0 ∧ j1 = 0) :
    Calls Try.prog 5 #[.agg #[.int .i64 p, .int .i64 n], .agg #[.int .i64 q, .int .i64 m], .int .i64 x] w fun e w' => e = .returned (.bool true) ∧ Below w.heap.size w w' := by
  have HN := Lib.hid hN
  have HP := Lib.hid hP
  have HU := Lib.hid hU
  have HD := Lib.hid hD
  have HG := Lib.hid hG
  have HJ := Lib.hid hJ
  have HU1 := Lib.hid hu1
  have HU0 := Lib.hid hu0
  have HJ1 := Lib.hid hj1
  have HJ0 := Lib.hid hj0
  have HdA := Lib.hid hdA
  have HdB := Lib.hid hdB
  clear hN hP hU hD hG hJ hu1 hu0 hj1 hj0 hdA hdB
  go_enter Try.func5, Try.ntmps5
  go_upto_if 20 with fail
  go_cut [8] (fun s8 wc => s8 = .bool ok ∧ Box wc w.heap.size 30 #[.int .i64 p, .int .i64 n] ∧ Box wc (w.heap.size + 1) 30 #[.int .i64 q, .int .i64 m] ∧ Box wc (w.heap.size + 2) 30 #[.int .i64 v0, .int .i64 v1] ∧ Below w.heap.size w wc ∧ wc.heap.size = w.heap.size + 3)
  case first =>
    by_cases hx : x < 0
    · obtain ⟨rfl, hA⟩ := HN.out hx
      have HA := Lib.hid hA
      clear hA
      go_wp2_with fail
      refine (HA.out _).mono ?_
      rintro e w' ⟨rfl, rfl⟩
      go_wp2_with fail
      go_meet
      exact ⟨rfl, ((Box.lay rfl).alloc _).alloc _, (Box.lay (by simp)).alloc _, Box.lay (by simp), (by repeat (first | exact Below.refl _ _ | assumption | refine Below.drew ?_ | (refine Below.alloc ?_ (by simp <;> omega) _) | (refine Below.setCell ?_ (by simp <;> omega) _))), by simp⟩
    · obtain ⟨rfl, hA⟩ := HP.out hx
      have HA := Lib.hid hA
      clear hA
      go_wp2_with fail
      refine (HA.out _).mono ?_
      rintro e w' ⟨rfl, rfl⟩
      go_wp2_with fail
      go_meet
      exact ⟨rfl, ((Box.lay rfl).alloc _).alloc _, (Box.lay (by simp)).alloc _, Box.lay (by simp), (by repeat (first | exact Below.refl _ _ | assumption | refine Below.drew ?_ | (refine Below.alloc ?_ (by simp <;> omega) _) | (refine Below.setCell ?_ (by simp <;> omega) _))), by simp⟩
  case rest =>
    obtain ⟨rfl, a0, a1, a2, hbe, hsz⟩ := hcut
    obtain ⟨c20, c21, f20, f21⟩ := a2.two
    rename_i wa
    go_upto_if 38 with fail
    go_cut [] (fun wc => Box wc w.heap.size 30 #[.int .i64 p, .int .i64 n] ∧ Box wc (w.heap.size + 1) 30 #[.int .i64 q, .int .i64 m] ∧ Box wc (w.heap.size + 2) 30 #[.int .i64 u0, .int .i64 u1] ∧ Below w.heap.size w wc ∧ wc.heap.size = w.heap.size + 3)
    case first =>
      cases ok
      · obtain ⟨rfl, rfl⟩ := HU0.out rfl
        go_wp2_with fail
        go_meet
        exact ⟨(a0.far (by simp <;> omega) _).far (by simp <;> omega) _, (a1.far (by simp <;> omega) _).far (by simp <;> omega) _, (a2.set 0 _).set 1 _, (hbe.setCell (by simp <;> omega) _).setCell (by simp <;> omega) _, by simpa [World.setCell] using hsz⟩
      · obtain ⟨rfl, rfl⟩ := HU1.out rfl
        go_wp2_with fail
        go_meet
        exact ⟨a0, a1, a2, hbe, hsz⟩
    case rest =>
      clear c20 c21 f20 f21 a0 a1 a2 hbe hsz HU0 HU1 HN HP
      obtain ⟨a0, a1, a2, hbe, hsz⟩ := hcut
      obtain ⟨e0, e1, e2, e3⟩ := a0.two
      obtain ⟨f0, f1, f2, f3⟩ := a1.two
      go_wp2_with fail
      refine (HG.out _).mono ?_
      rintro e w1 ⟨rfl, hb1⟩
      have b0 := a0.under hb1
      have b1 := a1.under hb1
      have b2 := a2.under hb1
      have hs1 : w.heap.size + 3 ≤ w1.heap.size := by have := hb1.size; have h2 := hsz; omega
      have s2 : w.heap.size < w1.heap.size := by omega
      have s3 : w.heap.size + 1 < w1.heap.size := by omega
      have s4 : w.heap.size + 2 < w1.heap.size := by omega
      have hbf := hbe.trans (hb1.mono hbe.size)
      clear a0 a1 a2 hbe hsz hb1 e0 e1 e2 e3 f0 f1 f2 f3 HG
      obtain ⟨e0, e1, e2, e3⟩ := b0.two
      obtain ⟨f0, f1, f2, f3⟩ := b1.two
      go_wp2_with fail
      refine (HU.out _).mono ?_
      rintro e w' ⟨rfl, rfl⟩
      go_wp2_with fail
      refine (HD.out _).mono ?_
      rintro e w' ⟨rfl, rfl⟩
      go_upto_if 70 with fail
      go_cut [] (fun wc => Box wc w.heap.size 30 #[.int .i64 p, .int .i64 n] ∧ Box wc (w.heap.size + 1) 30 #[.int .i64 q, .int .i64 m] ∧ Box wc (w.heap.size + 2) 30 #[.int .i64 u0, .int .i64 u1] ∧ Box wc w1.heap.size 30 #[.int .i64 u0, .int .i64 u1] ∧ Box wc (w1.heap.size + 1) 30 #[.int .i64 j0, .int .i64 j1] ∧ Below w.heap.size w wc ∧ wc.heap.size = w1.heap.size + 2)
      case first =>
        cases down
        · obtain ⟨rfl, rfl⟩ := HJ0.out rfl
          go_wp2_with fail
          go_meet
          exact ⟨(b0.alloc _).alloc _, (b1.alloc _).alloc _, (b2.alloc _).alloc _, (Box.lay rfl).alloc _, Box.lay (by simp), (hbf.alloc hbf.size _).alloc (by simp; omega) _, by simp⟩
        · obtain ⟨rfl, rfl⟩ := HJ1.out rfl
          go_wp2_with fail
          go_meet
          exact ⟨(b0.alloc _).alloc _, (b1.alloc _).alloc _, (b2.alloc _).alloc _, (Box.lay rfl).alloc _, Box.lay (by simp), (hbf.alloc hbf.size _).alloc (by simp; omega) _, by simp⟩
      case rest =>
        clear b0 b1 b2 hbf HD HU HJ1 HJ0 e0 e1 e2 e3 f0 f1 f2 f3 hs1 s2 s3 s4
        obtain ⟨b0, b1, b2, b3, b4, hbf, hsz⟩ := hcut
        obtain ⟨e0, e1, e2, e3⟩ := b0.two
        obtain ⟨f0, f1, f2, f3⟩ := b1.two
        go_wp2_with fail
        refine (HJ.out _).mono ?_
        rintro e w2 ⟨rfl, hb2⟩
        have d0 := b0.under hb2
        have d2 := b2.under hb2
        have d3 := b3.under hb2
        have d4 := b4.under hb2
        have hbh := hbf.trans (hb2.mono hbf.size)
        clear b0 b1 b2 b3 b4 hbf hsz hb2 e0 e1 e2 e3 f0 f1 f2 f3 HJ
        go_wp2_with fail
        obtain ⟨e0, e1, _, _⟩ := (d0.alloc (.cells #[.int .i64 j0, .int .i64 j1] 30)).two
        obtain ⟨f0, f1, _, _⟩ := (d2.alloc (.cells #[.int .i64 j0, .int .i64 j1] 30)).two
        obtain ⟨i0, i1, _, _⟩ := (d3.alloc (.cells #[.int .i64 j0, .int .i64 j1] 30)).two
        obtain ⟨k0, k1, _, _⟩ := (d4.alloc (.cells #[.int .i64 j0, .int .i64 j1] 30)).two
        obtain ⟨y0, y1, _, _⟩ := (Box.new w2 30 #[.int .i64 j0, .int .i64 j1]).two
        have hB3 := hbh.alloc hbh.size (.cells #[.int .i64 j0, .int .i64 j1] 30)
        clear d0 d2 d3 d4 hbh
        generalize hW2 : w2.alloc (.cells #[.int .i64 j0, .int .i64 j1] 30) = W2 at *
        clear hW2
        have hdA := HdA.out
        have hdB := HdB.out
        clear HdA HdB
        refine wp_region_noPanic ?_
        refine wp_region_held_drew (S := fun w' => w'.cell? ⟨w.heap.size, 0, none⟩ = some (.int .i64 p) ∧ w'.cell? ⟨w.heap.size, 1, none⟩ = some (.int .i64 n) ∧ w'.cell? ⟨(w.heap.size + 2), 0, none⟩ = some (.int .i64 u0) ∧ w'.cell? ⟨(w.heap.size + 2), 1, none⟩ = some (.int .i64 u1) ∧ w'.cell? ⟨w1.heap.size, 0, none⟩ = some (.int .i64 u0) ∧ w'.cell? ⟨w1.heap.size, 1, none⟩ = some (.int .i64 u1) ∧ w'.cell? ⟨(w1.heap.size + 1), 0, none⟩ = some (.int .i64 j0) ∧ w'.cell? ⟨(w1.heap.size + 1), 1, none⟩ = some (.int .i64 j1) ∧ w'.cell? ⟨w2.heap.size, 0, none⟩ = some (.int .i64 j0) ∧ w'.cell? ⟨w2.heap.size, 1, none⟩ = some (.int .i64 j1) ∧ Below w.heap.size w w') (by kernel_rfl) ⟨e0, e1, f0, f1, i0, i1, k0, k1, y0, y1, hB3.drew⟩ (fun hHeld => ?_)
        refine wpAnyH_take (i := 0) (oi := ?o0) (v := ?v0) ?a0 (by kernel_rfl) (by kernel_rfl) (by kernel_rfl) (fun _ _ _ h => h) ?b0 hHeld ?c0
        case a0 => (simp only [List.getElem?_toArray, List.getElem?_cons_zero]; exact rfl)
        case b0 => (refine Or.inl ⟨by rfl, ?_⟩; intro w hSw; (try dsimp only at hSw); go_simp; try exact rfl)
        try simp only [Act.put, List.setIfInBounds_toArray, List.set_cons_zero, List.set_cons_succ]
        refine wpAnyH_take (i := 1) (oi := ?o1) (v := ?v1) ?a1 (by kernel_rfl) (by kernel_rfl) (by kernel_rfl) (fun _ _ _ h => h) ?b1 hHeld ?c1
        case a1 => (simp only [List.getElem?_toArray, List.getElem?_cons_succ, List.getElem?_cons_zero]; exact rfl)
        case b1 => (refine Or.inl ⟨by rfl, ?_⟩; intro w hSw; (try dsimp only at hSw); go_simp; try exact rfl)
        try simp only [Act.put, List.setIfInBounds_toArray, List.set_cons_zero, List.set_cons_succ]
        refine wpAnyH_take (i := 2) (oi := ?o2) (v := ?v2) ?a2 (by kernel_rfl) (by kernel_rfl) (by kernel_rfl) (fun _ _ _ h => h) ?b2 hHeld ?c2
        case a2 => (simp only [List.getElem?_toArray, List.getElem?_cons_succ, List.getElem?_cons_zero]; exact rfl)
        case b2 => (refine Or.inl ⟨by rfl, ?_⟩; intro w hSw; (try dsimp only at hSw); go_simp; try exact rfl)
        try simp only [Act.put, List.setIfInBounds_toArray, List.set_cons_zero, List.set_cons_succ]
        refine wpAnyH_take (i := 3) (oi := ?o3) (v := ?v3) ?a3 (by kernel_rfl) (by kernel_rfl) (by kernel_rfl) (fun _ _ _ h => h) ?b3 hHeld ?c3
        case a3 => (simp only [List.getElem?_toArray, List.getElem?_cons_succ, List.getElem?_cons_zero]; exact rfl)
        case b3 => (refine Or.inl ⟨by rfl, ?_⟩; intro w hSw; (try dsimp only at hSw); go_simp; try exact rfl)
        try simp only [Act.put, List.setIfInBounds_toArray, List.set_cons_zero, List.set_cons_succ]
        refine wpAnyH_take (i := 4) (oi := ?o4) (v := ?v4) ?a4 (by kernel_rfl) (by kernel_rfl) (by kernel_rfl) (fun _ _ _ h => h) ?b4 hHeld ?c4
        case a4 => (simp only [List.getElem?_toArray, List.getElem?_cons_succ, List.getElem?_cons_zero]; exact rfl)
        case b4 => (refine Or.inl ⟨by rfl, ?_⟩; intro w hSw; (try dsimp only at hSw); go_simp; try exact rfl)
        try simp only [Act.put, List.setIfInBounds_toArray, List.set_cons_zero, List.set_cons_succ]
        refine wpAnyH_take (i := 5) (oi := ?o5) (v := ?v5) ?a5 (by kernel_rfl) (by kernel_rfl) (by kernel_rfl) (fun _ _ _ h => h) ?b5 hHeld ?c5
        case a5 => (simp only [List.getElem?_toArray, List.getElem?_cons_succ, List.getElem?_cons_zero]; exact rfl)
        case b5 => (refine Or.inl ⟨by rfl, ?_⟩; intro w hSw; (try dsimp only at hSw); go_simp; try exact rfl)
        try simp only [Act.put, List.setIfInBounds_toArray, List.set_cons_zero, List.set_cons_succ]
        refine wpAnyH_take (i := 6) (oi := ?o6) (v := ?v6) ?a6 (by kernel_rfl) (by kernel_rfl) (by kernel_rfl) (fun _ _ _ h => h) ?b6 hHeld ?c6
        case a6 => (simp only [List.getElem?_toArray, List.getElem?_cons_succ, List.getElem?_cons_zero]; exact rfl)
        case b6 => (refine Or.inl ⟨by rfl, ?_⟩; intro w hSw; (try dsimp only at hSw); go_simp; try exact rfl)
        try simp only [Act.put, List.setIfInBounds_toArray, List.set_cons_zero, List.set_cons_succ]
        refine wpAnyH_take (i := 7) (oi := ?o7) (v := ?v7) ?a7 (by kernel_rfl) (by kernel_rfl) (by kernel_rfl) (fun _ _ _ h => h) ?b7 hHeld ?c7
        case a7 => (simp only [List.getElem?_toArray, List.getElem?_cons_succ, List.getElem?_cons_zero]; exact rfl)
        case b7 => (refine Or.inl ⟨by rfl, ?_⟩; intro w hSw; (try dsimp only at hSw); go_simp; try exact rfl)
        try simp only [Act.put, List.setIfInBounds_toArray, List.set_cons_zero, List.set_cons_succ]
        refine wpAnyH_take (i := 8) (oi := ?o8) (v := ?v8) ?a8 (by kernel_rfl) (by kernel_rfl) (by kernel_rfl) (fun _ _ _ h => h) ?b8 hHeld ?c8
        case a8 => (simp only [List.getElem?_toArray, List.getElem?_cons_succ, List.getElem?_cons_zero]; exact rfl)
        case b8 => (refine Or.inl ⟨by rfl, ?_⟩; intro w hSw; (try dsimp only at hSw); go_simp; try exact rfl)
        try simp only [Act.put, List.setIfInBounds_toArray, List.set_cons_zero, List.set_cons_succ]
        refine wpAnyH_take (i := 9) (oi := ?o9) (v := ?v9) ?a9 (by kernel_rfl) (by kernel_rfl) (by kernel_rfl) (fun _ _ _ h => h) ?b9 hHeld ?c9
        case a9 => (simp only [List.getElem?_toArray, List.getElem?_cons_succ, List.getElem?_cons_zero]; exact rfl)
        case b9 => (refine Or.inl ⟨by rfl, ?_⟩; intro w hSw; (try dsimp only at hSw); go_simp; try exact rfl)
        try simp only [Act.put, List.setIfInBounds_toArray, List.set_cons_zero, List.set_cons_succ]
        refine wpAnyH_take (i := 10) (oi := ?o10) (v := ?v10) ?a10 (by kernel_rfl) (by kernel_rfl) (by kernel_rfl) (fun _ _ _ h => h) ?b10 hHeld ?c10
        case a10 => (simp only [List.getElem?_toArray, List.getElem?_cons_succ, List.getElem?_cons_zero]; exact rfl)
        case b10 => (refine Or.inl ⟨by rfl, ?_⟩; intro w hSw; (try dsimp only at hSw); go_simp; try exact rfl)
        try simp only [Act.put, List.setIfInBounds_toArray, List.set_cons_zero, List.set_cons_succ]
        refine wpAnyH_take (i := 11) (oi := ?o11) (v := ?v11) ?a11 (by kernel_rfl) (by kernel_rfl) (by kernel_rfl) (fun _ _ _ h => h) ?b11 hHeld ?c11
        case a11 => (simp only [List.getElem?_toArray, List.getElem?_cons_succ, List.getElem?_cons_zero]; exact rfl)
        case b11 => (refine Or.inl ⟨by rfl, ?_⟩; intro w hSw; (try dsimp only at hSw); go_simp; try exact rfl)
        try simp only [Act.put, List.setIfInBounds_toArray, List.set_cons_zero, List.set_cons_succ]
        refine wpAnyH_take (i := 12) (oi := ?o12) (v := ?v12) ?a12 (by kernel_rfl) (by kernel_rfl) (by kernel_rfl) (fun _ _ _ h => h) ?b12 hHeld ?c12
        case a12 => (simp only [List.getElem?_toArray, List.getElem?_cons_succ, List.getElem?_cons_zero]; exact rfl)
        case b12 => (refine Or.inl ⟨by rfl, ?_⟩; intro w hSw; (try dsimp only at hSw); go_simp; try exact rfl)
        try simp only [Act.put, List.setIfInBounds_toArray, List.set_cons_zero, List.set_cons_succ]
        refine wpAnyH_take (i := 13) (oi := ?o13) (v := ?v13) ?a13 (by kernel_rfl) (by kernel_rfl) (by kernel_rfl) (fun _ _ _ h => h) ?b13 hHeld ?c13
        case a13 => (simp only [List.getElem?_toArray, List.getElem?_cons_succ, List.getElem?_cons_zero]; exact rfl)
        case b13 => (refine Or.inl ⟨by rfl, ?_⟩; intro w hSw; (try dsimp only at hSw); go_simp; try exact rfl)
        try simp only [Act.put, List.setIfInBounds_toArray, List.set_cons_zero, List.set_cons_succ]
        refine wpAnyH_take (i := 14) (oi := ?o14) (v := ?v14) ?a14 (by kernel_rfl) (by kernel_rfl) (by kernel_rfl) (fun _ _ _ h => h) ?b14 hHeld ?c14
        case a14 => (simp only [List.getElem?_toArray, List.getElem?_cons_succ, List.getElem?_cons_zero]; exact rfl)
        case b14 => (refine Or.inl ⟨by rfl, ?_⟩; intro w hSw; (try dsimp only at hSw); go_simp; try exact rfl)
        try simp only [Act.put, List.setIfInBounds_toArray, List.set_cons_zero, List.set_cons_succ]
        refine wpAnyH_take (i := 15) (oi := ?o15) (v := ?v15) ?a15 (by kernel_rfl) (by kernel_rfl) (by kernel_rfl) (fun _ _ _ h => h) ?b15 hHeld ?c15
        case a15 => (simp only [List.getElem?_toArray, List.getElem?_cons_succ, List.getElem?_cons_zero]; exact rfl)
        case b15 => (refine Or.inl ⟨by rfl, ?_⟩; intro w hSw; (try dsimp only at hSw); go_simp; try exact rfl)
        try simp only [Act.put, List.setIfInBounds_toArray, List.set_cons_zero, List.set_cons_succ]
        refine wpAnyH_take (i := 16) (oi := ?o16) (v := ?v16) ?a16 (by kernel_rfl) (by kernel_rfl) (by kernel_rfl) (fun _ _ _ h => h) ?b16 hHeld ?c16
        case a16 => (simp only [List.getElem?_toArray, List.getElem?_cons_succ, List.getElem?_cons_zero]; exact rfl)
        case b16 => (refine Or.inl ⟨by rfl, ?_⟩; intro w hSw; (try dsimp only at hSw); go_simp; try exact rfl)
        try simp only [Act.put, List.setIfInBounds_toArray, List.set_cons_zero, List.set_cons_succ]
        refine wpAnyH_take (i := 17) (oi := ?o17) (v := ?v17) ?a17 (by kernel_rfl) (by kernel_rfl) (by kernel_rfl) (fun _ _ _ h => h) ?b17 hHeld ?c17
        case a17 => (simp only [List.getElem?_toArray, List.getElem?_cons_succ, List.getElem?_cons_zero]; exact rfl)
        case b17 => (refine Or.inl ⟨by rfl, ?_⟩; intro w hSw; (try dsimp only at hSw); go_simp; try exact rfl)
        try simp only [Act.put, List.setIfInBounds_toArray, List.set_cons_zero, List.set_cons_succ]
        refine wpAnyH_take (i := 18) (oi := ?o18) (v := ?v18) ?a18 (by kernel_rfl) (by kernel_rfl) (by kernel_rfl) (fun _ _ _ h => h) ?b18 hHeld ?c18
        case a18 => (simp only [List.getElem?_toArray, List.getElem?_cons_succ, List.getElem?_cons_zero]; exact rfl)
        case b18 => (refine Or.inl ⟨by rfl, ?_⟩; intro w hSw; (try dsimp only at hSw); go_simp; try exact rfl)
        try simp only [Act.put, List.setIfInBounds_toArray, List.set_cons_zero, List.set_cons_succ]
        refine wpAnyH_take (i := 19) (oi := ?o19) (v := ?v19) ?a19 (by kernel_rfl) (by kernel_rfl) (by kernel_rfl) (fun _ _ _ h => h) ?b19 hHeld ?c19
        case a19 => (simp only [List.getElem?_toArray, List.getElem?_cons_succ, List.getElem?_cons_zero]; exact rfl)
        case b19 => (refine Or.inl ⟨by rfl, ?_⟩; intro w hSw; (try dsimp only at hSw); go_simp; try exact rfl)
        try simp only [Act.put, List.setIfInBounds_toArray, List.set_cons_zero, List.set_cons_succ]
        refine wpAnyH_take (i := 20) (oi := ?o20) (v := ?v20) ?a20 (by kernel_rfl) (by kernel_rfl) (by kernel_rfl) (fun _ _ _ h => h) ?b20 hHeld ?c20
        case a20 => (simp only [List.getElem?_toArray, List.getElem?_cons_succ, List.getElem?_cons_zero]; exact rfl)
        case b20 => (refine Or.inl ⟨by rfl, ?_⟩; intro w hSw; (try dsimp only at hSw); go_simp; try exact rfl)
        try simp only [Act.put, List.setIfInBounds_toArray, List.set_cons_zero, List.set_cons_succ]
        refine wpAnyH_take (i := 21) (oi := ?o21) (v := ?v21) ?a21 (by kernel_rfl) (by kernel_rfl) (by kernel_rfl) (fun _ _ _ h => h) ?b21 hHeld ?c21
        case a21 => (simp only [List.getElem?_toArray, List.getElem?_cons_succ, List.getElem?_cons_zero]; exact rfl)
        case b21 => (refine Or.inl ⟨by rfl, ?_⟩; intro w hSw; (try dsimp only at hSw); go_simp; try exact rfl)
        try simp only [Act.put, List.setIfInBounds_toArray, List.set_cons_zero, List.set_cons_succ]
        refine wpAnyH_take (i := 22) (oi := ?o22) (v := ?v22) ?a22 (by kernel_rfl) (by kernel_rfl) (by kernel_rfl) (fun _ _ _ h => h) ?b22 hHeld ?c22
        case a22 => (simp only [List.getElem?_toArray, List.getElem?_cons_succ, List.getElem?_cons_zero]; exact rfl)
        case b22 => (refine Or.inl ⟨by rfl, ?_⟩; intro w hSw; (try dsimp only at hSw); go_simp; try exact rfl)
        try simp only [Act.put, List.setIfInBounds_toArray, List.set_cons_zero, List.set_cons_succ]
        refine wpAnyH_take (i := 23) (oi := ?o23) (v := ?v23) ?a23 (by kernel_rfl) (by kernel_rfl) (by kernel_rfl) (fun _ _ _ h => h) ?b23 hHeld ?c23
        case a23 => (simp only [List.getElem?_toArray, List.getElem?_cons_succ, List.getElem?_cons_zero]; exact rfl)
        case b23 => (refine Or.inl ⟨by rfl, ?_⟩; intro w hSw; (try dsimp only at hSw); go_simp; try exact rfl)
        try simp only [Act.put, List.setIfInBounds_toArray, List.set_cons_zero, List.set_cons_succ]
        refine wpAnyH_take (i := 25) (oi := ?o25) (v := ?v25) ?a25 (by kernel_rfl) (by kernel_rfl) (by kernel_rfl) (fun _ _ _ h => h) ?b25 hHeld ?c25
        case a25 => (simp only [List.getElem?_toArray, List.getElem?_cons_succ, List.getElem?_cons_zero]; exact rfl)
        case b25 => (refine Or.inl ⟨by rfl, ?_⟩; intro w hSw; (try dsimp only at hSw); go_simp; try exact rfl)
        try simp only [Act.put, List.setIfInBounds_toArray, List.set_cons_zero, List.set_cons_succ]
        refine wpAnyH_take (i := 26) (oi := ?o26) (v := ?v26) ?a26 (by kernel_rfl) (by kernel_rfl) (by kernel_rfl) (fun _ _ _ h => h) ?b26 hHeld ?c26
        case a26 => (simp only [List.getElem?_toArray, List.getElem?_cons_succ, List.getElem?_cons_zero]; exact rfl)
        case b26 => (refine Or.inl ⟨by rfl, ?_⟩; intro w hSw; (try dsimp only at hSw); go_simp; try exact rfl)
        try simp only [Act.put, List.setIfInBounds_toArray, List.set_cons_zero, List.set_cons_succ]
        refine wpAnyH_take (i := 27) (oi := ?o27) (v := ?v27) ?a27 (by kernel_rfl) (by kernel_rfl) (by kernel_rfl) (fun _ _ _ h => h) ?b27 hHeld ?c27
        case a27 => (simp only [List.getElem?_toArray, List.getElem?_cons_succ, List.getElem?_cons_zero]; exact rfl)
        case b27 => (refine Or.inl ⟨by rfl, ?_⟩; intro w hSw; (try dsimp only at hSw); go_simp; try exact rfl)
        try simp only [Act.put, List.setIfInBounds_toArray, List.set_cons_zero, List.set_cons_succ]
        refine wpAnyH_take (i := 28) (oi := ?o28) (v := ?v28) ?a28 (by kernel_rfl) (by kernel_rfl) (by kernel_rfl) (fun _ _ _ h => h) ?b28 hHeld ?c28
        case a28 => (simp only [List.getElem?_toArray, List.getElem?_cons_succ, List.getElem?_cons_zero]; exact rfl)
        case b28 => (refine Or.inl ⟨by rfl, ?_⟩; intro w hSw; (try dsimp only at hSw); go_simp; try exact rfl)
        try simp only [Act.put, List.setIfInBounds_toArray, List.set_cons_zero, List.set_cons_succ]
        refine wpAnyH_ready (rs := [24]) (by kernel_rfl) (by simp) ?_
        refine AllReadyH.cons (o := ?o24) ?a24 (fun K hK => ?b24) AllReadyH.nil
        case a24 => (simp only [List.getElem?_toArray, List.getElem?_cons_succ, List.getElem?_cons_zero]; exact rfl)
        go_simp
        refine (holds_any _ _ _ _).mono ?_
        rintro e w' ⟨rfl, hb⟩
        refine hK.out _ _ ?_ (fun hHeld2 => ?_)
        · obtain ⟨h0, h1, h2, h3, h4, h5, h6, h7, h8, h9, h10⟩ := hHeld
          exact ⟨cell_keep hb h0, cell_keep hb h1, cell_keep hb h2, cell_keep hb h3, cell_keep hb h4, cell_keep hb h5, cell_keep hb h6, cell_keep hb h7, cell_keep hb h8, cell_keep hb h9, h10.trans (hb.mono h10.size)⟩
        clear hK K hHeld hb
        have hHeld := hHeld2
        clear hHeld2
        try simp only [Act.put, List.setIfInBounds_toArray, List.set_cons_zero, List.set_cons_succ]
        refine wpAnyH_take (i := 29) (oi := ?o29) (v := ?v29) ?a29 (by kernel_rfl) (by kernel_rfl) (by kernel_rfl) (fun _ _ _ h => h) ?b29 hHeld ?c29
        case a29 => (simp only [List.getElem?_toArray, List.getElem?_cons_succ, List.getElem?_cons_zero]; exact rfl)
        case b29 => (refine Or.inl ⟨by rfl, ?_⟩; intro w hSw; (try dsimp only at hSw); go_simp; try exact rfl)
        try simp only [Act.put, List.setIfInBounds_toArray, List.set_cons_zero, List.set_cons_succ]
        refine wpAnyH_take (i := 30) (oi := ?o30) (v := undef) ?a30 (by kernel_rfl) (by kernel_rfl) (by kernel_rfl) (fun _ _ _ h => h) ?b30 hHeld ?c30
        case a30 => (simp only [List.getElem?_toArray, List.getElem?_cons_succ, List.getElem?_cons_zero]; exact rfl)
        case b30 => (exact Or.inr ⟨by rfl, rfl⟩)
        try simp only [Act.put, List.setIfInBounds_toArray, List.set_cons_zero, List.set_cons_succ]
        refine wpAnyH_take (i := 31) (oi := ?o31) (v := undef) ?a31 (by kernel_rfl) (by kernel_rfl) (by kernel_rfl) (fun _ _ _ h => h) ?b31 hHeld ?c31
        case a31 => (simp only [List.getElem?_toArray, List.getElem?_cons_succ, List.getElem?_cons_zero]; exact rfl)
        case b31 => (exact Or.inr ⟨by rfl, rfl⟩)
        try simp only [Act.put, List.setIfInBounds_toArray, List.set_cons_zero, List.set_cons_succ]
        refine wpAnyH_take (i := 32) (oi := ?o32) (v := undef) ?a32 (by kernel_rfl) (by kernel_rfl) (by kernel_rfl) (fun _ _ _ h => h) ?b32 hHeld ?c32
        case a32 => (simp only [List.getElem?_toArray, List.getElem?_cons_succ, List.getElem?_cons_zero]; exact rfl)
        case b32 => (exact Or.inr ⟨by rfl, rfl⟩)
        try simp only [Act.put, List.setIfInBounds_toArray, List.set_cons_zero, List.set_cons_succ]
        refine wpAnyH_take (i := 33) (oi := ?o33) (v := undef) ?a33 (by kernel_rfl) (by kernel_rfl) (by kernel_rfl) (fun _ _ _ h => h) ?b33 hHeld ?c33
        case a33 => (simp only [List.getElem?_toArray, List.getElem?_cons_succ, List.getElem?_cons_zero]; exact rfl)
        case b33 => (exact Or.inr ⟨by rfl, rfl⟩)
        try simp only [Act.put, List.setIfInBounds_toArray, List.set_cons_zero, List.set_cons_succ]
        refine wpAnyH_take (i := 34) (oi := ?o34) (v := ?v34) ?a34 (by kernel_rfl) (by kernel_rfl) (by kernel_rfl) (fun _ _ _ h => h) ?b34 hHeld ?c34
        case a34 => (simp only [List.getElem?_toArray, List.getElem?_cons_succ, List.getElem?_cons_zero]; exact rfl)
        case b34 => (refine Or.inl ⟨by rfl, ?_⟩; intro w hSw; (try dsimp only at hSw); go_simp; try exact rfl)
        try simp only [Act.put, List.setIfInBounds_toArray, List.set_cons_zero, List.set_cons_succ]
        refine wpAnyH_take (i := 35) (oi := ?o35) (v := ?v35) ?a35 (by kernel_rfl) (by kernel_rfl) (by kernel_rfl) (fun _ _ _ h => h) ?b35 hHeld ?c35
        case a35 => (simp only [List.getElem?_toArray, List.getElem?_cons_succ, List.getElem?_cons_zero]; exact rfl)
        case b35 => (refine Or.inl ⟨by rfl, ?_⟩; intro w hSw; (try dsimp only at hSw); go_simp; try exact rfl)
        try simp only [Act.put, List.setIfInBounds_toArray, List.set_cons_zero, List.set_cons_succ]
        refine wpAnyH_take (i := 36) (oi := ?o36) (v := ?v36) ?a36 (by kernel_rfl) (by kernel_rfl) (by kernel_rfl) (fun _ _ _ h => h) ?b36 hHeld ?c36
        case a36 => (simp only [List.getElem?_toArray, List.getElem?_cons_succ, List.getElem?_cons_zero]; exact rfl)
        case b36 => (refine Or.inl ⟨by rfl, ?_⟩; intro w hSw; (try dsimp only at hSw); go_simp; try exact rfl)
        try simp only [Act.put, List.setIfInBounds_toArray, List.set_cons_zero, List.set_cons_succ]
        refine wpAnyH_take (i := 37) (oi := ?o37) (v := ?v37) ?a37 (by kernel_rfl) (by kernel_rfl) (by kernel_rfl) (fun _ _ _ h => h) ?b37 hHeld ?c37
        case a37 => (simp only [List.getElem?_toArray, List.getElem?_cons_succ, List.getElem?_cons_zero]; exact rfl)
        case b37 => (refine Or.inl ⟨by rfl, ?_⟩; intro w hSw; (try dsimp only at hSw); go_simp; try exact rfl)
        try simp only [Act.put, List.setIfInBounds_toArray, List.set_cons_zero, List.set_cons_succ]
        refine wpAnyH_take (i := 38) (oi := ?o38) (v := ?v38) ?a38 (by kernel_rfl) (by kernel_rfl) (by kernel_rfl) (fun _ _ _ h => h) ?b38 hHeld ?c38
        case a38 => (simp only [List.getElem?_toArray, List.getElem?_cons_succ, List.getElem?_cons_zero]; exact rfl)
        case b38 => (refine Or.inl ⟨by rfl, ?_⟩; intro w hSw; (try dsimp only at hSw); go_simp; try exact rfl)
        try simp only [Act.put, List.setIfInBounds_toArray, List.set_cons_zero, List.set_cons_succ]
        refine wpAnyH_take (i := 40) (oi := ?o40) (v := ?v40) ?a40 (by kernel_rfl) (by kernel_rfl) (by kernel_rfl) (fun _ _ _ h => h) ?b40 hHeld ?c40
        case a40 => (simp only [List.getElem?_toArray, List.getElem?_cons_succ, List.getElem?_cons_zero]; exact rfl)
        case b40 => (refine Or.inl ⟨by rfl, ?_⟩; intro w hSw; (try dsimp only at hSw); go_simp; try exact rfl)
        try simp only [Act.put, List.setIfInBounds_toArray, List.set_cons_zero, List.set_cons_succ]
        refine wpAnyH_take (i := 41) (oi := ?o41) (v := ?v41) ?a41 (by kernel_rfl) (by kernel_rfl) (by kernel_rfl) (fun _ _ _ h => h) ?b41 hHeld ?c41
        case a41 => (simp only [List.getElem?_toArray, List.getElem?_cons_succ, List.getElem?_cons_zero]; exact rfl)
        case b41 => (refine Or.inl ⟨by rfl, ?_⟩; intro w hSw; (try dsimp only at hSw); go_simp; try exact rfl)
        try simp only [Act.put, List.setIfInBounds_toArray, List.set_cons_zero, List.set_cons_succ]
        refine wpAnyH_take (i := 42) (oi := ?o42) (v := ?v42) ?a42 (by kernel_rfl) (by kernel_rfl) (by kernel_rfl) (fun _ _ _ h => h) ?b42 hHeld ?c42
        case a42 => (simp only [List.getElem?_toArray, List.getElem?_cons_succ, List.getElem?_cons_zero]; exact rfl)
        case b42 => (refine Or.inl ⟨by rfl, ?_⟩; intro w hSw; (try dsimp only at hSw); go_simp; try exact rfl)
        try simp only [Act.put, List.setIfInBounds_toArray, List.set_cons_zero, List.set_cons_succ]
        refine wpAnyH_ready (rs := [39]) (by kernel_rfl) (by simp) ?_
        refine AllReadyH.cons (o := ?o39) ?a39 (fun K hK => ?b39) AllReadyH.nil
        case a39 => (simp only [List.getElem?_toArray, List.getElem?_cons_succ, List.getElem?_cons_zero]; exact rfl)
        go_simp
        refine (may_any _ _ _).mono ?_
        rintro e w' ⟨rfl, hb⟩
        refine hK.out _ _ ?_ (fun hHeld2 => ?_)
        · obtain ⟨h0, h1, h2, h3, h4, h5, h6, h7, h8, h9, h10⟩ := hHeld
          exact ⟨cell_keep hb h0, cell_keep hb h1, cell_keep hb h2, cell_keep hb h3, cell_keep hb h4, cell_keep hb h5, cell_keep hb h6, cell_keep hb h7, cell_keep hb h8, cell_keep hb h9, h10.trans (hb.mono h10.size)⟩
        clear hK K hHeld hb
        have hHeld := hHeld2
        clear hHeld2
        try simp only [Act.put, List.setIfInBounds_toArray, List.set_cons_zero, List.set_cons_succ]
        refine wpAnyH_take (i := 43) (oi := ?o43) (v := ?v43) ?a43 (by kernel_rfl) (by kernel_rfl) (by kernel_rfl) (fun _ _ _ h => h) ?b43 hHeld ?c43
        case a43 => (simp only [List.getElem?_toArray, List.getElem?_cons_succ, List.getElem?_cons_zero]; exact rfl)
        case b43 => (refine Or.inl ⟨by rfl, ?_⟩; intro w hSw; (try dsimp only at hSw); go_simp; try exact rfl)
        try simp only [Act.put, List.setIfInBounds_toArray, List.set_cons_zero, List.set_cons_succ]
        refine wpAnyH_take (i := 44) (oi := ?o44) (v := undef) ?a44 (by kernel_rfl) (by kernel_rfl) (by kernel_rfl) (fun _ _ _ h => h) ?b44 hHeld ?c44
        case a44 => (simp only [List.getElem?_toArray, List.getElem?_cons_succ, List.getElem?_cons_zero]; exact rfl)
        case b44 => (exact Or.inr ⟨by rfl, rfl⟩)
        try simp only [Act.put, List.setIfInBounds_toArray, List.set_cons_zero, List.set_cons_succ]
        refine wpAnyH_take (i := 45) (oi := ?o45) (v := undef) ?a45 (by kernel_rfl) (by kernel_rfl) (by kernel_rfl) (fun _ _ _ h => h) ?b45 hHeld ?c45
        case a45 => (simp only [List.getElem?_toArray, List.getElem?_cons_succ, List.getElem?_cons_zero]; exact rfl)
        case b45 => (exact Or.inr ⟨by rfl, rfl⟩)
        try simp only [Act.put, List.setIfInBounds_toArray, List.set_cons_zero, List.set_cons_succ]
        refine wpAnyH_take (i := 46) (oi := ?o46) (v := undef) ?a46 (by kernel_rfl) (by kernel_rfl) (by kernel_rfl) (fun _ _ _ h => h) ?b46 hHeld ?c46
        case a46 => (simp only [List.getElem?_toArray, List.getElem?_cons_succ, List.getElem?_cons_zero]; exact rfl)
        case b46 => (exact Or.inr ⟨by rfl, rfl⟩)
        try simp only [Act.put, List.setIfInBounds_toArray, List.set_cons_zero, List.set_cons_succ]
        refine wpAnyH_take (i := 47) (oi := ?o47) (v := ?v47) ?a47 (by kernel_rfl) (by kernel_rfl) (by kernel_rfl) (fun _ _ _ h => h) ?b47 hHeld ?c47
        case a47 => (simp only [List.getElem?_toArray, List.getElem?_cons_succ, List.getElem?_cons_zero]; exact rfl)
        case b47 => (refine Or.inl ⟨by rfl, ?_⟩; intro w hSw; (try dsimp only at hSw); go_simp; try exact rfl)
        try simp only [Act.put, List.setIfInBounds_toArray, List.set_cons_zero, List.set_cons_succ]
        refine wpAnyH_take (i := 48) (oi := ?o48) (v := ?v48) ?a48 (by kernel_rfl) (by kernel_rfl) (by kernel_rfl) (fun _ _ _ h => h) ?b48 hHeld ?c48
        case a48 => (simp only [List.getElem?_toArray, List.getElem?_cons_succ, List.getElem?_cons_zero]; exact rfl)
        case b48 => (refine Or.inl ⟨by rfl, ?_⟩; intro w hSw; (try dsimp only at hSw); go_simp; try exact rfl)
        try simp only [Act.put, List.setIfInBounds_toArray, List.set_cons_zero, List.set_cons_succ]
        refine wpAnyH_take (i := 49) (oi := ?o49) (v := ?v49) ?a49 (by kernel_rfl) (by kernel_rfl) (by kernel_rfl) (fun _ _ _ h => h) ?b49 hHeld ?c49
        case a49 => (simp only [List.getElem?_toArray, List.getElem?_cons_succ, List.getElem?_cons_zero]; exact rfl)
        case b49 => (refine Or.inl ⟨by rfl, ?_⟩; intro w hSw; (try dsimp only at hSw); go_simp; try exact rfl)
        try simp only [Act.put, List.setIfInBounds_toArray, List.set_cons_zero, List.set_cons_succ]
        refine wpAnyH_take (i := 50) (oi := ?o50) (v := ?v50) ?a50 (by kernel_rfl) (by kernel_rfl) (by kernel_rfl) (fun _ _ _ h => h) ?b50 hHeld ?c50
        case a50 => (simp only [List.getElem?_toArray, List.getElem?_cons_succ, List.getElem?_cons_zero]; exact rfl)
        case b50 => (refine Or.inl ⟨by rfl, ?_⟩; intro w hSw; (try dsimp only at hSw); go_simp; try exact rfl)
        try simp only [Act.put, List.setIfInBounds_toArray, List.set_cons_zero, List.set_cons_succ]
        refine wpAnyH_ready (rs := [51]) (by kernel_rfl) (by simp) ?_
        refine AllReadyH.cons (o := ?o51) ?a51 (fun K hK => ?b51) AllReadyH.nil
        case a51 => (simp only [List.getElem?_toArray, List.getElem?_cons_succ, List.getElem?_cons_zero]; exact rfl)
        go_simp
        refine (awake_any _).mono ?_
        rintro e w' ⟨rfl, hb⟩
        refine hK.out _ _ ?_ (fun hHeld2 => ?_)
        · obtain ⟨h0, h1, h2, h3, h4, h5, h6, h7, h8, h9, h10⟩ := hHeld
          exact ⟨cell_keep hb h0, cell_keep hb h1, cell_keep hb h2, cell_keep hb h3, cell_keep hb h4, cell_keep hb h5, cell_keep hb h6, cell_keep hb h7, cell_keep hb h8, cell_keep hb h9, h10.trans (hb.mono h10.size)⟩
        clear hK K hHeld hb
        have hHeld := hHeld2
        clear hHeld2
        try simp only [Act.put, List.setIfInBounds_toArray, List.set_cons_zero, List.set_cons_succ]
        refine wpAnyH_take (i := 52) (oi := ?o52) (v := ?v52) ?a52 (by kernel_rfl) (by kernel_rfl) (by kernel_rfl) (fun _ _ _ h => h) ?b52 hHeld ?c52
        case a52 => (simp only [List.getElem?_toArray, List.getElem?_cons_succ, List.getElem?_cons_zero]; exact rfl)
        case b52 => (refine Or.inl ⟨by rfl, ?_⟩; intro w hSw; (try dsimp only at hSw); go_simp; try exact rfl)
        try simp only [Act.put, List.setIfInBounds_toArray, List.set_cons_zero, List.set_cons_succ]
        refine wpAnyH_take (i := 53) (oi := ?o53) (v := ?v53) ?a53 (by kernel_rfl) (by kernel_rfl) (by kernel_rfl) (fun _ _ _ h => h) ?b53 hHeld ?c53
        case a53 => (simp only [List.getElem?_toArray, List.getElem?_cons_succ, List.getElem?_cons_zero]; exact rfl)
        case b53 => (refine Or.inl ⟨by rfl, ?_⟩; intro w hSw; (try dsimp only at hSw); go_simp; try exact rfl)
        try simp only [Act.put, List.setIfInBounds_toArray, List.set_cons_zero, List.set_cons_succ]
        refine wpAnyH_done (by kernel_rfl) ?_ _
        refine NoPanic.normal ?_
        go_wp2_with fail
        go_ret
        obtain ⟨_, _, _, _, _, _, _, _, _, _, h10⟩ := hHeld
        exact ⟨by first | (simp; done) | (simp [*]; done), h10⟩

end Go.Proofs.Ytlmgmojicpdbeaa.exactTotals
