/- Layer 7: acts, as they lie in memory; whether they are few. -/
import Derived.Test.YtbjjfbojcokmgaaOpen2
import Derived.Test.YtbjjfbojcokmgaaDv12
namespace Go.Proofs.Ytbjjfbojcokmgaa.Dv
open Go.ChangeShapes Go.WideShapes Go.ChangeAt Go.RowKit Go.Joins Go.Deep Base
set_option linter.unusedVariables false
set_option linter.unusedSimpArgs false

/-- an act -/
structure Ac where
  kind : Int
  at_ : Int
  torn : Int
  data : ByteArray
  raw : Bool
  A : Option Addr
  keep : List Int
  c : Nat
def acV (a : Ac) : List Value := [.int .i64 a.kind, .int .i64 a.at_, .int .i64 a.torn, .string a.data, .bool a.raw, .slice a.A a.keep.length a.c]
def actV (l : List Ac) : List Value := l.flatMap acV
theorem actV_cons (a : Ac) (l : List Ac) : actV (a :: l) = acV a ++ actV l := by unfold actV; rw [List.flatMap_cons]
theorem actV_len (l : List Ac) : (actV l).length = l.length * 6 := by
  induction l with
  | nil => rfl
  | cons a l ih => rw [actV_cons, List.length_append, ih]; simp [acV]; omega
theorem actV_at (l : List Ac) (k : Nat) (h : k < l.length) (j : Nat) (hj : j < 6) : (actV l)[k * 6 + j]? = (acV l[k])[j]? := by
  induction l generalizing k with
  | nil => simp at h
  | cons a l ih =>
    rw [actV_cons]
    cases k with
    | zero => rw [List.getElem?_append_left (by simp [acV]; omega)]; simp
    | succ k =>
      have h' : k < l.length := by simpa using h
      rw [List.getElem?_append_right (by simp [acV]; omega), show (k + 1) * 6 + j - (acV a).length = k * 6 + j by simp [acV]; omega, ih k h']
      rfl
theorem actV_get {l : List Ac} {i : Nat} {v : Value} (h : (actV l)[i]? = some v) : ∃ hk : i / 6 < l.length, (acV l[i / 6])[i % 6]? = some v := by
  have hlt : i < (actV l).length := (List.getElem?_eq_some_iff.1 h).1
  rw [actV_len] at hlt
  have hk : i / 6 < l.length := by omega
  refine ⟨hk, ?_⟩
  have e := actV_at l (i / 6) hk (i % 6) (by omega)
  rw [show i / 6 * 6 + i % 6 = i by omega, h] at e
  exact e.symm
theorem Row.acts {w : World} {B : Nat} {A : Option Addr} {l : List Ac} (h : Row w B A (actV l)) (k : Nat) (hk : k < l.length) :
    ∃ b off, A = some ⟨b, off, none⟩ ∧ b < B ∧ w.cell? ⟨b, off + k * 6, none⟩ = some (.int .i64 l[k].kind) ∧ w.cell? ⟨b, off + k * 6 + 1, none⟩ = some (.int .i64 l[k].at_) ∧ w.cell? ⟨b, off + k * 6 + 2, none⟩ = some (.int .i64 l[k].torn) ∧ w.cell? ⟨b, off + k * 6 + 3, none⟩ = some (.string l[k].data) ∧ w.cell? ⟨b, off + k * 6 + 4, none⟩ = some (.bool l[k].raw) ∧ w.cell? ⟨b, off + k * 6 + 5, none⟩ = some (.slice l[k].A l[k].keep.length l[k].c) := by
  have hl := actV_len l
  rcases h with h | ⟨b, off, e, hb, hc⟩
  · rw [h] at hl
    simp at hl
    omega
  · refine ⟨b, off, e, hb, hc _ _ (actV_at l k hk 0 (by omega)), ?_, ?_, ?_, ?_, ?_⟩
    · rw [Nat.add_assoc]; exact hc _ _ (actV_at l k hk 1 (by omega))
    · rw [Nat.add_assoc]; exact hc _ _ (actV_at l k hk 2 (by omega))
    · rw [Nat.add_assoc]; exact hc _ _ (actV_at l k hk 3 (by omega))
    · rw [Nat.add_assoc]; exact hc _ _ (actV_at l k hk 4 (by omega))
    · rw [Nat.add_assoc]; exact hc _ _ (actV_at l k hk 5 (by omega))
/-- what an act may be, as it lies in memory -/
def AcOk (w : World) (a : Ac) : Prop := a.data.size ≤ maxLen ∧ a.keep.length ≤ maxLen ∧ Row w w.heap.size a.A (a.keep.map (Value.int .i64)) ∧ a.at_ ≤ 9223372036854775807
section
variable {H : Type} {enc : TypeId × Value → H} {W : World} {base : Nat}
theorem open_acts {v : Value} {b0 : Nat} {sp : Nat → Bool} {held : Bool} {fuel : Nat} {x : DataW H × List MemPlace} (h : DataW.trod enc Try.prog W b0 sp held fuel 22 [v] = some x) :
    ∃ (A : Option Addr) (l : List Ac) (c : Nat), v = .slice A l.length c ∧ l.length ≤ maxLen ∧ Row W W.heap.size A (actV l) ∧ ∀ a ∈ l, AcOk W a := by
  rcases open_struct_row Try.underlying22 Try.underlying31 (by kernel_rfl) (by kernel_rfl) h with hcs | ⟨a, len, cap, hcs, hl, hm, hc⟩
  · injection hcs with hcs _
    exact ⟨none, [], 0, hcs, Nat.zero_le _, .inl rfl, by simp⟩
  · injection hcs with hcs _
    obtain ⟨ps, hpl, hq⟩ := list_of (fun i (p : Ac) => (∀ j u, (acV p)[j]? = some u → W.cell? (a.add (i * 6 + j)) = some u) ∧ AcOk W p) len (fun i hi => by
      obtain ⟨u0, n0, y0, c0, t0⟩ := hc i hi 0 _ rfl
      obtain ⟨z0, e0, _, _⟩ := DataW.trod_int Try.underlying3 t0
      obtain ⟨u1, n1, y1, c1, t1⟩ := hc i hi 1 _ rfl
      obtain ⟨z1, e1, _, hw1⟩ := DataW.trod_int Try.underlying3 t1
      obtain ⟨u2, n2, y2, c2, t2⟩ := hc i hi 2 _ rfl
      obtain ⟨z2, e2, _, _⟩ := DataW.trod_int Try.underlying3 t2
      obtain ⟨u3, n3, y3, c3, t3⟩ := hc i hi 3 _ rfl
      obtain ⟨z3, e3, _, hsz⟩ := DataW.trod_string Try.underlying9 t3
      obtain ⟨u4, n4, y4, c4, t4⟩ := hc i hi 4 _ rfl
      obtain ⟨z4, e4, _⟩ := DataW.trod_bool Try.underlying4 t4
      obtain ⟨u5, n5, y5, c5, t5⟩ := hc i hi 5 _ rfl
      obtain ⟨A5, l5, k5, rfl, hlc, hcm, hr5⟩ := open_ints_row Try.underlying23 Try.underlying3 (by kernel_rfl) t5
      injection e0 with e0 _
      injection e1 with e1 _
      injection e2 with e2 _
      injection e3 with e3 _
      injection e4 with e4 _
      subst e0 e1 e2 e3 e4
      refine ⟨⟨z0, z1, z2, z3, z4, A5, l5, k5⟩, fun j u hj => ?_, hsz, by show l5.length ≤ _; omega, hr5, by simp [Lit.wf] at hw1; exact hw1.2⟩
      match j, hj with
      | 0, hj => injection hj with hj; subst hj; exact c0
      | 1, hj => injection hj with hj; subst hj; exact c1
      | 2, hj => injection hj with hj; subst hj; exact c2
      | 3, hj => injection hj with hj; subst hj; exact c3
      | 4, hj => injection hj with hj; subst hj; exact c4
      | 5, hj => injection hj with hj; subst hj; exact c5
      | j + 6, hj => simp [acV] at hj)
    refine ⟨some a, ps, cap, by rw [hpl]; exact hcs, by rw [hpl]; omega, row_of_cells fun i u hu => ?_, fun p hp => ?_⟩
    · obtain ⟨hk, hg⟩ := actV_get hu
      have := (hq (i / 6) hk).1 (i % 6) u hg
      rw [show i / 6 * 6 + i % 6 = i by omega] at this
      exact this
    · obtain ⟨i, hi, rfl⟩ := List.getElem_of_mem hp
      exact (hq i hi).2
end

def smA (l : List Ac) : Nat := (l.map fun a => min a.data.size 10000 + min a.keep.length 10000).sum
theorem smA_step (l : List Ac) (k : Nat) (hk : k < l.length) : smA (l.take (k + 1)) = smA (l.take k) + (min l[k].data.size 10000 + min l[k].keep.length 10000) := by
  unfold smA
  rw [List.take_succ_eq_append_getElem hk, List.map_append, List.sum_append]
  simp
theorem smA_len (l : List Ac) : smA l ≤ l.length * 20000 := by
  unfold smA
  induction l with
  | nil => simp
  | cons a l ih => simp only [List.map_cons, List.sum_cons, List.length_cons]; omega
theorem smA_le (l : List Ac) (k : Nat) : smA (l.take k) ≤ k * 20000 :=
  Nat.le_trans (smA_len _) (Nat.mul_le_mul_right _ (by simp; omega))
theorem smA_mem (l : List Ac) (a : Ac) (ha : a ∈ l) : min a.data.size 10000 + min a.keep.length 10000 ≤ smA l := by
  unfold smA
  induction l with
  | nil => cases ha
  | cons b l ih =>
    simp only [List.map_cons, List.sum_cons]
    rcases List.mem_cons.1 ha with rfl | h
    · omega
    · have := ih h
      omega
def fewA (l : List Ac) : Bool := decide (l.length ≤ 40 ∧ smA l ≤ 8000)
theorem fewA_mem {l : List Ac} (h : fewA l = true) {a : Ac} (ha : a ∈ l) : a.data.size ≤ 8000 ∧ a.keep.length ≤ 8000 := by
  have h' : l.length ≤ 40 ∧ smA l ≤ 8000 := by unfold fewA at h; simpa using h
  have := smA_mem l a ha
  omega

set_option maxRecDepth 100000 in
set_option maxHeartbeats 2000000 in
theorem few_any (A : Option Addr) (c : Nat) (l : List Ac) (w : World) (hl : l.length ≤ maxLen) (hz : ∀ a ∈ l, a.data.size ≤ maxLen ∧ a.keep.length ≤ maxLen) (hr : Row w w.heap.size A (actV l)) :
    Calls Try.prog 7 #[.slice A l.length c] w fun e w' => e = .returned (.bool (fewA l)) ∧ Below w.heap.size w w' := by
  have Hr := Lib.hid hr
  have Hz := Lib.hid hz
  have HF := Lib.hid (show fewA l = decide (l.length ≤ 40 ∧ smA l ≤ 8000) from rfl)
  generalize fewA l = V at *
  unfold maxLen at hl
  clear hr hz
  generalize hN : l.length = n at *
  have Hn := Lib.hid hN
  clear hN
  go_enter Try.func7, Try.ntmps7
  go_wp2_with fail
  go_loopw [3, 4] (fun t i wr => ∃ (k x : Nat), k ≤ n ∧ k ≤ 41 ∧ x = smA (l.take k) ∧ i = .int .i64 k ∧ t = .int .i64 x ∧ Below w.heap.size w wr) (fun _ i _ => n - (intOf i).toNat)
  case atStart => exact ⟨0, 0, Nat.zero_le _, by omega, rfl, rfl, rfl, Below.refl _ _⟩
  case round =>
    obtain ⟨k, x, hk, hk41, hx0, rfl, rfl, hbe⟩ := hrel
    have hx : x ≤ k * 20000 := by rw [hx0]; exact smA_le l k
    have Hx := Lib.hid hx0
    have Hbe := Lib.hid hbe
    clear hx0 hbe
    by_cases hkn : k < n
    · have d1 : decide ((k : Int) < (n : Int)) = true := by simp; omega
      by_cases hk40 : k ≤ 40
      · have d2 : decide ((k : Int) ≤ 40) = true := by simp; omega
        have hkl : k < l.length := by rw [Hn.out]; exact hkn
        obtain ⟨b, off, rfl, hb, c0, c1, c2, c3, c4, c5⟩ := Row.acts ((Hr.out.below Hbe.out).more Hbe.out.size) k hkl
        have hi0 : (0 : Int) ≤ (k : Int) := by omega
        have hi1 : (k : Int) < (n : Int) := by omega
        have hz := Hz.out _ (List.getElem_mem hkl)
        unfold maxLen at hz
        obtain ⟨hz1, hz2⟩ := hz
        have Hst := Lib.hid (smA_step l k hkl)
        clear c0 c1 c2 c4
        generalize (l[k]'hkl).data = s at *
        generalize (l[k]'hkl).keep.length = q at *
        generalize (l[k]'hkl).A = A' at *
        generalize (l[k]'hkl).c = c' at *
        obtain ⟨y, hy⟩ : ∃ y : Nat, y = min s.size 10000 := ⟨_, rfl⟩
        have hmn : min (s.size : Int) 10000 = (y : Int) := by omega
        have hy1 : y ≤ 10000 := by omega
        obtain ⟨z, hz⟩ : ∃ z : Nat, z = min q 10000 := ⟨_, rfl⟩
        have hmz : min (q : Int) 10000 = (z : Int) := by omega
        have hz1 : z ≤ 10000 := by omega
        have Hy := Lib.hid hy
        have Hz' := Lib.hid hz
        clear hy hz
        go_wp2_with fail
        go_region
        go_wp2_with fail
        refine ⟨⟨k + 1, x + (y + z), by omega, by omega, by rw [Hst.out, ← Hx.out, Hy.out, Hz'.out], by go_num, by go_num, Hbe.out.drew⟩, by simp [intOf]; omega⟩
      · have d2 : decide ((k : Int) ≤ 40) = false := by simp; omega
        have d3 : decide ((n : Int) ≤ 40) = false := by simp; omega
        have HVt := Lib.hid (show V = false by rw [HF.out]; simp; omega)
        go_wp2_with fail
        go_ret
        exact ⟨by rw [HVt.out]; rfl, Hbe.out⟩
    · have d1 : decide ((k : Int) < (n : Int)) = false := by simp; omega
      have hke : k = n := by omega
      subst hke
      have Hx2 := Lib.hid (show x = smA l by rw [Hx.out, List.take_of_length_le (by rw [Hn.out]; exact Nat.le_refl _)])
      by_cases h40 : k ≤ 40
      · have d3 : decide ((k : Int) ≤ 40) = true := by simp; omega
        by_cases h20 : x ≤ 8000
        · have d4 : decide ((x : Int) ≤ 8000) = true := by simp; omega
          have HVt := Lib.hid (show V = true by rw [HF.out, ← Hx2.out]; simp; omega)
          go_wp2_with fail
          go_ret
          exact ⟨by rw [HVt.out]; rfl, Hbe.out⟩
        · have d4 : decide ((x : Int) ≤ 8000) = false := by simp; omega
          have HVt := Lib.hid (show V = false by rw [HF.out, ← Hx2.out]; simp; omega)
          go_wp2_with fail
          go_ret
          exact ⟨by rw [HVt.out]; rfl, Hbe.out⟩
      · have d3 : decide ((k : Int) ≤ 40) = false := by simp; omega
        have HVt := Lib.hid (show V = false by rw [HF.out]; simp; omega)
        go_wp2_with fail
        go_ret
        exact ⟨by rw [HVt.out]; rfl, Hbe.out⟩

end Go.Proofs.Ytbjjfbojcokmgaa.Dv
