/- Parts of a proof: Layers 17 and 20: rows, as the document has them. -/
import Derived.Test.YthmbgbmcdbdecaaGreatG02
import Derived.Test.YthmbgbmcdbdecaaGreatG03
namespace Go.Proofs.YthmbgbmcdbdecaaGreat.Tc
open Go.RowKit Base
set_option linter.unusedVariables false
set_option linter.unusedSimpArgs false
structure RwsAt (w : World) (B : Nat) (A : Option Addr) (l : List Rw) : Prop where
 n : l.length ≤ maxLen
 row : Row w B A (l.flatMap rwV)
 each : ∀ r ∈ l, RwAt w B r
theorem RwsAt.below {w w' : World} {B : Nat} {A : Option Addr} {l : List Rw} (h : RwsAt w B A l) (hb : Below B w w') : RwsAt w' B A l := ⟨h.n, h.row.below hb, fun r hr => (h.each r hr).below hb⟩
theorem RwsAt.more {w : World} {B B' : Nat} {A : Option Addr} {l : List Rw} (h : RwsAt w B A l) (hB : B ≤ B') : RwsAt w B' A l := ⟨h.n, h.row.more hB, fun r hr => (h.each r hr).more hB⟩
theorem RwsAt.rw_ {w : World} {B : Nat} {A : Option Addr} {l : List Rw} (h : RwsAt w B A l) (k : Nat) (hk : k < l.length) :
 ∃ b off, A = some ⟨b, off, none⟩ ∧ b < B ∧ w.cell? ⟨b, off + k * 2, none⟩ = some (.slice l[k].A l[k].terms.length l[k].c) ∧ w.cell? ⟨b, off + k * 2 + 1, none⟩ = some (.slice l[k].Av l[k].vals.length l[k].cv) := by
 obtain ⟨b, off, e, hb, hc⟩ := Row.rec rwV_len h.row (by omega) k hk
 exact ⟨b, off, e, hb, hc 0 _ rfl, hc 1 _ rfl⟩
set_option maxRecDepth 100000 in
set_option maxHeartbeats 2000000 in
theorem r20few_any (A : Option Addr) (l : List Rw) (c : Nat) (w : World) (h : RwsAt w w.heap.size A l) : Calls Tryz.prog 17 #[.slice A l.length c] w (RetB (fun _ => True) w) := by
 have HR := kp (fun r w' hb => RetB.mono (P := fun _ => True) (w := w) (r := r) (w' := w') trivial hb)
 have H := kp h
 have hn := h.n
 unfold maxLen at hn
 clear h
 generalize hQ : RetB (fun _ => True) w = Q at *
 clear hQ
 go_enter Tryz.func17, Tryz.ntmps17
 go_wp2_with fail
 go_loopw [3, 4] (fun v3 v4 wr => ∃ (k : Nat) (x : Int), k ≤ l.length ∧ k ≤ 311 ∧ v3 = .int .i64 x ∧ v4 = .int .i64 k ∧ Below w.heap.size w wr) (fun _ v4 _ => l.length - (intOf v4).toNat)
 case atStart => exact ⟨0, 0, Nat.zero_le _, by omega, rfl, rfl, Below.refl _ _⟩
 case round =>
  obtain ⟨k, x, hk, hk2, rfl, rfl, hbe⟩ := hrel
  have Hbe := kp hbe
  clear hbe
  by_cases hgo : k < l.length ∧ k ≤ 310
  ·obtain ⟨hlt, h310⟩ := hgo
   have hs := (H.out.below Hbe.out).more Hbe.out.size
   obtain ⟨b, off, rfl, hb, c0, c1⟩ := hs.rw_ k hlt
   have Hr := kp (hs.each _ (List.getElem_mem hlt))
   have hrn := (hs.each _ (List.getElem_mem hlt)).n
   have hrv := (hs.each _ (List.getElem_mem hlt)).nv
   unfold maxLen at hrn hrv
   clear hs
   generalize (l[k]'hlt) = r at *
   have hi0 : (0 : Int) ≤ (k : Int) := by omega
   have hi1 : (k : Int) < (l.length : Int) := by omega
   have hi2 : (k : Int) ≤ 310 := by omega
   by_cases h20 : r.terms.length ≤ 20 ∧ r.vals.length ≤ 20
   ·obtain ⟨ht20, hv20⟩ := h20
    have ht' : ¬ (20 : Int) < (r.terms.length : Int) := by omega
    have hv' : ¬ (20 : Int) < (r.vals.length : Int) := by omega
    go_wp2_with fail
    go_loop [3, 39] (fun v3 v39 => ∃ (q : Nat) (y : Int), q ≤ r.terms.length ∧ v3 = .int .i64 y ∧ v39 = .int .i64 q) (fun _ v39 => r.terms.length - (intOf v39).toNat)
    case atStart => exact ⟨0, x, Nat.zero_le _, rfl, rfl⟩
    case round =>
     obtain ⟨q, y, hq, rfl, rfl⟩ := hrel
     by_cases hqd : q < r.terms.length
     ·obtain ⟨b', off', hA', hb', t0⟩ := Row.at_ Hr.out.terms (k := q) (by rw [List.length_map]; exact hqd)
      rw [List.getElem_map] at t0
      have hzz := Hr.out.sz _ (List.getElem_mem hqd)
      unfold maxLen at hzz
      rw [hA']
      clear hA'
      generalize (r.terms[q]'hqd) = z at *
      have hi3 : (0 : Int) ≤ (q : Int) := by omega
      have hi4 : (q : Int) < (r.terms.length : Int) := by omega
      go_wp2_with fail
      all_goals
       go_round
       case rel => exact ⟨q + 1, _, by omega, rfl, by go_num⟩
       case measure => simp [intOf]; omega
     ·go_wp2_with fail
      exact ⟨⟨k + 1, y, by omega, by omega, rfl, by go_num, Hbe.out⟩, by simp [intOf]; omega⟩
   ·go_wp2_with fail
    all_goals first
     | exact HR.out _ _ Hbe.out
     | (exfalso; omega)
  ·go_wp2_with fail
   all_goals first
    | exact HR.out _ _ Hbe.out
    | (exfalso; omega)
def fin (d : Dim) : List ByteArray := match d.tiers with
 | t :: _ => t.terms
 | [] => []
structure RowKeys (s : Sch) (r : Rw) (keys : List Nat) : Prop where
 n : keys.length = s.dims.length
 nt : r.terms.length = s.dims.length
 nv : r.vals.length = s.meas.length
 at_ : ∀ (i : Nat) (d : Dim) (t : ByteArray) (k : Nat), s.dims[i]? = some d → r.terms[i]? = some t → keys[i]? = some k → (fin d)[k]? = some t
theorem DimOk.fin_ok {d : Dim} (h : DimOk d) : RowOk (fin d) ∧ ∃ t, d.tiers[0]? = some t ∧ fin d = t.terms := by
 have h1 := h.n1
 unfold fin
 rcases hd : d.tiers with _ | ⟨t, ts⟩
 ·rw [hd] at h1; simp at h1
 ·have := (h.tiers 0 (by rw [hd]; simp)).row
  simp [hd] at this
  exact ⟨this, t, rfl, rfl⟩
theorem RowOk.inj {l : List ByteArray} (h : RowOk l) {i j : Nat} {x : ByteArray} (hi : l[i]? = some x) (hj : l[j]? = some x) : i = j := by
 obtain ⟨h1, e1⟩ := List.getElem?_eq_some_iff.1 hi
 obtain ⟨h2, e2⟩ := List.getElem?_eq_some_iff.1 hj
 rcases Nat.lt_trichotomy i j with hij | hij | hij
 ·have := h.lt hij h2
  rw [e1, e2, less_irrefl] at this
  cases this
 ·exact hij
 ·have := h.lt hij h1
  rw [e1, e2, less_irrefl] at this
  cases this
theorem RowKeys.eq {s : Sch} {r : Rw} {k1 k2 : List Nat} (hs : SchOk s) (h1 : RowKeys s r k1) (h2 : RowKeys s r k2) : k1 = k2 := by
 apply List.ext_getElem (by rw [h1.n, h2.n])
 intro i hi hj
 have hd : i < s.dims.length := by rw [← h1.n]; exact hi
 have ht : i < r.terms.length := by rw [h1.nt]; exact hd
 exact (hs.dims i hd).fin_ok.1.inj (h1.at_ i _ _ _ (List.getElem?_eq_getElem hd) (List.getElem?_eq_getElem ht) (List.getElem?_eq_getElem hi)) (h2.at_ i _ _ _ (List.getElem?_eq_getElem hd) (List.getElem?_eq_getElem ht) (List.getElem?_eq_getElem hj))
end Go.Proofs.YthmbgbmcdbdecaaGreat.Tc
