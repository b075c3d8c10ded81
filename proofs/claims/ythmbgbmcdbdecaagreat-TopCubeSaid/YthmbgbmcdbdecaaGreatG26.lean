/- Parts of a proof: Layer 26: a part's name. Layer 26: which member stands under which, of all tiers. Layer 26: groups, sorted by their keys. -/
import Derived.Test.YthmbgbmcdbdecaaGreatG05
import Derived.Test.YthmbgbmcdbdecaaGreatG07
import Derived.Test.YthmbgbmcdbdecaaGreatG12
import Derived.Test.YthmbgbmcdbdecaaGreatG18
import Derived.Test.YthmbgbmcdbdecaaGreatG20
import Derived.Test.YthmbgbmcdbdecaaGreatG25
import Derived.Maps.Own
import Derived.Maps.OwnOps
import Derived.Maps.OwnSet
import Derived.Maps.Views
import Derived.Lib.SliceRun
import Derived.Deep.LoopGhost
import Derived.RangeFuncNested
import Derived.RangeFuncBound
import Derived.RangeFuncCalls
import Derived.RangeFuncLeaves
import Derived.RangeFuncBox
import Derived.Shelf.Abstract
import Derived.Shelf.RegionOpen
import Derived.OwnWalkIn
import Derived.TacticsInMore
import Derived.LoopNIn
import Derived.LoopIn
import Derived.ChangeKeysEq
import Derived.Laws.IdiomStrings
namespace Go.Proofs.YthmbgbmcdbdecaaGreat.Tc
open Go.RowKit Base
set_option linter.unusedVariables false
set_option linter.unusedSimpArgs false
theorem info_byte : (Tryz.prog.info? 5).map (fun i => (i.zero, i.size, i.bytes)) = some (some (.int .u8 0), 1, 1) := by kernel_rfl
def nameL (at_ : Nat) (part : List Nat) : List UInt8 := UInt8.ofNat at_ :: part.flatMap fun i => [UInt8.ofNat (i / 256), UInt8.ofNat i]
def bytV (l : List UInt8) : List Value := l.map fun b => .int .u8 (b.toNat : Int)
theorem nameL_take {at_ : Nat} {part : List Nat} {k : Nat} (hk : k < part.length) : nameL at_ (part.take (k + 1)) = nameL at_ (part.take k) ++ [UInt8.ofNat (part[k] / 256), UInt8.ofNat part[k]] := by
 unfold nameL
 rw [List.take_succ_eq_append_getElem hk, List.flatMap_append]
 simp
theorem nameL_len (at_ : Nat) (part : List Nat) : (nameL at_ part).length = 1 + part.length * 2 := by
 unfold nameL
 rw [List.length_cons]
 have : (part.flatMap fun i => [UInt8.ofNat (i / 256), UInt8.ofNat i]).length = part.length * 2 := by
  induction part with
  | nil => rfl
  | cons a l ih => rw [List.flatMap_cons, List.length_append, ih]; simp only [List.length_cons, List.length_nil]; omega
 omega
theorem byt_one (l : List UInt8) : ∀ u ∈ bytV l, u.oneCell' = true := by
 intro u hu
 unfold bytV at hu
 obtain ⟨b, _, rfl⟩ := List.mem_map.1 hu
 rfl
theorem byt_mod (i : Nat) : (((UInt8.ofNat i).toNat : Nat) : Int) = (i : Int) % 256 := by
 have h : (UInt8.ofNat i).toNat = i % 256 := by simp
 rw [h]
 omega
theorem bytV_app (l : List UInt8) (i j : Nat) : bytV (l ++ [UInt8.ofNat i, UInt8.ofNat j]) = bytV l ++ [.int .u8 ((i : Int) % 256), .int .u8 ((j : Int) % 256)] := by
 unfold bytV
 rw [List.map_append, List.map_cons, List.map_cons, List.map_nil, byt_mod, byt_mod]
theorem bytV_one (i : Nat) : bytV [UInt8.ofNat i] = [.int .u8 ((i : Int) % 256)] := by
 unfold bytV
 rw [List.map_cons, List.map_nil, byt_mod]
set_option maxRecDepth 100000 in
set_option maxHeartbeats 4000000 in
theorem name_any (A : Option Addr) (c at_ : Nat) (part : List Nat) (w : World) (hr : Row w w.heap.size A (natV part)) (hn : part.length ≤ 100000) (hat : at_ ≤ 1000000) (hp : ∀ i ∈ part, i ≤ 1000000) :
 Calls Tryz.prog 64 #[.int .i64 (at_ : Nat), .slice A part.length c] w fun e w' => e = .returned (.string ⟨(nameL at_ part).toArray⟩) ∧ Below w.heap.size w w' := by
 obtain ⟨i0, ti0, tz0, tz1, tz2⟩ := info_parts info_byte
 have Hr := kp hr
 have Hp := kp hp
 have Hlen := kp (fun k => nameL_len at_ (part.take k))
 generalize hQ : (fun (e : Ending) w' => e = .returned (.string ⟨(nameL at_ part).toArray⟩) ∧ Below w.heap.size w w') = Q
 have HQ := kp (show ∀ w', Below w.heap.size w w' → Q (.returned (.string ⟨(nameL at_ part).toArray⟩)) w' from fun w' hb => by rw [← hQ]; exact ⟨rfl, hb⟩)
 clear hQ hr hp
 obtain ⟨n, hN⟩ : ∃ n, part.length = n := ⟨_, rfl⟩
 have Hn := kp hN
 rw [hN] at hn ⊢
 clear hN
 have hw1 : IntKind.i64.wrap (2 * (n : Int)) = 2 * (n : Int) := IntWalk.i64_in _ (by omega)
 have hw2 : IntKind.i64.wrap (2 * (n : Int) + 1) = 2 * (n : Int) + 1 := IntWalk.i64_in _ (by omega)
 go_enter Tryz.func64, Tryz.ntmps64
 go_wp2_with (first
  | (at_make; refine wpList_make_own _ rfl _ _ 177 rfl w.heap.size 5 i0 (.int .u8 0) 1 Tryz.underlying177 ti0 tz0 tz1 .i64 .i64 (2 * (n : Int) + 1) (2 * n + 1) rfl rfl (by omega) (by rw [tz2]; omega) (by unfold maxLen; omega) (Nat.le_refl _) ?_; intro w1 hown1 hgr1; have Hown1 := kp hown1; have Hgr1 := kp hgr1; clear hown1 hgr1)
  | (at_builtin; refine wpList_append1 rfl (.tmp 13) (.tmp 16) 177 rfl w.heap.size 5 i0 (.int .u8 0) 1 Tryz.underlying177 ti0 tz0 tz1 tz2 rfl w1 (.int .u8 ((at_ : Int) % 256)) rfl (.slice (some ⟨w.heap.size, 0, none⟩) 0 (2 * n + 1)) 0 [] rfl Hown1.out rfl (by omega) (by decide) Hgr1.out.size ?_; intro v5 w5 hown5 happ5; obtain ⟨A5, c5, h5⟩ := own_form hown5; subst h5; have Hown5 := kp hown5; have Hb5 := kp (happ5.below (((Below.refl _ w).grown Hgr1.out (Nat.le_refl _) (fun k hk => by cases hk))) Hown1.out (Nat.le_refl _) Hgr1.out.size); clear hown5 happ5))
 go_loopw [5, 20] (fun v5 v20 wr => ∃ (k : Nat) (A' : Option Addr) (c' : Nat), k ≤ n ∧ v20 = .int .i64 k ∧ v5 = .slice A' (1 + k * 2) c' ∧ wr.ownsRow w.heap.size 5 1 (.slice A' (1 + k * 2) c') (1 + k * 2) (bytV (nameL at_ (part.take k))) ∧ Below w.heap.size w wr) (fun _ v20 _ => n - (intOf v20).toNat)
 case atStart => exact ⟨0, A5, c5, Nat.zero_le _, rfl, rfl, by have := Hown5.out; unfold nameL; rw [List.take_zero, List.flatMap_nil, bytV_one]; exact this, Hb5.out⟩
 case round =>
  obtain ⟨k, A', c', hk, rfl, rfl, hown, hbe⟩ := hrel
  have Hown := kp hown
  have Hbe := kp hbe
  clear hown hbe
  by_cases hlt : k < n
  ·have hkl : k < part.length := by rw [Hn.out]; exact hlt
   obtain ⟨b, off, hA, hb, c0⟩ := Row.at_ ((Hr.out.below Hbe.out).more Hbe.out.size) (k := k) (by rw [natV_len]; exact hkl)
   unfold natV at c0
   rw [List.getElem_map] at c0
   subst hA
   have hpk := Hp.out _ (List.getElem_mem hkl)
   have Hnx := kp (nameL_take (at_ := at_) hkl)
   generalize (part[k]'hkl) = x at *
   have hi0 : (0 : Int) ≤ (k : Int) := by omega
   have hi1 : (k : Int) < (n : Int) := by omega
   have Hs2 := kp Hbe.out.size
   have hk1 : 1 + k * 2 + 2 < 1048576 * 64 := by omega
   go_wp2_with (at_builtin; refine wpList_append_rows rfl (.tmp 24) (.tmp 30) 177 rfl w.heap.size 5 i0 (.int .u8 0) 1 1 Tryz.underlying177 ti0 tz0 tz1 tz2 rfl (by decide) _ (.slice A' (1 + k * 2) c') (1 + k * 2) (bytV (nameL at_ (part.take k))) rfl (Hown.out.alloc (.cells #[.int .u8 ((x : Int) / 256 % 256), .int .u8 ((x : Int) % 256)] 5)) (some ⟨wr.heap.size, 0, none⟩) 2 2 _ [.int .u8 ((x : Int) / 256 % 256), .int .u8 ((x : Int) % 256)] rfl rfl (row_new wr #[.int .u8 ((x : Int) / 256 % 256), .int .u8 ((x : Int) % 256)] 5) (by intro u hu; simp at hu; rcases hu with rfl | rfl <;> rfl) hk1 (by decide) (by simp; have := Hs2.out; omega) ?_; intro v5 w6 hown5 happ5; obtain ⟨A6, c6, h5⟩ := own_form hown5; subst h5; have Hown6 := kp hown5; have Hb6 := kp ((app_alloc happ5).below Hbe.out Hown.out (Nat.le_refl _) Hs2.out); clear hown5 happ5)
   refine ⟨⟨k + 1, A6, c6, by omega, by go_num, ?_, ?_, Hb6.out⟩, by simp [intOf]; omega⟩
   ·rw [Nat.add_mul]; rfl
   ·rw [Hnx.out, bytV_app, show 1 + (k + 1) * 2 = 1 + k * 2 + 2 by omega]
    have := Hown6.out
    rw [show ((x : Int) / 256) = ((x / 256 : Nat) : Int) from rfl] at this
    exact this
  ·obtain rfl : k = n := by omega
   have hlk := Hlen.out k
   rw [List.take_of_length_le (show part.length ≤ k by rw [Hn.out]; exact Nat.le_refl _)] at hlk
   have hown := Hown.out
   rw [List.take_of_length_le (show part.length ≤ k by rw [Hn.out]; exact Nat.le_refl _)] at hown
   rw [Hn.out] at hlk
   have Hf := kp (HQ.out _ Hbe.out)
   obtain ⟨g, cap, cur, hv, hB, hh, hnc, hcm, hcs, ht⟩ : ∃ g cap cur, Value.slice A' (1 + k * 2) c' = .slice (some ⟨g, 0, none⟩) (1 + k * 2) cap ∧ w.heap.size ≤ g ∧ wr.heap[g]? = some (.cells cur 5 (0, 0)) ∧ _ ∧ _ ∧ _ ∧ _ := by
    rcases hown.2 with ⟨_, h0⟩ | h
    ·omega
    ·exact h
   injection hv with hv1 _ hv2
   subst hv1 hv2
   have hback := run_convert_bytes_back (P := Tryz.prog) wr 177 9 5 ⟨g, 0, none⟩ c' (nameL at_ part) Tryz.underlying177 Tryz.underlying5 Tryz.underlying9 (fun j hj => by
    have := hown.cells (g := g) rfl j (.int .u8 (((nameL at_ part)[j]).toNat : Int)) (by unfold bytV; rw [List.getElem?_map, List.getElem?_eq_getElem hj]; rfl)
    exact this)
   rw [hlk] at hback
   clear hown hlk hB hh hnc hcm hcs ht
   go_wp2_with fail
   exact Hf.out
theorem info_intss : (Tryz.prog.info? 81).map (fun i => (i.zero, i.size, i.bytes)) = some (some (.slice none 0 0), 1, 24) := by kernel_rfl
theorem IlsAt.same {w w' : World} {B : Nat} {A : Option Addr} {l : List Fa} (h : IlsAt w B A l) (hs : ∀ b, foot A l b → w'.heap[b]? = w.heap[b]?) : IlsAt w' B A l :=
 ⟨row_same h.row (fun b off e hne => hs b (.inl ⟨off, e, by rintro rfl; exact hne rfl⟩)), fun f hf => row_same (h.each f hf) (fun b off e hne => hs b (.inr ⟨f, hf, off, e, hne⟩))⟩
theorem IlsAt.foot_lt {w : World} {B : Nat} {A : Option Addr} {l : List Fa} (h : IlsAt w B A l) {b : Nat} (hf : foot A l b) : b < B := by
 rcases hf with ⟨off, e, hne⟩ | ⟨f, hf, off, e, hne⟩
 ·rcases h.row with h0 | ⟨b', off', e', hb, _⟩
  ·exact absurd (List.map_eq_nil_iff.1 h0) hne
  ·rw [e] at e'
   injection e' with e'
   injection e' with e1 _ _
   omega
 ·rcases h.each f hf with h0 | ⟨b', off', e', hb, _⟩
  ·exact absurd h0 hne
  ·rw [e] at e'
   injection e' with e'
   injection e' with e1 _ _
   omega
def LfAp (w : World) (v : Value) (r : Rn) : Prop := IlsAt w w.heap.size r.A r.fs ∧ ∀ b, foot r.A r.fs b → v.ownBlock ≠ some b
theorem LfAp.app {wr w' : World} {v v' : Value} {r : Rn} (h : LfAp wr v r) (ha : App wr w' v v') : LfAp w' v' r := by
 have hlt : ∀ b, foot r.A r.fs b → b < wr.heap.size := fun b hb => h.1.foot_lt hb
 refine ⟨(h.1.same (fun b hb => ha.farK (hlt b hb) (h.2 b hb))).more ha.grown.size, fun b hb => ?_⟩
 rcases ha.lies with hl | ⟨k, hl, hk⟩
 ·rw [hl]; exact h.2 b hb
 ·rw [hl]
  intro hh
  injection hh with hh
  have := hlt b hb
  omega
theorem LfAp.below {w w' : World} {v : Value} {r : Rn} (h : LfAp w v r) (hb : Below w.heap.size w w') : LfAp w' v r := ⟨(h.1.below hb).more hb.size, h.2⟩
theorem IlsOwn.foot_from {w : World} {B n c : Nat} {A : Option Addr} {l : List Fa} (h : IlsOwn w B (.slice A n c) l) {b : Nat} (hb : foot A l b) : B ≤ b := by
 rcases hb with ⟨off, e, hne⟩ | ⟨f, hf, off, e, hne⟩
 ·have := h.1
  rw [e] at this
  exact (this.lt b rfl).1
 ·exact h.2.2 f hf b off e hne
theorem LfAp.new {w : World} {B n c : Nat} {A : Option Addr} {l : List Fa} {v : Value} (h : IlsOwn w B (.slice A n c) l) (hv : ∀ k, v.ownBlock = some k → k < B) : LfAp w v ⟨A, l, c⟩ := by
 refine ⟨h.at_, fun b hb hh => ?_⟩
 have h1 := hv b hh
 have h2 := h.foot_from hb
 omega
def LfsOwn (w : World) (B : Nat) (v : Value) (rs : List Rn) : Prop := w.ownsRow B 81 1 v rs.length (rs.map runV) ∧ ∀ r ∈ rs, LfAp w v r ∧ ∀ b, foot r.A r.fs b → B ≤ b
theorem LfsOwn.nil (w : World) (B : Nat) : LfsOwn w B (.slice none 0 0) [] := ⟨own_nil _ _ _ _, fun x hx => by cases hx⟩
theorem LfsOwn.below {w w' : World} {B : Nat} {v : Value} {rs : List Rn} (h : LfsOwn w B v rs) (hb : Below w.heap.size w w') : LfsOwn w' B v rs := ⟨own_below h.1 hb, fun r hr => ⟨(h.2 r hr).1.below hb, (h.2 r hr).2⟩⟩
theorem LfsOwn.base {w : World} {B B' : Nat} {v : Value} {rs : List Rn} (h : LfsOwn w B v rs) (hB : B' ≤ B) : LfsOwn w B' v rs := ⟨own_base h.1 hB, fun r hr => ⟨(h.2 r hr).1, fun b hb => Nat.le_trans hB ((h.2 r hr).2 b hb)⟩⟩
theorem LfsOwn.app {w w' : World} {B n c n' c' : Nat} {A A' : Option Addr} {rs : List Rn} {r : Rn} (h : LfsOwn w B (.slice A n c) rs) (hr : LfAp w (.slice A n c) r) (hf : ∀ b, foot r.A r.fs b → B ≤ b)
 (ho : w'.ownsRow B 81 1 (.slice A' n' c') (n + 1) (rs.map runV ++ [runV r])) (ha : App w w' (.slice A n c) (.slice A' n' c')) (hn : rs.length = n) : LfsOwn w' B (.slice A' n' c') (rs ++ [r]) := by
 refine ⟨?_, fun x hx => ?_⟩
 ·rw [List.length_append, hn, List.map_append]
  exact ho
 ·rcases List.mem_append.1 hx with hx | hx
  ·exact ⟨(h.2 x hx).1.app ha, (h.2 x hx).2⟩
  ·rw [List.mem_singleton.1 hx]; exact ⟨hr.app ha, hf⟩
structure LfsAt (w : World) (B : Nat) (A : Option Addr) (rs : List Rn) : Prop where
 row : Row w B A (rs.map runV)
 each : ∀ r ∈ rs, IlsAt w B r.A r.fs
theorem LfsAt.below {w w' : World} {B : Nat} {A : Option Addr} {rs : List Rn} (h : LfsAt w B A rs) (hb : Below B w w') : LfsAt w' B A rs := ⟨h.row.below hb, fun r hr => (h.each r hr).below hb⟩
theorem LfsAt.more {w : World} {B B' : Nat} {A : Option Addr} {rs : List Rn} (h : LfsAt w B A rs) (hB : B ≤ B') : LfsAt w B' A rs := ⟨h.row.more hB, fun r hr => (h.each r hr).more hB⟩
theorem LfsOwn.at_ {w : World} {B n c : Nat} {A : Option Addr} {rs : List Rn} (h : LfsOwn w B (.slice A n c) rs) : LfsAt w w.heap.size A rs := by
 obtain ⟨A', c', e⟩ := own_form h.1
 injection e with e1 e2 e3
 subst e1 e2 e3
 exact ⟨row_ownK h.1, fun r hr => (h.2 r hr).1.1⟩
def footL (A : Option Addr) (rs : List Rn) (b : Nat) : Prop := (∃ off, A = some ⟨b, off, none⟩ ∧ rs ≠ []) ∨ ∃ r ∈ rs, foot r.A r.fs b
theorem LfsAt.same {w w' : World} {B : Nat} {A : Option Addr} {rs : List Rn} (h : LfsAt w B A rs) (hs : ∀ b, footL A rs b → w'.heap[b]? = w.heap[b]?) : LfsAt w' B A rs :=
 ⟨row_same h.row (fun b off e hne => hs b (.inl ⟨off, e, by rintro rfl; exact hne rfl⟩)), fun r hr => (h.each r hr).same (fun b hb => hs b (.inr ⟨r, hr, hb⟩))⟩
theorem LfsAt.foot_lt {w : World} {B : Nat} {A : Option Addr} {rs : List Rn} (h : LfsAt w B A rs) {b : Nat} (hf : footL A rs b) : b < B := by
 rcases hf with ⟨off, e, hne⟩ | ⟨r, hr, hf⟩
 ·rcases h.row with h0 | ⟨b', off', e', hb, _⟩
  ·exact absurd (List.map_eq_nil_iff.1 h0) hne
  ·rw [e] at e'
   injection e' with e'
   injection e' with e1 _ _
   omega
 ·exact (h.each r hr).foot_lt hf
theorem LfsOwn.foot_from {w : World} {B n c : Nat} {A : Option Addr} {rs : List Rn} (h : LfsOwn w B (.slice A n c) rs) {b : Nat} (hb : footL A rs b) : B ≤ b := by
 rcases hb with ⟨off, e, hne⟩ | ⟨r, hr, hf⟩
 ·have := h.1
  rw [e] at this
  exact (this.lt b rfl).1
 ·exact (h.2 r hr).2 b hf
def liftsN (d : Dim) : List (List Nat) := (List.range d.tiers.length).map (mapN d)
def LiftsRet (s : Sch) (w : World) (e : Ending) (w' : World) : Prop := ∃ (A : Option Addr) (c : Nat) (rs : List Rn), e = .returned (.slice A rs.length c) ∧ LfsOwn w' w.heap.size (.slice A rs.length c) rs ∧ rs.map (fun r => r.fs.map Fa.keys) = s.dims.map liftsN ∧ Below w.heap.size w w'
set_option maxRecDepth 100000 in
set_option maxHeartbeats 8000000 in
theorem lifts_any (s : Sch) (w : World) (h : SchAt w w.heap.size s) (ho : SchOk s) : Calls Tryz.prog 30 #[.agg (schC s)] w (LiftsRet s w) := by
 obtain ⟨i0, ti0, tz0, tz1, tz2⟩ := info_parts info_intss
 obtain ⟨j0, si0, sz0, sz1, sz2⟩ := info_parts info_ints
 have HM := kp map_any
 have HQ := kp (show ∀ A c rs w', LfsOwn w' w.heap.size (.slice A rs.length c) rs → rs.map (fun r => r.fs.map Fa.keys) = s.dims.map liftsN → Below w.heap.size w w' → LiftsRet s w (.returned (.slice A rs.length c)) w' from fun A c rs w' h1 h2 h3 => ⟨A, c, rs, rfl, h1, h2, h3⟩)
 have Hh := kp h
 have Ho := kp ho
 have hn16 := ho.n2
 have hb0 := (Below.refl w.heap.size w).alloc (Nat.le_refl _) (.cells (schC s) 25)
 have HB := kp (Box.new w 25 (schC s))
 have Hb0 := kp hb0
 clear h ho hb0
 generalize hQ : LiftsRet s w = Q at *
 clear hQ
 unfold schC at HB Hb0 ⊢
 obtain ⟨z0, z1, _, _⟩ := HB.out.two
 obtain ⟨m, hm⟩ : ∃ m, s.dims.length = m := ⟨_, rfl⟩
 have Hm := kp hm
 rw [hm] at z0 hn16 HB Hb0 ⊢
 clear hm
 go_enter Tryz.func30, Tryz.ntmps30
 go_wp2_with fail
 clear z0 z1
 generalize w.alloc (.cells #[.slice s.A m s.c, .slice s.Am s.meas.length s.cm] 25) = W0 at *
 go_loopw [3, 11] (fun v3 v11 wr => ∃ (k : Nat) (rs : List Rn) (A : Option Addr) (c : Nat), k ≤ m ∧ v11 = .int .i64 k ∧ v3 = .slice A k c ∧ rs.length = k ∧ rs.map (fun r => r.fs.map Fa.keys) = (s.dims.take k).map liftsN ∧ LfsOwn wr w.heap.size (.slice A k c) rs ∧ Below w.heap.size w wr) (fun _ v11 _ => m - (intOf v11).toNat)
 case atStart => exact ⟨0, [], none, 0, Nat.zero_le _, rfl, rfl, rfl, rfl, LfsOwn.nil _ _, Hb0.out⟩
 case round =>
  obtain ⟨k, rs, A, c, hk, rfl, rfl, hrl, hrk, hown, hbe⟩ := hrel
  have Hrl := kp hrl
  have Hrk := kp hrk
  have Hown := kp hown
  have Hbe := kp hbe
  clear hrl hrk hown hbe
  by_cases hlt : k < m
  ·have hkd : k < s.dims.length := by rw [Hm.out]; exact hlt
   have hat := (Hh.out.below Hbe.out).more Hbe.out.size
   obtain ⟨b, off, hA, hb, c0, c1⟩ := hat.dim k hkd
   have hda := hat.dims _ (List.getElem_mem hkd)
   have hok := Ho.out.dims k hkd
   have hn4 := hok.n2
   have hbG := (Below.refl wr.heap.size wr).alloc (Nat.le_refl _) (.cells (dimC (s.dims[k]'hkd)) 61)
   have Hb3 := kp (Hbe.out.trans (hbG.mono Hbe.out.size))
   have HMk := kp (fun to W (hto : to < (s.dims[k]'hkd).tiers.length) (hW : Below wr.heap.size wr W) => HM.out (s.dims[k]'hkd) to W ((hda.below hW).more hW.size) hok hto)
   have HbG := kp hbG
   have HBd := kp (Box.new wr 61 (dimC (s.dims[k]'hkd)))
   have Hown3 := kp (Hown.out.below hbG)
   have Hxn := kp (show ∀ r : Rn, r.fs.map Fa.keys = liftsN (s.dims[k]'hkd) → (rs ++ [r]).map (fun r => r.fs.map Fa.keys) = (s.dims.take (k + 1)).map liftsN from fun r hr => by rw [List.take_succ_eq_append_getElem hkd, List.map_append, List.map_append, Hrk.out, List.map_cons, List.map_nil, List.map_cons, List.map_nil, hr])
   unfold dimC at HMk HbG HBd Hb3 hbG Hown3
   have HD := kp (show ∀ j (hj : j < (s.dims[k]'hkd).tiers.length), (liftsN (s.dims[k]'hkd)).take (j + 1) = (liftsN (s.dims[k]'hkd)).take j ++ [mapN (s.dims[k]'hkd) j] from fun j hj => by
    rw [List.take_succ_eq_append_getElem (by unfold liftsN; rw [List.length_map, List.length_range]; exact hj)]
    unfold liftsN
    rw [List.getElem_map, List.getElem_range])
   have HDl := kp (show (liftsN (s.dims[k]'hkd)).length = (s.dims[k]'hkd).tiers.length by unfold liftsN; rw [List.length_map, List.length_range])
   generalize hmp : mapN (s.dims[k]'hkd) = mp at *
   clear hmp
   generalize liftsN (s.dims[k]'hkd) = ln at *
   generalize (s.dims[k]'hkd).A = dA at *
   generalize (s.dims[k]'hkd).name = dn at *
   generalize (s.dims[k]'hkd).tiers.length = dl at *
   generalize (s.dims[k]'hkd).c = dc at *
   have hi0 : (0 : Int) ≤ (k : Int) := by omega
   have hi1 : (k : Int) < (m : Int) := by omega
   rw [hA]
   clear hat hda hok hA
   go_upto_region 6 with fail
   clear c0 c1 hbG
   generalize hW3 : wr.alloc (.cells #[.string dn, .slice dA dl dc] 61) = W3 at *
   clear hW3
   have hg5 : wr.heap.size < W3.heap.size := HBd.out.lt
   generalize hgg : wr.heap.size = g5 at *
   have Hgg := kp hgg
   clear hgg
   obtain ⟨y0, y1, _, _⟩ := HBd.out.two
   go_wp2_with fail
   clear y0 y1
   go_loopw [6, 18] (fun v6 v18 w4 => ∃ (j : Nat) (xs : List Fa) (A' : Option Addr) (c' : Nat), j ≤ dl ∧ v18 = .int .i64 j ∧ v6 = .slice A' j c' ∧ xs.length = j ∧ xs.map Fa.keys = ln.take j ∧ IlsOwn w4 W3.heap.size (.slice A' j c') xs ∧ Below W3.heap.size W3 w4) (fun _ v18 _ => dl - (intOf v18).toNat)
   case atStart => exact ⟨0, [], none, 0, Nat.zero_le _, rfl, rfl, rfl, by rw [List.take_zero]; rfl, IlsOwn.nil _ _, Below.refl _ _⟩
   case round =>
    obtain ⟨j, xs, A', c', hj, rfl, rfl, hxl, hxk, hown4, hb4⟩ := hrel
    have Hxl := kp hxl
    have Hxk := kp hxk
    have Hown4 := kp hown4
    have Hb4 := kp hb4
    obtain ⟨y0, y1, _, _⟩ := (HBd.out.under hb4).two
    clear hxl hxk hown4 hb4
    by_cases hjl : j < dl
    ·have HMj := kp (HMk.out j wr hjl (HbG.out.trans (Hb4.out.mono (by omega))))
     have Hdj := kp (HD.out j hjl)
     generalize mp j = mj at *
     have hg54 : g5 < wr.heap.size := Nat.lt_of_lt_of_le hg5 Hb4.out.size
     go_wp2_with fail
     refine HMj.out.mono ?_
     rintro e w5 ⟨v5, rfl, hown5, hb5⟩
     obtain ⟨A5, c5, rfl⟩ := own_form hown5
     have Hb5 := kp (Hb4.out.trans (hb5.mono Hb4.out.size))
     have Hown5 := kp (Hown4.out.below hb5)
     have HN := kp (il_new (n := 0) (w := w5) (v := .slice A' j c') (B0 := W3.heap.size) hown5 (fun i hi => (Hown4.out.1.lt i hi).2) Hb4.out.size)
     have Hown5r := kp (show w5.ownsRow W3.heap.size 41 1 (.slice A' j c') j (xs.map ilV) by have := Hown5.out.1; rw [Hxl.out] at this; exact this)
     have Hs5 := kp Hb5.out.size
     have hk1 : j < 1048576 * 64 := by omega
     clear hown5 hb5 y0 y1
     go_wp2_with (at_builtin; refine wpList_append1 rfl (.tmp 21) (.tmp 25) 81 rfl W3.heap.size 41 j0 (.slice none 0 0) 24 Tryz.underlying81 si0 sz0 sz1 sz2 rfl w5 (.slice A5 mj.length c5) rfl (.slice A' j c') j (xs.map ilV) rfl Hown5r.out rfl hk1 (by decide) Hs5.out ?_; intro v6 w6 hown6 happ6; obtain ⟨A6, c6, h6⟩ := own_form hown6; subst h6; have Hown6 := kp hown6; have Hap6 := kp happ6; have Hb6 := kp (happ6.below Hb5.out Hown5r.out (Nat.le_refl _) Hs5.out); clear hown6 happ6)
     have HF := kp (IlsOwn.app (f := ⟨A5, mj, c5, agZero⟩) Hown5.out HN.out.1 HN.out.2 Hown6.out Hap6.out Hxl.out)
     exact ⟨⟨j + 1, xs ++ [⟨A5, mj, c5, agZero⟩], A6, c6, by omega, by go_num, rfl, by rw [List.length_append, Hxl.out]; rfl, by rw [Hdj.out, List.map_append, Hxk.out]; rfl, HF.out, Hb6.out⟩, by simp [intOf]; omega⟩
    ·obtain rfl : j = dl := by omega
     have HbW := kp (show Below g5 W3 wr from Hb4.out.mono (by omega))
     have Hbe4 := kp (Hb3.out.trans (HbW.out.mono (by rw [← Hgg.out]; exact Hbe.out.size)))
     have Hown9 := kp (Hown3.out.below Hb4.out)
     have Hlf := kp (LfAp.new (v := .slice A k c) Hown4.out (fun i hi => (Hown3.out.1.lt i hi).2))
     have Hlff := kp (show ∀ b, foot A' xs b → w.heap.size ≤ b from fun b hb => by have h1 := Hown4.out.foot_from hb; have h2 := Hbe4.out.size; have h3 := Hbe.out.size; have h4 := Hgg.out; omega)
     have Hxr := kp (Hxn.out ⟨A', xs, c'⟩ (by have := Hxk.out; rw [List.take_of_length_le (by rw [HDl.out]; exact Nat.le_refl _)] at this; exact this))
     have Hown9r := kp (show wr.ownsRow w.heap.size 81 1 (.slice A k c) k (rs.map runV) by have := Hown9.out.1; rw [Hrl.out] at this; exact this)
     have Hs9 := kp Hbe4.out.size
     have hk1 : k < 1048576 * 64 := by omega
     clear y0 y1
     go_wp2_with (at_builtin; refine wpList_append1 rfl (.tmp 28) (.tmp 30) 88 rfl w.heap.size 81 i0 (.slice none 0 0) 24 Tryz.underlying88 ti0 tz0 tz1 tz2 rfl wr (.slice A' j c') rfl (.slice A k c) k (rs.map runV) rfl Hown9r.out rfl hk1 (by decide) Hs9.out ?_; intro v6 w6 hown6 happ6; obtain ⟨A6, c6, h6⟩ := own_form hown6; subst h6; have Hown6 := kp hown6; have Hap6 := kp happ6; have Hb6 := kp (happ6.below Hbe4.out Hown9r.out (Nat.le_refl _) Hs9.out); clear hown6 happ6)
     have HF := kp (LfsOwn.app (r := ⟨A', xs, c'⟩) Hown9.out Hlf.out Hlff.out (by unfold runV; rw [Hxl.out]; exact Hown6.out) Hap6.out Hrl.out)
     exact ⟨⟨k + 1, rs ++ [⟨A', xs, c'⟩], A6, c6, by omega, by go_num, rfl, by rw [List.length_append, Hrl.out]; rfl, Hxr.out, HF.out, Hb6.out⟩, by simp [intOf]; omega⟩
  ·obtain rfl : k = m := by omega
   have HF := kp (HQ.out A c rs)
   rw [Hrl.out] at HF
   have Hf := kp (HF.out _ Hown.out (by have := Hrk.out; rw [List.take_of_length_le (by rw [Hm.out]; exact Nat.le_refl _)] at this; exact this) Hbe.out)
   go_wp2_with fail
   exact Hf.out
end Go.Proofs.YthmbgbmcdbdecaaGreat.Tc
namespace Go.Proofs.YthmbgbmcdbdecaaGreat.Tc
open Go.RowKit Base Go.Shelf
set_option linter.unusedVariables false
set_option linter.unusedSimpArgs false
structure Gr where
 key : Nat
 A : Option Addr
 part : List Nat
 c : Nat
deriving Inhabited
abbrev grV (g : Gr) : List Value := [.int .i64 (g.key : Nat), .slice g.A g.part.length g.c]
abbrev grC (g : Gr) : Array Value := #[.int .i64 (g.key : Nat), .slice g.A g.part.length g.c]
theorem grV_len (g : Gr) : (grV g).length = 2 := rfl
theorem gr_one (g : Gr) : ∀ u ∈ (grC g).toList, u.oneCell' = true := by
 intro u hu
 simp only [grC, List.mem_cons, List.not_mem_nil, or_false] at hu
 rcases hu with rfl | rfl <;> rfl
theorem grV_one (g : Gr) : ∀ u ∈ grV g, u.oneCell' = true := by
 intro u hu
 simp only [grV, List.mem_cons, List.not_mem_nil, or_false] at hu
 rcases hu with rfl | rfl <;> rfl
theorem info_group : (Tryz.prog.info? 146).map (fun i => (i.zero, i.size, i.bytes)) = some (some (.agg #[.int .i64 0, .slice none 0 0]), 2, 32) := by kernel_rfl
theorem flatK_gr (gs : List Gr) : Sort.flatK grV 2 gs.toArray = (gs.flatMap grV).toArray := by
 have hl := flat_len grV_len gs
 refine Sort.ext_get! (by rw [Sort.size_flatK]; simp only [List.size_toArray]; omega) fun t ht => ?_
 have ht' : t < gs.length * 2 := by simpa using ht
 have hi : t / 2 < gs.length := by omega
 rw [Sort.get_flatK grV 2 gs.toArray t (by simpa using ht')]
 have h := flat_at grV_len gs (t / 2) hi (t % 2) (Nat.mod_lt _ (by omega))
 rw [Nat.mul_comm, Nat.div_add_mod] at h
 have e1 : gs.toArray[t / 2]! = gs[t / 2] := by rw [getElem!_pos _ _ (by simpa using hi)]; simp
 rw [e1]
 have e2 : (gs.flatMap grV).toArray[t]! = (gs.flatMap grV)[t]'(by omega) := by rw [getElem!_pos _ _ (by simp only [List.size_toArray]; omega)]; simp
 have hm : t % 2 < (grV gs[t / 2]).length := by rw [grV_len]; omega
 have e3 : (grV gs[t / 2])[t % 2]! = (grV gs[t / 2])[t % 2]'hm := getElem!_pos (grV gs[t / 2]) (t % 2) hm
 rw [e2, e3]
 rw [List.getElem?_eq_getElem (by omega), List.getElem?_eq_getElem hm] at h
 exact (Option.some.inj h).symm
set_option maxHeartbeats 1000000 in
theorem gcmp_any (x y : Gr) (W : World) : Calls Tryz.prog 96 #[.agg (grV x).toArray, .agg (grV y).toArray] W fun e w' => e = .returned (.int .i64 (cmp1 x.key y.key)) ∧ ∃ q os', w' = Sort.grow (W.drewN q) os' := by
 have HC := kp (fun w => cmpI_any x.key y.key w)
 have HB1 := kp ((Box.new W 146 (grC x)).alloc (.cells (grC y) 146))
 have HB2 := kp (Box.lay (w := W.alloc (.cells (grC x) 146)) (g := W.heap.size + 1) (t := 146) (cs := grC y) (by simp))
 have HQ := kp (show ∃ q os', (W.alloc (.cells (grC x) 146)).alloc (.cells (grC y) 146) = Sort.grow (W.drewN q) os' from ⟨0, _, by rw [Sort.alloc_eq_grow, Sort.alloc_eq_grow, Sort.grow_grow]; rfl⟩)
 generalize cmp1 x.key y.key = V at *
 obtain ⟨a0, a1, _, _⟩ := HB1.out.two
 obtain ⟨b0, b1, _, _⟩ := HB2.out.two
 go_enter Tryz.func96, Tryz.ntmps96
 go_wp2_with fail
 refine (HC.out _).mono ?_
 rintro e w1 ⟨rfl, rfl⟩
 go_wp2_with fail
 go_ret
 exact ⟨rfl, HQ.out⟩
theorem ltKey (x y : Gr) : ltOf (fun x y : Gr => cmp1 x.key y.key) x y = decide (x.key < y.key) := by
 unfold ltOf
 rw [Bool.eq_iff_iff, decide_eq_true_eq, decide_eq_true_eq]
 exact cmp1_lt
theorem swoKey : Sort.SWO (ltOf fun x y : Gr => cmp1 x.key y.key) where
 irrefl x := by rw [ltKey]; simp
 trans x y z h1 h2 := by rw [ltKey] at *; simp at *; omega
 ntrans x y z h1 h2 := by rw [ltKey] at *; simp at *; omega
theorem take_putId (cur F : Array Value) (h : F.size ≤ cur.size) : (Sort.putCells id 0 F cur).toList.take F.size = F.toList := by
 apply List.ext_getElem?
 intro j
 by_cases hj : j < F.size
 ·rw [List.getElem?_take_of_lt hj, Array.getElem?_toList, Array.getElem?_toList]
  simp [Sort.putCells, hj, show j < cur.size by omega]
 ·rw [List.getElem?_take_eq_none (by omega), List.getElem?_eq_none (by simp; omega)]
def SortG (g c B : Nat) (gs : List Gr) (w : World) (e : Ending) (w' : World) : Prop := e = .returned (.tuple #[]) ∧ ∃ gs' : List Gr, gs'.Perm gs ∧ gs'.Pairwise (fun a b => a.key ≤ b.key) ∧ w'.ownsRow B 146 2 (.slice (some ⟨g, 0, none⟩) gs.length c) gs.length (gs'.flatMap grV) ∧ Turn (fun k => k = g) w w'
theorem sortG_any (g c B : Nat) (gs : List Gr) (w : World) (hlen : gs.length ≤ 1000000) (hown : w.ownsRow B 146 2 (.slice (some ⟨g, 0, none⟩) gs.length c) gs.length (gs.flatMap grV)) :
 Calls Tryz.prog 95 #[.slice (some ⟨g, 0, none⟩) gs.length c, .func (.func 96) #[] #[]] w (SortG g c B gs w) := by
 obtain ⟨g', cap, cur, hv, hB, hh, hnc, hcm, hcs, ht⟩ : ∃ g' cap cur, Value.slice (some ⟨g, 0, none⟩) gs.length c = .slice (some ⟨g', 0, none⟩) gs.length cap ∧ B ≤ g' ∧ w.heap[g']? = some (.cells cur 146 (0, 0)) ∧ gs.length ≤ cap ∧ cap ≤ maxLen ∧ cur.size = cap * 2 ∧ cur.toList.take (gs.length * 2) = gs.flatMap grV := by
  rcases hown.2 with ⟨h0, _⟩ | h
  ·cases h0
  ·exact h
 injection hv with hv1 _ hv2
 injection hv1 with hv1
 injection hv1 with hv1 _ _
 subst hv1 hv2
 have hlt : g < w.heap.size := (Array.getElem?_eq_some_iff.1 hh).1
 have hfl := flat_len grV_len gs
 have hH : Sort.HoldsK grV 2 w g 0 gs.toArray := by
  unfold Sort.HoldsK
  rw [flatK_gr]
  intro j hj
  have hj' : j < (gs.flatMap grV).length := by simpa only [List.size_toArray] using hj
  refine ⟨?_, by simp [World.frozen?, hh]⟩
  have h1 := hown.cells (g := g) rfl j _ (List.getElem?_eq_getElem hj')
  rw [add_at] at h1
  rw [h1]
  have e3 : (gs.flatMap grV).toArray[j]! = (gs.flatMap grV).toArray[j]'hj := getElem!_pos (gs.flatMap grV).toArray j hj
  rw [e3]
  simp
 have hcon := AnyQ.slices_SortFunc Tryz.sortG 2 Tryz.isAgg146 Tryz.sizeOf146 grV (fun _ => rfl) grV_one (fun x y : Gr => cmp1 x.key y.key) swoKey 96 #[] g 0 c gs.toArray w (enters_of Tryz.func96 (by kernel_rfl) rfl) (fun _ _ _ _ x y => gcmp_any x y _) hH hlt (by simp only [List.size_toArray]; omega)
 refine hcon.mono ?_
 rintro e w' ⟨rfl, d', n, os, hp, hs, rfl⟩
 have hds : d'.size = gs.length := by have := hp.1; simpa using this
 refine ⟨rfl, d'.toList, ?_, ?_, ?_, ?_⟩
 ·have e1 : d'.extract 0 gs.toArray.size = d' := by
   have : gs.toArray.size = d'.size := by simp [hds]
   rw [this]; simp
  have e2 : gs.toArray.extract 0 gs.toArray.size = gs.toArray := by simp
  have h2 := hp.2.2
  rw [e1, e2] at h2
  simpa using h2
 ·rw [List.pairwise_iff_getElem]
  intro i j hi hj hij
  have hi' : i < d'.size := by simpa using hi
  have hj' : j < d'.size := by simpa using hj
  have := hs i j (Nat.zero_le _) hij (by simp; omega)
  have e3 : d'[i]! = d'[i]'hi' := getElem!_pos d' i hi'
  have e4 : d'[j]! = d'[j]'hj' := getElem!_pos d' j hj'
  rw [ltKey, e3, e4] at this
  simp at this
  simpa using this
 ·have hfd : Sort.flatK grV 2 d' = (d'.toList.flatMap grV).toArray := by
   have := flatK_gr d'.toList
   simpa using this
  have hll : (d'.toList.flatMap grV).length = gs.length * 2 := by rw [flat_len grV_len, Array.length_toList, hds]
  unfold sortWorldK Sort.putRowK
  rw [hfd]
  refine ⟨hll, .inr ⟨g, c, Sort.putCells id 0 (d'.toList.flatMap grV).toArray cur, rfl, hB, ?_, hnc, hcm, ?_, ?_⟩⟩
  ·rw [Sort.heap_grow_old _ _ (by simpa using hlt)]
   simp [Sort.putRow, Sort.mapBlock, Sort.ahead, Array.getElem?_modify, hh, Sort.onCells]
  ·simp [Sort.putCells, hcs]
  ·have h1 := take_putId cur (d'.toList.flatMap grV).toArray (by simp only [List.size_toArray]; omega)
   simp only [List.size_toArray] at h1
   rw [hll] at h1
   simpa using h1
 ·refine ⟨rfl, rfl, rfl, by simp [sortWorldK, Sort.putRowK], fun k hk hne => ?_⟩
  unfold sortWorldK Sort.putRowK
  rw [Sort.heap_grow_old _ _ (by simpa using hk)]
  have : g ≠ k := fun e => hne e.symm
  simp [Sort.putRow, Sort.mapBlock, Sort.ahead, Array.getElem?_modify, this]
end Go.Proofs.YthmbgbmcdbdecaaGreat.Tc
