/- Parts of a proof: Layers 15 to 17: maps of what was met; the program's checks of tiers. Layers 16 and 17: the program's checks of dimensions and schemas. -/
import Derived.Test.YthmbgbmcdbdecaaGreatG02
import Derived.Test.YthmbgbmcdbdecaaGreatG03
import Derived.OrdersHeld
import Derived.StillTail
import Derived.Maps.Own
import Derived.Maps.OwnOps
import Derived.Maps.OwnSet
import Derived.Maps.Views
namespace Go.Proofs.YthmbgbmcdbdecaaGreat.Tc
open Go.RowKit Base Go.Maps Go.WideMaps
set_option linter.unusedVariables false
set_option linter.unusedSimpArgs false
theorem intLaw : Keyed Tryz.prog 3 := int_keyed Tryz.underlying3
theorem strLaw : Keyed Tryz.prog 9 := string_keyed Tryz.underlying9
theorem zeroInt (w : World) : (zeroValue 3).run Tryz.prog w = .ok (.int .i64 0) w := by kernel_rfl
def lits (l : List Int) : List Lit := l.map (.int .i64)
theorem lits_key (l : List Int) : ∀ x ∈ lits l, WideAt.IsKeyLit x := by
 intro x hx
 unfold lits at hx
 obtain ⟨y, _, rfl⟩ := List.mem_map.1 hx
 trivial
theorem addKey_mem (l : List Int) : ∀ (acc : List Int), acc.Nodup → ∃ r : List Int, (lits l).foldl addKey (lits acc) = lits r ∧ r.Nodup ∧ ∀ x, x ∈ r ↔ x ∈ acc ∨ x ∈ l := by
 induction l with
 | nil => intro acc h; exact ⟨acc, rfl, h, by simp⟩
 | cons a l ih =>
  intro acc h
  have hany : (lits acc).any (fun y => y.sameKey (.int .i64 a)) = decide (a ∈ acc) := by
   rw [Bool.eq_iff_iff]
   unfold lits
   simp only [List.any_map, List.any_eq_true, decide_eq_true_eq, Function.comp]
   constructor
   ·rintro ⟨y, hy, e⟩
    by_cases hya : y = a
    ·rw [← hya]; exact hy
    ·rw [sameKey_ne (by intro hh; injection hh with _ hh; exact hya hh)] at e
     cases e
   ·intro ha
    exact ⟨a, ha, by simp [Lit.sameKey]⟩
  by_cases ha : a ∈ acc
  ·obtain ⟨r, h1, h2, h3⟩ := ih acc h
   refine ⟨r, ?_, h2, fun x => ?_⟩
   ·rw [← h1]
    show (lits l).foldl addKey (addKey (lits acc) (.int .i64 a)) = _
    unfold addKey at *
    rw [hany, decide_eq_true ha, if_pos rfl]
   ·rw [h3, List.mem_cons]
    constructor
    ·rintro (h | h)
     ·exact .inl h
     ·exact .inr (.inr h)
    ·rintro (h | rfl | h)
     ·exact .inl h
     ·exact .inl ha
     ·exact .inr h
  ·obtain ⟨r, h1, h2, h3⟩ := ih (acc ++ [a]) (by
    rw [List.nodup_append]
    refine ⟨h, by simp, ?_⟩
    intro x hx y hy
    rw [List.mem_singleton.1 hy]
    intro e
    rw [e] at hx
    exact ha hx)
   refine ⟨r, ?_, h2, fun x => ?_⟩
   ·rw [← h1]
    show (lits l).foldl addKey (addKey (lits acc) (.int .i64 a)) = _
    have e : addKey (lits acc) (.int .i64 a) = lits (acc ++ [a]) := by
     unfold addKey
     rw [hany, decide_eq_false ha, if_neg (by simp)]
     simp [lits]
    rw [e]
   ·rw [h3]
    simp only [List.mem_append, List.mem_cons, List.not_mem_nil, or_false]
    constructor
    ·rintro ((h | h) | h)
     ·exact .inl h
     ·exact .inr (.inl h)
     ·exact .inr (.inr h)
    ·rintro (h | h | h)
     ·exact .inl (.inl h)
     ·exact .inl (.inr h)
     ·exact .inr h
theorem nodup_range_len {r : List Int} {m : Nat} (h1 : r.Nodup) (h2 : ∀ x, x ∈ r ↔ ∃ i : Nat, i < m ∧ x = (i : Int)) : r.length = m := by
 have hp : r.Perm ((List.range m).map fun i : Nat => (i : Int)) := by
  rw [List.perm_ext_iff_of_nodup h1]
  ·intro a
   rw [h2, List.mem_map]
   constructor
   ·rintro ⟨i, hi, rfl⟩; exact ⟨i, List.mem_range.2 hi, rfl⟩
   ·rintro ⟨i, hi, rfl⟩; exact ⟨i, List.mem_range.1 hi, rfl⟩
  ·rw [List.nodup_iff_pairwise_ne, List.pairwise_map]
   have hd : (List.range m).Nodup := List.nodup_range
   rw [List.nodup_iff_pairwise_ne] at hd
   exact hd.imp fun h e => h (by omega)
 have := hp.length_eq
 simpa using this
def metD (l : List Int) : DataW Unit := setOf (.lit (.int .i64 1)) (lits l)
theorem metD_snoc (l : List Int) (x : Int) : metD (l ++ [x]) = (metD l).put (.int .i64 x) (.lit (.int .i64 1)) := by
 unfold metD lits
 rw [List.map_append]
 exact setOf_snoc _ _ _
theorem metD_full {t : Tier} {m : Nat} (h : TreeOk t (m : Int)) : Maps.size (metD t.up) = m := by
 unfold metD
 rw [size_setOf _ _ (lits_key _)]
 obtain ⟨r, h1, h2, h3⟩ := addKey_mem t.up [] List.nodup_nil
 have e : (lits t.up).foldl addKey [] = lits r := h1
 rw [e]
 unfold lits
 rw [List.length_map]
 refine nodup_range_len h2 fun x => ?_
 rw [h3]
 constructor
 ·rintro (hx | hx)
  ·cases hx
  ·obtain ⟨a, b⟩ := h.up x hx
   exact ⟨x.toNat, by omega, by omega⟩
 ·rintro ⟨i, hi, rfl⟩
  exact .inr (h.all i (by omega))
set_option maxRecDepth 100000 in
set_option maxHeartbeats 1000000 in
theorem tree_ok (t : Tier) (above : Int) (w : World) (h : TierAt w w.heap.size t) (ho : TreeOk t above) : Calls Tryz.prog 117 #[.slice t.Au t.up.length t.cu, .int .i64 t.terms.length, .int .i64 above] w (RetB (fun r => r = true) w) := by
 have HR := kp (fun r w' h hb => RetB.mono (P := fun r => r = true) (w := w) (r := r) (w' := w') h hb)
 have Hr := kp h.up
 have hn := h.nt
 have hu := h.nu
 unfold maxLen at hn hu
 have h200 := ho.most
 clear h
 generalize hQ : RetB (fun r => r = true) w = Q at *
 clear hQ
 by_cases ha : above ≤ 0
 ·have Hl : t.up = [] := ho.top ha
  rw [Hl]
  clear Hl ho Hr hu
  go_enter Tryz.func117, Tryz.ntmps117
  go_wp2_with fail
  exact HR.out _ _ (by simp) (Below.refl _ _)
 ·obtain ⟨m, rfl⟩ : ∃ m : Nat, above = (m : Int) := ⟨above.toNat, by omega⟩
  have hl := ho.len (by omega)
  have Hfull := kp (metD_full ho)
  have Hup := kp ho.up
  have ha' : ¬ (m : Int) ≤ 0 := ha
  have hne : ((t.up.length : Int) != (t.terms.length : Int)) = false := by simp; omega
  have hmm := @run_makeMap Tryz.prog
  clear ho
  generalize t.terms.length = nt at *
  generalize t.up = l at *
  generalize t.Au = Au at *
  generalize t.cu = cu at *
  generalize hN : l.length = n at *
  have Hn := kp hN
  clear hN hl
  go_enter Tryz.func117, Tryz.ntmps117
  go_wp2_with fail
  go_loopw [22] (fun v22 wr => ∃ k : Nat, k ≤ n ∧ v22 = .int .i64 k ∧ wr.ownsMap Tryz.prog 3 (plainElem Tryz.prog 3) w.heap.size k (metD (l.take k)) ∧ Below w.heap.size w wr) (fun v22 _ => n - (intOf v22).toNat)
  case atStart => exact ⟨0, Nat.zero_le _, rfl, World.ownsMap_made _ _ _ _, (Below.refl _ _).alloc (Nat.le_refl _) _⟩
  case round =>
   obtain ⟨k, hk, rfl, hown, hbe⟩ := hrel
   have Hbe := kp hbe
   clear hbe
   by_cases hlt : k < n
   ·have hkl : k < l.length := by rw [Hn.out]; exact hlt
    obtain ⟨b, off, rfl, hb, c0⟩ := Row.at_ ((Hr.out.below Hbe.out)) (k := k) (by rw [List.length_map]; exact hkl)
    rw [List.getElem_map] at c0
    obtain ⟨hz0, hz1⟩ := Hup.out _ (List.getElem_mem hkl)
    have Hnx := kp (show metD (l.take (k + 1)) = (metD (l.take k)).put (.int .i64 (l[k]'hkl)) (.lit (.int .i64 1)) by rw [List.take_succ_eq_append_getElem hkl, metD_snoc])
    generalize (l[k]'hkl) = z at *
    have Hwf := kp (show (Lit.int .i64 z).wf = true from WalkArith.wf_i64 (by omega))
    have Hlt := kp (show k < maxLen by unfold maxLen; omega)
    go_wp2_with (at_mapUpdate; refine wpList_mapUpdate_own _ rfl (.tmp 33) (.tmp 34) (.const (.int .i64 1)) 225 rfl 3 3 intLaw Tryz.underlying225 (plainElem Tryz.prog 3) w.heap.size k _ rfl hown Hlt.out (.int .i64 z) (.int .i64 1) (.int .i64 z) rfl rfl (keyOf_int_mk Tryz.underlying3 Hwf.out) _ [] (plainElem_int Tryz.underlying3 (by decide)) ?_; intro w1 hown1 hgr1; have Hown1 := kp hown1; have Hgr1 := kp hgr1; clear hown1 hgr1)
    refine ⟨⟨k + 1, by omega, by go_num, ?_, Hbe.out.grown Hgr1.out Hbe.out.size (fun j e => by cases e; exact Nat.le_refl _)⟩, by simp [intOf]; omega⟩
    rw [Hnx.out]
    exact Hown1.out
   ·have hown' := hown
    rw [List.take_of_length_le (by rw [Hn.out]; omega)] at hown'
    clear hown
    go_wp2_with (at_len; refine wpList_len_own _ rfl (.tmp 36) 225 rfl 3 3 Tryz.underlying225 _ w.heap.size _ _ rfl hown' ?_; rw [Hfull.out])
    exact HR.out _ _ (by simp) Hbe.out
set_option maxHeartbeats 1000000 in
theorem tiercheck_ok (t : Tier) (above : Int) (w : World) (h : TierAt w w.heap.size t) (ho : TierOk t above) : Calls Tryz.prog 90 #[.agg (tierC t), .int .i64 above] w (RetI (fun r => r = 0) w) := by
 have HR := kp (fun r w' h hb => RetI.mono (P := fun r => r = 0) (w := w) (r := r) (w' := w') h hb)
 have hb0 := (Below.refl w.heap.size w).alloc (Nat.le_refl _) (.cells (tierC t) 63)
 have Hb0 := kp hb0
 have HB := kp (Box.new w 63 (tierC t))
 have h0 := (h.below hb0).more hb0.size
 have HN := kp (tname_ok t.name (w.alloc (.cells (tierC t) 63)) ho.name)
 have HRow := kp (trow_ok t.At t.terms t.ct (w.alloc (.cells (tierC t) 63)) h0.nt h0.terms ho.row)
 have HT := kp (tree_ok t above (w.alloc (.cells (tierC t) 63)) h0 ho.tree)
 have h1 := ho.n1
 have h2 := ho.n2
 clear h h0 hb0 ho
 generalize hQ : RetI (fun r => r = 0) w = Q at *
 clear hQ
 unfold tierC at HB HN HRow HT Hb0 ⊢
 generalize t.name = x0 at *
 generalize t.At = x1 at *
 generalize t.terms.length = n at *
 generalize t.ct = x3 at *
 generalize t.Au = x4 at *
 generalize t.up.length = x5 at *
 generalize t.cu = x6 at *
 have h1' : ¬ ((n : Nat) : Int) < 1 := by omega
 have h2' : ¬ (200 : Int) < ((n : Nat) : Int) := by omega
 go_enter Tryz.func90, Tryz.ntmps90
 go_wp2_with fail
 generalize w.alloc (.cells #[.string x0, .slice x1 n x3, .slice x4 x5 x6] 63) = W0 at *
 obtain ⟨b0, b1, b2, _, _, _⟩ := HB.out.three
 refine HN.out.mono ?_
 rintro e w1 ⟨rfl, rfl⟩
 go_wp2_with fail
 refine HRow.out.mono ?_
 rintro e w1 ⟨rfl, rfl⟩
 go_wp2_with fail
 refine HT.out.mono ?_
 rintro e w2 ⟨r, rfl, rfl, hb2⟩
 have Hb2 := kp (Hb0.out.trans (hb2.mono Hb0.out.size))
 clear hb2 b0 b1 b2
 go_wp2_with fail
 exact HR.out _ _ rfl Hb2.out
def AtS (D : DataW Unit) (L : List ByteArray) : Prop := ∀ x : ByteArray, x.size ≤ maxLen → (x ∈ L → D.atKey (.string x.data.toList) (.lit (.int .i64 0)) = .lit (.int .i64 1)) ∧ (x ∉ L → D.atKey (.string x.data.toList) (.lit (.int .i64 0)) = .lit (.int .i64 0))
def MetS (w : World) (g : Nat) (L : List ByteArray) : Prop :=
 ∃ D : DataW Unit, w.ownsMap Tryz.prog 9 (plainElem Tryz.prog 3) g L.length D ∧ IsMap D ∧ AtS D L
theorem MetS.new (w : World) : MetS (w.alloc (.map #[] 0)) w.heap.size [] :=
 ⟨.map [], World.ownsMap_made _ _ _ _, isMap_empty, fun x _ => ⟨by simp, fun _ => by simp [DataW.atKey]⟩⟩
theorem MetS.kept {w w' : World} {g : Nat} {L : List ByteArray} (h : MetS w g L) {row : Option Nat} (hg : w.grownBy w' row) (hne : some g ≠ row) : MetS w' g L := by
 obtain ⟨D, h1, h2, h3⟩ := h
 exact ⟨D, h1.kept hg hne, h2, h3⟩
theorem MetS.below {w w' : World} {g : Nat} {L : List ByteArray} (h : MetS w g L) (hb : Below w.heap.size w w') : MetS w' g L := by
 obtain ⟨D, ⟨es, cl, h1, h2⟩, h3⟩ := h
 have hlt : g < w.heap.size := by
  rcases Nat.lt_or_ge g w.heap.size with hh | hh
  ·exact hh
  ·rw [Array.getElem?_eq_none hh] at h1; cases h1
 exact ⟨D, ⟨es, cl, (hb.block g hlt).trans h1, h2⟩, h3⟩
theorem MetS.lt {w : World} {g : Nat} {L : List ByteArray} (h : MetS w g L) : g < w.heap.size := by
 obtain ⟨D, h1, _⟩ := h
 exact h1.lt
theorem str_lit_inj {x y : ByteArray} (h : Lit.string x.data.toList = Lit.string y.data.toList) : x = y := by
 injection h with h
 cases x with
 | mk xd => cases y with
  | mk yd => exact congrArg ByteArray.mk (Array.toList_inj.1 h)
theorem metS_put {D : DataW Unit} {L : List ByteArray} (hD : IsMap D) (h3 : AtS D L) (z : ByteArray) (hz : z.size ≤ maxLen) : AtS (D.put (.string z.data.toList) (.lit (.int .i64 1))) (L ++ [z]) := by
 intro x hx
 by_cases e : x = z
 ·subst e
  rw [atKey_put_same (k := .string x.data.toList) hD (show WideAt.IsKeyLit (.string x.data.toList) from trivial)]
  simp
 ·rw [atKey_put_other (fun hh => e (str_lit_inj hh))]
  simp only [List.mem_append, List.mem_singleton, e, or_false]
  exact h3 x hx
def FreshS (w : World) (g : Nat) (L : List ByteArray) (z : ByteArray) (e : Ending) (w' : World) : Prop := e = .returned (.bool true) ∧ w.grownBy w' (some g) ∧ MetS w' g (L ++ [z])
set_option maxRecDepth 100000 in
set_option maxHeartbeats 1000000 in
theorem fresh_ok (g : Nat) (L : List ByteArray) (z : ByteArray) (w : World) (hz : z.size ≤ maxLen) (hL : L.length ≤ 5000) (hm : MetS w g L) (hno : z ∉ L) :
 Calls Tryz.prog 57 #[.map (some g), .string z] w (FreshS w g L z) := by
 obtain ⟨D, hown, hD, hat⟩ := hm
 have hput := metS_put hD hat z hz
 have hq0 : ∀ q : Int, D.atKey (.string z.data.toList) (.lit (.int .i64 0)) = .lit (.int .i64 q) → q = 0 := by
  intro q hh
  rw [(hat z hz).2 hno] at hh
  injection hh with hh
  injection hh with _ hh
  exact hh.symm
 have hq1 : ∀ q : Int, (D.put (.string z.data.toList) (.lit (.int .i64 1))).atKey (.string z.data.toList) (.lit (.int .i64 0)) = .lit (.int .i64 q) → q = 1 := by
  intro q hh
  rw [(hput z hz).1 (by simp)] at hh
  injection hh with hh
  injection hh with _ hh
  exact hh.symm
 have Hq0 := kp hq0
 have Hq1 := kp hq1
 have Hkey := kp (show keyOf Tryz.prog 9 (.string z) = some (.string z.data.toList) from keyOf_string_mk Tryz.underlying9 hz)
 have Hlt := kp (show L.length < maxLen from Nat.lt_of_le_of_lt hL (by unfold maxLen; omega))
 have HQ := kp (show ∀ w', w.grownBy w' (some g) → w'.ownsMap Tryz.prog 9 (plainElem Tryz.prog 3) g (L.length + 1) (D.put (.string z.data.toList) (.lit (.int .i64 1))) → FreshS w g L z (.returned (.bool true)) w' from fun w' h1 h2 => ⟨rfl, h1, _, by rw [List.length_append]; exact h2, hD.put _ _, hput⟩)
 generalize hQ : FreshS w g L z = Q at *
 clear hQ hq0 hq1 hput hat hD hno hz hL
 go_enter Tryz.func57, Tryz.ntmps57
 go_wp2_with (first
  | (at_lookup; refine wpList_lookup_own_int _ rfl (.tmp 5) (.tmp 6) 129 rfl 9 3 .i64 strLaw Tryz.underlying129 Tryz.underlying3 (zeroInt _) g L.length D rfl hown (.string z) (.string z.data.toList) rfl Hkey.out ?_; intro q hat1 hwq; obtain rfl := Hq0.out q hat1; clear hat1 hwq)
  | (at_mapUpdate; refine wpList_mapUpdate_own _ rfl (.tmp 5) (.tmp 6) (.tmp 8) 129 rfl 9 3 strLaw Tryz.underlying129 (plainElem Tryz.prog 3) g L.length D rfl hown Hlt.out (.string z) (.int .i64 1) (.string z.data.toList) rfl rfl Hkey.out _ [] (plainElem_int Tryz.underlying3 (by decide)) ?_; intro w1 hown1 hgr1; have Hgr1 := kp hgr1; clear hgr1)
  | (at_lookup; refine wpList_lookup_own_int _ rfl (.tmp 9) (.tmp 10) 129 rfl 9 3 .i64 strLaw Tryz.underlying129 Tryz.underlying3 (zeroInt _) g (L.length + 1) _ rfl hown1 (.string z) (.string z.data.toList) rfl Hkey.out ?_; intro q2 hat2 hwq2; obtain rfl := Hq1.out q2 hat2; have Hown1 := kp hown1; clear hat2 hwq2 hown1))
 exact HQ.out _ Hgr1.out Hown1.out
set_option maxHeartbeats 1000000 in
theorem above_any (d : Dim) (k : Nat) (w : World) (h : DimAt w w.heap.size d) (hk : k < d.tiers.length) : Calls Tryz.prog 91 #[.agg (dimC d), .int .i64 k] w fun e w' => e = .returned (.int .i64 (aboveI d k)) ∧ Below w.heap.size w w' := by
 have hn := h.n
 unfold maxLen at hn
 have hb0 := (Below.refl w.heap.size w).alloc (Nat.le_refl _) (.cells (dimC d) 61)
 by_cases hk1 : k + 1 < d.tiers.length
 ·have h0 := (h.below hb0).more hb0.size
  obtain ⟨b, off, hA, hb, c0, c1, c2⟩ := h0.tier (k + 1) hk1
  have HV := kp (show aboveI d k = ((d.tiers[k + 1]'hk1).terms.length : Nat) by unfold aboveI; rw [List.getElem?_eq_getElem hk1])
  generalize aboveI d k = V at *
  have hkI : (k : Int) + 1 < (d.tiers.length : Int) := by omega
  have hi0 : (0 : Int) ≤ (k : Int) + 1 := by omega
  have Hb0 := kp hb0
  unfold dimC at *
  rw [hA] at *
  clear h h0 hb0 c0 c2 hA
  generalize (d.tiers[k + 1]'hk1).At = x1 at *
  generalize (d.tiers[k + 1]'hk1).terms.length = x2 at *
  generalize (d.tiers[k + 1]'hk1).ct = x3 at *
  go_enter Tryz.func91, Tryz.ntmps91
  go_wp2_with fail
  go_ret
  exact ⟨by rw [HV.out]; rfl, Hb0.out⟩
 ·have HV := kp (show aboveI d k = 0 by unfold aboveI; rw [List.getElem?_eq_none (by omega)])
  generalize aboveI d k = V at *
  have hkI : ¬ (k : Int) + 1 < (d.tiers.length : Int) := by omega
  have Hb0 := kp hb0
  unfold dimC at *
  clear h hb0
  go_enter Tryz.func91, Tryz.ntmps91
  go_wp2_with fail
  go_ret
  exact ⟨by rw [HV.out]; rfl, Hb0.out⟩
theorem snoc_new {l : List Tier} {k : Nat} (hk : k < l.length) (hn : ∀ i (hi : i < k), l[i].name ≠ l[k].name) : l[k].name ∉ (l.take k).map Tier.name := by
 intro hm
 obtain ⟨t, ht, e⟩ := List.mem_map.1 hm
 obtain ⟨i, hi, rfl⟩ := List.getElem_of_mem ht
 rw [List.length_take] at hi
 rw [List.getElem_take] at e
 exact hn i (by omega) e
theorem MetS.look {D : DataW Unit} {L : List ByteArray} {z : ByteArray} (hat : AtS D L) (hz : z.size ≤ maxLen) (hno : z ∉ L) : ∀ q : Int, D.atKey (.string z.data.toList) (.lit (.int .i64 0)) = .lit (.int .i64 q) → q = 0 := by
 intro q hh
 rw [(hat z hz).2 hno] at hh
 injection hh with hh
 injection hh with _ hh
 exact hh.symm
theorem MetS.look1 {D : DataW Unit} {L : List ByteArray} {z : ByteArray} (hat : AtS D L) (hz : z.size ≤ maxLen) (hno : z ∈ L) : ∀ q : Int, D.atKey (.string z.data.toList) (.lit (.int .i64 0)) = .lit (.int .i64 q) → q = 1 := by
 intro q hh
 rw [(hat z hz).1 hno] at hh
 injection hh with hh
 injection hh with _ hh
 exact hh.symm
theorem keep_below2 {a b c x0 x1 : Value} {gD gT : Nat} {W0 v w' : World} (hb : Below v.heap.size v w')
 (h : v.cell? ⟨gD, 0, none⟩ = some x0 ∧ v.cell? ⟨gD, 1, none⟩ = some x1 ∧ v.cell? ⟨gT, 0, none⟩ = some a ∧ v.cell? ⟨gT, 1, none⟩ = some b ∧ v.cell? ⟨gT, 2, none⟩ = some c ∧ Below W0.heap.size W0 v) :
 w'.cell? ⟨gD, 0, none⟩ = some x0 ∧ w'.cell? ⟨gD, 1, none⟩ = some x1 ∧ w'.cell? ⟨gT, 0, none⟩ = some a ∧ w'.cell? ⟨gT, 1, none⟩ = some b ∧ w'.cell? ⟨gT, 2, none⟩ = some c ∧ Below W0.heap.size W0 w' := by
 obtain ⟨h0, h1, h2, h3, h4, h5⟩ := h
 exact ⟨cell_keep hb h0, cell_keep hb h1, cell_keep hb h2, cell_keep hb h3, cell_keep hb h4, h5.trans (hb.mono h5.size)⟩
set_option maxRecDepth 100000 in
set_option maxHeartbeats 2000000 in
theorem dimcheck_ok (d : Dim) (w : World) (h : DimAt w w.heap.size d) (ho : DimOk d) : Calls Tryz.prog 56 #[.agg (dimC d)] w (RetI (fun r => r = 0) w) := by
 have HR := kp (fun r w' h hb => RetI.mono (P := fun r => r = 0) (w := w) (r := r) (w' := w') h hb)
 have hb0 := (Below.refl w.heap.size w).alloc (Nat.le_refl _) (.cells (dimC d) 61)
 have Hb0 := kp hb0
 have H0 := kp ((h.below hb0).more hb0.size)
 have HB := kp (Box.new w 61 (dimC d))
 have hn := h.n
 have HN := kp (tname_ok d.name (w.alloc (.cells (dimC d) 61)) ho.name)
 have HA := kp above_any
 have HW := kp tiercheck_ok
 have Ho := kp ho
 have hmm := @run_makeMap Tryz.prog
 have h1' : ¬ ((d.tiers.length : Nat) : Int) < 1 := by have := ho.n1; omega
 have h2' : ¬ (4 : Int) < ((d.tiers.length : Nat) : Int) := by have := ho.n2; omega
 have h4 : d.tiers.length ≤ 4 := ho.n2
 unfold maxLen at hn
 clear h hb0 ho
 generalize hQ : RetI (fun r => r = 0) w = Q at *
 clear hQ
 unfold dimC at HB HN Hb0 H0 ⊢
 go_enter Tryz.func56, Tryz.ntmps56
 go_wp2_with fail
 generalize w.alloc (.cells #[.string d.name, .slice d.A d.tiers.length d.c] 61) = W0 at *
 obtain ⟨b0, b1, _, _⟩ := HB.out.two
 refine HN.out.mono ?_
 rintro e w1 ⟨rfl, rfl⟩
 obtain ⟨m0, m1, _, _⟩ := (HB.out.alloc (.map #[] 0)).two
 go_wp2_with fail
 clear h1' h2' b0 b1 m0 m1 HN
 go_loopw [28] (fun v28 wr => ∃ k : Nat, k ≤ d.tiers.length ∧ v28 = .int .i64 k ∧ MetS wr W0.heap.size ((d.tiers.take k).map Tier.name) ∧ Below W0.heap.size W0 wr) (fun v28 _ => d.tiers.length - (intOf v28).toNat)
 case atStart => exact ⟨0, Nat.zero_le _, rfl, MetS.new _, (Below.refl _ _).alloc (Nat.le_refl _) _⟩
 case round =>
  obtain ⟨k, hk, rfl, hmet, hbe⟩ := hrel
  have Hmet := kp hmet
  have Hbe := kp hbe
  obtain ⟨b0, b1, _, _⟩ := (HB.out.under hbe).two
  clear hmet hbe
  by_cases hlt : k < d.tiers.length
  ·have hd := (H0.out.below Hbe.out).more Hbe.out.size
   have hbx := (Below.refl wr.heap.size wr).alloc (Nat.le_refl _) (.cells (tierC (d.tiers[k]'hlt)) 63)
   have HA1 := kp (show ∀ W, Below wr.heap.size wr W → Calls Tryz.prog 91 #[.agg #[.string d.name, .slice d.A d.tiers.length d.c], .int .i64 k] W fun e w' => e = .returned (.int .i64 (aboveI d k)) ∧ Below W.heap.size W w' from fun W hW => HA.out d k W ((hd.below hW).more hW.size) hlt)
   have HW1 := kp (show ∀ W, Below wr.heap.size wr W → Calls Tryz.prog 90 #[.agg #[.string (d.tiers[k]'hlt).name, .slice (d.tiers[k]'hlt).At (d.tiers[k]'hlt).terms.length (d.tiers[k]'hlt).ct, .slice (d.tiers[k]'hlt).Au (d.tiers[k]'hlt).up.length (d.tiers[k]'hlt).cu], .int .i64 (aboveI d k)] W (RetI (fun r => r = 0) W) from fun W hW => HW.out (d.tiers[k]'hlt) (aboveI d k) W (((hd.tiers _ (List.getElem_mem hlt)).below hW).more hW.size) (Ho.out.tiers k hlt))
   obtain ⟨b, off, hA, hb, c0, c1, c2⟩ := hd.tier k hlt
   have Hd := kp hd
   have hsz := kp (show (d.tiers[k]'hlt).name.size ≤ maxLen from (hd.tiers _ (List.getElem_mem hlt)).name)
   have Hnew := kp (snoc_new hlt (fun i hi => Ho.out.names i k hlt hi))
   have Hnx := kp (show (d.tiers.take (k + 1)).map Tier.name = (d.tiers.take k).map Tier.name ++ [(d.tiers[k]'hlt).name] by rw [List.take_succ_eq_append_getElem hlt, List.map_append]; rfl)
   have Hll := kp (show ((d.tiers.take k).map Tier.name).length ≤ 4 by rw [List.length_map, List.length_take]; omega)
   rw [hA] at b1 HA1 ⊢
   have hi0 : (0 : Int) ≤ (k : Int) := by omega
   have hi1 : (k : Int) < (d.tiers.length : Int) := by omega
   have HA2 := kp hA
   clear hd hA hbx
   generalize hL1 : (d.tiers.take (k + 1)).map Tier.name = L1 at *
   have HL1 := kp hL1
   clear hL1
   generalize (d.tiers.take k).map Tier.name = L at *
   generalize aboveI d k = ab at *
   generalize (d.tiers[k]'hlt).name = nm at *
   generalize (d.tiers[k]'hlt).At = x1 at *
   generalize (d.tiers[k]'hlt).terms.length = x2 at *
   generalize (d.tiers[k]'hlt).ct = x3 at *
   generalize (d.tiers[k]'hlt).Au = x4 at *
   generalize (d.tiers[k]'hlt).up.length = x5 at *
   generalize (d.tiers[k]'hlt).cu = x6 at *
   go_upto_region 5 with fail
   have Hbt := kp (Box.new wr 63 #[.string nm, .slice x1 x2 x3, .slice x4 x5 x6])
   have Hb2 := kp ((Below.refl wr.heap.size wr).alloc (Nat.le_refl _) (.cells #[.string nm, .slice x1 x2 x3, .slice x4 x5 x6] 63))
   have HA3 := kp (fun W (hW : Below (wr.alloc (.cells #[.string nm, .slice x1 x2 x3, .slice x4 x5 x6] 63)).heap.size (wr.alloc (.cells #[.string nm, .slice x1 x2 x3, .slice x4 x5 x6] 63)) W) => HA1.out W (Hb2.out.trans (hW.mono Hb2.out.size)))
   have HW3 := kp (fun W (hW : Below (wr.alloc (.cells #[.string nm, .slice x1 x2 x3, .slice x4 x5 x6] 63)).heap.size (wr.alloc (.cells #[.string nm, .slice x1 x2 x3, .slice x4 x5 x6] 63)) W) => HW1.out W (Hb2.out.trans (hW.mono Hb2.out.size)))
   obtain ⟨t0, t1, t2, _, _, _⟩ := Hbt.out.three
   obtain ⟨d0, d1, _, _⟩ := ((HB.out.under Hbe.out).alloc (.cells #[.string nm, .slice x1 x2 x3, .slice x4 x5 x6] 63)).two
   rw [HA2.out] at d1
   clear c0 c1 c2 b0 b1 HA1 HW1
   generalize hW2 : wr.alloc (.cells #[.string nm, .slice x1 x2 x3, .slice x4 x5 x6] 63) = W2 at *
   clear hW2
   generalize hgT : wr.heap.size = gT at *
   have Hne := kp (show some gT ≠ some W0.heap.size from fun hh => by injection hh with hh; have := Hmet.out.lt; omega)
   have HgT := kp hgT
   clear hgT
   go_region_held3 (fun w' => w'.cell? ⟨w.heap.size, 0, none⟩ = some (.string d.name) ∧ w'.cell? ⟨w.heap.size, 1, none⟩ = some (.slice (some ⟨b, off, none⟩) d.tiers.length d.c) ∧ w'.cell? ⟨gT, 0, none⟩ = some (.string nm) ∧ w'.cell? ⟨gT, 1, none⟩ = some (.slice x1 x2 x3) ∧ w'.cell? ⟨gT, 2, none⟩ = some (.slice x4 x5 x6) ∧ Below W2.heap.size W2 w')
    (first
      | exact ⟨d0, d1, t0, t1, t2, (Below.refl _ _).drew⟩
      | (go_split_ands; with_reducible exact keep_below2 hbx ⟨by assumption, by assumption, by assumption, by assumption, by assumption, by assumption⟩))
    (first
      | (go_at_call 91; go_split_ands; refine (HA3.out _ (by assumption)).mono ?_; rintro e wx ⟨rfl, hbx⟩)
      | (go_at_call 90; go_split_ands; refine (HW3.out _ (by assumption)).mono ?_; rintro e wx ⟨r1, rfl, hr1, hbx⟩))
   rename_i hHeld
   obtain ⟨e0, e1, e2, e3, e4, hb3⟩ := hHeld
   have Hb3 := kp hb3
   have Hmet3 := kp ((Hmet.out.below (by rw [HgT.out]; exact Hb2.out)).below hb3)
   subst hr1
   clear hb3 d0 d1 t0 t1 t2 e3 e4 HA3 HW3
   have Hlt3 := kp (show L.length < maxLen from Nat.lt_of_le_of_lt Hll.out (by unfold maxLen; omega))
   obtain ⟨D, hown, hD, hat⟩ := Hmet3.out
   have Hq0 := kp (MetS.look hat hsz.out Hnew.out)
   have hat2 := metS_put hD hat _ hsz.out
   have Hq1 := kp (MetS.look1 hat2 hsz.out (by simp))
   have Hkey := kp (show keyOf Tryz.prog 9 (.string nm) = some (.string nm.data.toList) from keyOf_string_mk Tryz.underlying9 hsz.out)
   have Hfin := kp (show ∀ w', w'.ownsMap Tryz.prog 9 (plainElem Tryz.prog 3) W0.heap.size (L.length + 1) (D.put (.string nm.data.toList) (.lit (.int .i64 1))) → MetS w' W0.heap.size L1 from fun w' h2 => ⟨_, by rw [Hnx.out, List.length_append]; exact h2, hD.put _ _, by rw [Hnx.out]; exact hat2⟩)
   clear hat hat2 hD
   go_wp2_with (first
    | (at_lookup; refine wpList_lookup_own_int _ rfl (.tmp 41) (.tmp 43) 90 rfl 9 3 .i64 strLaw Tryz.underlying90 Tryz.underlying3 (zeroInt _) W0.heap.size L.length D rfl hown (.string nm) (.string nm.data.toList) rfl Hkey.out ?_; intro q hat1 hwq; obtain rfl := Hq0.out q hat1; clear hat1 hwq)
    | (at_mapUpdate; refine wpList_mapUpdate_own _ rfl (.tmp 41) (.tmp 43) (.tmp 45) 90 rfl 9 3 strLaw Tryz.underlying90 (plainElem Tryz.prog 3) W0.heap.size L.length D rfl hown Hlt3.out (.string nm) (.int .i64 1) (.string nm.data.toList) rfl rfl Hkey.out _ [] (plainElem_int Tryz.underlying3 (by decide)) ?_; intro w4 hown1 hgr1; have Hgr1 := kp hgr1; have e2' := (hgr1.cell e2 Hne.out); clear hgr1 e2)
    | (at_lookup; refine wpList_lookup_own_int _ rfl (.tmp 46) (.tmp 48) 90 rfl 9 3 .i64 strLaw Tryz.underlying90 Tryz.underlying3 (zeroInt _) W0.heap.size (L.length + 1) _ rfl hown1 (.string nm) (.string nm.data.toList) rfl Hkey.out ?_; intro q2 hat2 hwq2; obtain rfl := Hq1.out q2 hat2; have Hown1 := kp hown1; clear hat2 hwq2 hown1))
   have Hmet4 := kp (Hfin.out _ Hown1.out)
   have Hle := kp (show W0.heap.size ≤ gT from by have := Hbe.out.size; rw [HgT.out] at this; exact this)
   have Hb4 := kp (((Hbe.out.trans (Hb2.out.mono Hle.out)).trans (Hb3.out.mono (Nat.le_trans Hbe.out.size Hb2.out.size))).grown Hgr1.out (Nat.le_trans (Nat.le_trans Hbe.out.size Hb2.out.size) Hb3.out.size) (fun j e => by cases e; exact Nat.le_refl _))
   refine ⟨⟨k + 1, by omega, by go_num, ?_, Hb4.out⟩, by simp [intOf]; omega⟩
   rw [HL1.out]
   exact Hmet4.out
  ·go_wp2_with fail
   exact HR.out _ _ rfl (Hb0.out.trans (Hbe.out.mono Hb0.out.size))
set_option maxRecDepth 100000 in
set_option maxHeartbeats 2000000 in
theorem measures_ok (A : Option Addr) (l : List ByteArray) (c : Nat) (w : World) (hr : Row w w.heap.size A (l.map .string)) (hz : ∀ x ∈ l, x.size ≤ maxLen) (m1 : 1 ≤ l.length) (m2 : l.length ≤ 3) (hnm : ∀ k (h : k < l.length), NameOk l[k]) (hne : ∀ i k (hk : k < l.length) (hi : i < k), l[i] ≠ l[k]) :
 Calls Tryz.prog 58 #[.slice A l.length c] w (RetI (fun r => r = 0) w) := by
 have HR := kp (fun r w' h hb => RetI.mono (P := fun r => r = 0) (w := w) (r := r) (w' := w') h hb)
 have Hr := kp hr
 have Hz := kp hz
 have Hnm := kp hnm
 have Hne := kp hne
 have HN := kp tname_ok
 have HF := kp fresh_ok
 have hmm := @run_makeMap Tryz.prog
 clear hr hz hnm hne
 generalize hQ : RetI (fun r => r = 0) w = Q at *
 clear hQ
 obtain ⟨n, hN⟩ : ∃ n, l.length = n := ⟨_, rfl⟩
 rw [hN] at m1 m2 ⊢
 have Hn := kp hN
 clear hN
 have h1' : ¬ ((n : Nat) : Int) < 1 := by omega
 have h2' : ¬ (3 : Int) < ((n : Nat) : Int) := by omega
 go_enter Tryz.func58, Tryz.ntmps58
 go_wp2_with fail
 clear h1' h2'
 go_loopw [18] (fun v18 wr => ∃ k : Nat, k ≤ n ∧ v18 = .int .i64 k ∧ MetS wr w.heap.size (l.take k) ∧ Below w.heap.size w wr) (fun v18 _ => n - (intOf v18).toNat)
 case atStart => exact ⟨0, Nat.zero_le _, rfl, MetS.new _, (Below.refl _ _).alloc (Nat.le_refl _) _⟩
 case round =>
  obtain ⟨k, hk, rfl, hmet, hbe⟩ := hrel
  have Hmet := kp hmet
  have Hbe := kp hbe
  clear hmet hbe
  by_cases hlt : k < n
  ·have hkl : k < l.length := by rw [Hn.out]; exact hlt
   obtain ⟨b, off, hA, hb, c0⟩ := Row.at_ (Hr.out.below Hbe.out) (k := k) (by rw [List.length_map]; exact hkl)
   rw [List.getElem_map] at c0
   rw [hA]
   have HNk := kp (HN.out (l[k]'hkl) wr (Hnm.out k hkl))
   have HFk := kp (HF.out w.heap.size (l.take k) (l[k]'hkl) wr (Hz.out _ (List.getElem_mem hkl)) (by rw [List.length_take]; omega) Hmet.out (fun hm => by
    obtain ⟨i, hi, e⟩ := List.getElem_of_mem hm
    rw [List.length_take] at hi
    rw [List.getElem_take] at e
    exact Hne.out i k hkl (by omega) e))
   have Hnx := kp (show l.take (k + 1) = l.take k ++ [l[k]'hkl] by rw [List.take_succ_eq_append_getElem hkl])
   clear hA
   generalize (l[k]'hkl) = x at *
   go_wp2_with fail
   refine HNk.out.mono ?_
   rintro e w1 ⟨rfl, rfl⟩
   go_wp2_with fail
   refine HFk.out.mono ?_
   rintro e w1 ⟨rfl, hgr, hm1⟩
   have Hgr := kp hgr
   have Hm1 := kp hm1
   clear hgr hm1
   go_wp2_with fail
   refine ⟨⟨k + 1, by omega, by go_num, by rw [Hnx.out]; exact Hm1.out, Hbe.out.grown Hgr.out Hbe.out.size (fun j e => by cases e; exact Nat.le_refl _)⟩, by simp [intOf]; omega⟩
  ·go_wp2_with fail
   exact HR.out _ _ rfl Hbe.out
theorem snoc_newD {l : List Dim} {k : Nat} (hk : k < l.length) (hn : ∀ i (hi : i < k), l[i].name ≠ l[k].name) : l[k].name ∉ (l.take k).map Dim.name := by
 intro hm
 obtain ⟨t, ht, e⟩ := List.mem_map.1 hm
 obtain ⟨i, hi, rfl⟩ := List.getElem_of_mem ht
 rw [List.length_take] at hi
 rw [List.getElem_take] at e
 exact hn i (by omega) e
set_option maxRecDepth 100000 in
set_option maxHeartbeats 2000000 in
theorem schcheck_ok (s : Sch) (w : World) (h : SchAt w w.heap.size s) (ho : SchOk s) : Calls Tryz.prog 26 #[.agg (schC s)] w (RetI (fun r => r = 0) w) := by
 have HR := kp (fun r w' h hb => RetI.mono (P := fun r => r = 0) (w := w) (r := r) (w' := w') h hb)
 have hb0 := (Below.refl w.heap.size w).alloc (Nat.le_refl _) (.cells (schC s) 25)
 have Hb0 := kp hb0
 have H0 := kp ((h.below hb0).more hb0.size)
 have HB := kp (Box.new w 25 (schC s))
 have hn := h.n
 have hnm := h.nm
 have HD := kp dimcheck_ok
 have HF := kp fresh_ok
 have HM := kp (fun W hW hr => measures_ok s.Am s.meas s.cm W hr hW ho.m1 ho.m2 ho.meas ho.mnames)
 have Ho := kp ho
 have hmm := @run_makeMap Tryz.prog
 have h1' : ¬ ((s.dims.length : Nat) : Int) < 1 := by have := ho.n1; omega
 have h2' : ¬ (16 : Int) < ((s.dims.length : Nat) : Int) := by have := ho.n2; omega
 have h16 : s.dims.length ≤ 16 := ho.n2
 unfold maxLen at hn hnm
 clear h hb0 ho
 generalize hQ : RetI (fun r => r = 0) w = Q at *
 clear hQ
 unfold schC at HB Hb0 H0 ⊢
 go_enter Tryz.func26, Tryz.ntmps26
 have hBM := (HB.out.alloc (.map #[] 0)).two
 have hB1 := HB.out.two
 obtain ⟨m0, m1, _, _⟩ := hBM
 obtain ⟨b0, b1, _, _⟩ := hB1
 generalize hW0 : w.alloc (.cells #[.slice s.A s.dims.length s.c, .slice s.Am s.meas.length s.cm] 25) = W0 at *
 go_wp2_with fail
 (try rw [hW0])
 clear h1' h2' b0 b1 m0 m1 hW0
 go_loopw [21] (fun v21 wr => ∃ k : Nat, k ≤ s.dims.length ∧ v21 = .int .i64 k ∧ MetS wr W0.heap.size ((s.dims.take k).map Dim.name) ∧ Below W0.heap.size W0 wr) (fun v21 _ => s.dims.length - (intOf v21).toNat)
 case atStart => exact ⟨0, Nat.zero_le _, rfl, MetS.new _, (Below.refl _ _).alloc (Nat.le_refl _) _⟩
 case round =>
  obtain ⟨k, hk, rfl, hmet, hbe⟩ := hrel
  have Hmet := kp hmet
  have Hbe := kp hbe
  have HBr := kp (HB.out.under hbe)
  clear hmet hbe
  by_cases hlt : k < s.dims.length
  ·have hs := (H0.out.below Hbe.out).more Hbe.out.size
   have hd := hs.dims _ (List.getElem_mem hlt)
   obtain ⟨b, off, hA, hb, c0, c1⟩ := hs.dim k hlt
   rw [hA]
   have hbx := (Below.refl wr.heap.size wr).alloc (Nat.le_refl _) (.cells (dimC (s.dims[k]'hlt)) 61)
   have HDk := kp (HD.out (s.dims[k]'hlt) _ ((hd.below hbx).more hbx.size) (Ho.out.dims k hlt))
   have Hsz := kp (show (s.dims[k]'hlt).name.size ≤ maxLen from hd.name)
   have Hnew := kp (snoc_newD hlt (fun i hi => Ho.out.names i k hlt hi))
   have Hnx := kp (show (s.dims.take (k + 1)).map Dim.name = (s.dims.take k).map Dim.name ++ [(s.dims[k]'hlt).name] by rw [List.take_succ_eq_append_getElem hlt, List.map_append]; rfl)
   have Hll := kp (show ((s.dims.take k).map Dim.name).length ≤ 5000 by rw [List.length_map, List.length_take]; omega)
   have hi0 : (0 : Int) ≤ (k : Int) := by omega
   have hi1 : (k : Int) < (s.dims.length : Int) := by omega
   have Hbx := kp hbx
   have Hbt := kp (Box.new wr 61 (dimC (s.dims[k]'hlt)))
   have Hbe2 := kp (Hbe.out.trans (hbx.mono Hbe.out.size))
   have Hmet2 := kp (Hmet.out.below hbx)
   unfold dimC at HDk Hbx Hbt Hbe2 Hmet2
   clear hs hd hA hbx
   generalize hL : (s.dims.take k).map Dim.name = L at *
   clear hL
   generalize (s.dims[k]'hlt).name = nm at *
   generalize (s.dims[k]'hlt).A = x1 at *
   generalize (s.dims[k]'hlt).tiers.length = x2 at *
   generalize (s.dims[k]'hlt).c = x3 at *
   obtain ⟨t0, t1, _, _⟩ := Hbt.out.two
   go_upto_region 7 with fail
   generalize hW2 : wr.alloc (.cells #[.string nm, .slice x1 x2 x3] 61) = W2 at *
   clear hW2
   go_wp2_with fail
   refine HDk.out.mono ?_
   rintro e w3 ⟨r, rfl, rfl, hb3⟩
   have Hb3 := kp (Hbe2.out.trans (hb3.mono Hbe2.out.size))
   have Hmet3 := kp (Hmet2.out.below hb3)
   have HFk := kp (HF.out W0.heap.size L nm w3 Hsz.out Hll.out Hmet3.out Hnew.out)
   have t0' := cell_keep hb3 t0
   clear t0 t1 c0 c1 hb3 HDk
   go_wp2_with fail
   refine HFk.out.mono ?_
   rintro e w4 ⟨rfl, hgr, hm4⟩
   have Hgr := kp hgr
   have Hm4 := kp hm4
   clear hgr hm4 t0'
   go_wp2_with fail
   refine ⟨⟨k + 1, by omega, by go_num, by rw [Hnx.out]; exact Hm4.out, Hb3.out.grown Hgr.out Hb3.out.size (fun j e => by cases e; exact Nat.le_refl _)⟩, by simp [intOf]; omega⟩
  ·obtain ⟨b0, b1, _, _⟩ := HBr.out.two
   have Hs := kp ((H0.out.below Hbe.out).more Hbe.out.size)
   have HMk := kp (HM.out wr Hs.out.sz Hs.out.meas)
   go_wp2_with fail
   refine HMk.out.mono ?_
   rintro e w4 ⟨r, rfl, rfl, hb4⟩
   have Hb4 := kp (Hbe.out.trans (hb4.mono Hbe.out.size))
   clear hb4 b0 b1
   go_wp2_with fail
   exact HR.out _ _ rfl (Hb0.out.trans (Hb4.out.mono Hb0.out.size))
end Go.Proofs.YthmbgbmcdbdecaaGreat.Tc
