/- Layer 12, seventh part: the map of what was met; a list that brings nothing twice. -/
import Derived.Test.YtlmgmojicpdbeaaCh6
import Derived.Maps.Own
import Derived.Maps.OwnOps
import Derived.Maps.Views
namespace Go.Proofs.Ytlmgmojicpdbeaa.Ch
open Go.RowKit Base Crc Go.Maps
set_option linter.unusedVariables false

theorem keyLaw : Keyed Try.prog 3 := int_keyed Try.underlying3
theorem zeroInt (w : World) : (zeroValue 3).run Try.prog w = .ok (.int .i64 0) w := by kernel_rfl
def fitI (x : Int) : Prop := -9223372036854775808 ≤ x ∧ x ≤ 9223372036854775807
theorem wfI {x : Int} (h : fitI x) : (Lit.int .i64 x).wf = true := by
  unfold fitI at h
  exact WalkArith.wf_i64 (by omega)

/-- map block g counts how often each number came -/
def Met (w : World) (g : Nat) (L : List Int) : Prop :=
  ∃ D : DataW Unit, w.ownsMap Try.prog 3 (plainElem Try.prog 3) g L.length D ∧ IsMap D ∧ ∀ x, fitI x → D.atKey (.int .i64 x) (.lit (.int .i64 0)) = .lit (.int .i64 (L.count x : Nat))
theorem Met.new (w : World) : Met (w.alloc (.map #[] 0)) w.heap.size [] :=
  ⟨.map [], World.ownsMap_made _ _ _ _, isMap_empty, fun x _ => by simp [DataW.atKey]⟩
theorem Met.kept {w w' : World} {g : Nat} {L : List Int} (h : Met w g L) {row : Option Nat} (hg : w.grownBy w' row) (hne : some g ≠ row) : Met w' g L := by
  obtain ⟨D, h1, h2, h3⟩ := h
  exact ⟨D, h1.kept hg hne, h2, h3⟩
theorem Met.lt {w : World} {g : Nat} {L : List Int} (h : Met w g L) : g < w.heap.size := by
  obtain ⟨D, h1, _⟩ := h
  exact h1.lt
theorem put_count {D : DataW Unit} {L : List Int} (hD : IsMap D) (h3 : ∀ x, fitI x → D.atKey (.int .i64 x) (.lit (.int .i64 0)) = .lit (.int .i64 (L.count x : Nat))) (z : Int) (hz : fitI z) :
    ∀ x, fitI x → (D.put (.int .i64 z) (.lit (.int .i64 ((L.count z : Nat) + 1)))).atKey (.int .i64 x) (.lit (.int .i64 0)) = .lit (.int .i64 ((L ++ [z]).count x : Nat)) := by
  intro x hx
  by_cases e : x = z
  · subst e
    rw [atKey_put_same (k := .int .i64 x) hD (show WideAt.IsKeyLit (.int .i64 x) from trivial)]
    simp
  · rw [atKey_put_other (by intro hh; injection hh with _ hh; exact e hh), h3 x hx]
    rw [List.count_append]
    simp [Ne.symm e]

/-- what 'fresh' leaves: only the map's block, and what is new, has turned -/
def Fresh (w : World) (g : Nat) (L l : List Int) (e : Ending) (w' : World) : Prop :=
  e = .returned (.bool (decide (L ++ l).Nodup)) ∧ w.grownBy w' (some g) ∧ ((L ++ l).Nodup → Met w' g (L ++ l))

theorem nodup_snoc {L : List Int} {z : Int} (h : L.Nodup) (hz : L.count z = 0) : (L ++ [z]).Nodup := by
  rw [List.nodup_append]
  refine ⟨h, by simp, ?_⟩
  intro a ha b hb
  simp at hb
  subst hb
  intro e
  subst e
  exact List.count_eq_zero.1 hz ha
theorem not_nodup {L l : List Int} {k : Nat} (hk : k < l.length) (h : (L ++ l.take k).count l[k] ≠ 0) : ¬ (L ++ l).Nodup := by
  intro hn
  have hm : l[k] ∈ L ++ l.take k := by
    by_cases hc : l[k] ∈ L ++ l.take k
    · exact hc
    · exact absurd (List.count_eq_zero.2 hc) h
  have e : L ++ l = (L ++ l.take k) ++ l.drop k := by rw [List.append_assoc, List.take_append_drop]
  rw [e, List.nodup_append] at hn
  exact hn.2.2 _ hm _ (by rw [List.drop_eq_getElem_cons hk]; exact List.mem_cons_self) rfl

set_option maxRecDepth 100000 in
set_option maxHeartbeats 2000000 in
theorem fresh_any (A : Option Addr) (c : Nat) (l L : List Int) (mb g : Nat) (w : World) (hl : l.length ≤ 200) (hL : L.length ≤ 5000) (hf : ∀ x ∈ l, fitI x) (hr : Row w w.heap.size A (nums l)) (hne : mb ≠ g) (hag : ∀ b off, A = some ⟨b, off, none⟩ → b ≠ g)
    (hbx : Box w mb 79 #[.map (some g)]) (hm : Met w g L) (hnd : L.Nodup) :
    Calls Try.prog 61 #[.slice A l.length c, .pointer (some ⟨mb, 0, none⟩)] w (Fresh w g L l) := by
  have Hf := Lib.hid hf
  have Hr := Lib.hid hr
  have Hnd := Lib.hid hnd
  have Hag := Lib.hid hag
  clear hf hr hnd hag
  generalize hN : l.length = n at *
  have Hn := Lib.hid hN
  clear hN
  go_enter Try.func61, Try.ntmps61
  go_wp2
  go_loopw [8] (fun i wr => ∃ (k : Nat), k ≤ n ∧ i = .int .i64 k ∧ Box wr mb 79 #[.map (some g)] ∧ Met wr g (L ++ l.take k) ∧ (L ++ l.take k).Nodup ∧ w.grownBy wr (some g)) (fun i _ => n - (intOf i).toNat)
  case atStart => exact ⟨0, Nat.zero_le _, rfl, hbx, by simpa using hm, by simpa using Hnd.out, World.grownBy.refl w _⟩
  case round =>
    clear hbx hm
    obtain ⟨k, hk, rfl, hbx, hm, hnd, hgr⟩ := hrel
    obtain ⟨c0, f0⟩ := hbx.one
    have Hnd2 := Lib.hid hnd
    clear hnd
    by_cases hkn : k < n
    · have hkl : k < l.length := by rw [Hn.out]; exact hkn
      obtain ⟨b, off, rfl, hb, hc⟩ := Hr.out.at_ (k := k) (by simpa using hkl)
      rw [List.getElem_map] at hc
      have hbg := Hag.out b off rfl
      have hc' : wr.cell? ⟨b, off + k, none⟩ = some (.int .i64 (l[k]'hkl)) := (World.cell?_of_block (a := ⟨b, off + k, none⟩) (hgr.block b hb (by intro hh; injection hh with hh; exact hbg hh))).trans hc
      have hz := Hf.out _ (List.getElem_mem hkl)
      have hno := fun h => not_nodup (L := L) hkl h
      have hsn : L ++ l.take (k + 1) = (L ++ l.take k) ++ [l[k]'hkl] := by rw [List.take_succ_eq_append_getElem hkl, List.append_assoc]
      have Hno := Lib.hid hno
      have Hsn := Lib.hid hsn
      have hlen : (L ++ l.take k).length ≤ 6000 := by rw [List.length_append, List.length_take]; omega
      clear hc hno hsn
      generalize l[k]'hkl = z at *
      generalize hM : L ++ l.take k = M at *
      have HM := Lib.hid hM
      clear hM
      have hcl : M.count z ≤ 6000 := Nat.le_trans List.count_le_length hlen
      obtain ⟨D, hown, hD, hat⟩ := hm
      have hq0 : ∀ q : Int, D.atKey (.int .i64 z) (.lit (.int .i64 0)) = .lit (.int .i64 q) → q = ((M.count z : Nat) : Int) := by
        intro q hh
        rw [hat z hz] at hh
        injection hh with hh
        injection hh with _ hh
        exact hh.symm
      have hput := put_count hD hat z hz
      have hq1 : ∀ q : Int, (D.put (.int .i64 z) (.lit (.int .i64 ((M.count z : Nat) + 1)))).atKey (.int .i64 z) (.lit (.int .i64 0)) = .lit (.int .i64 q) → q = ((M.count z : Nat) : Int) + 1 := by
        intro q hh
        rw [hput z hz, List.count_append] at hh
        injection hh with hh
        injection hh with _ hh
        simp at hh
        omega
      have hmp : IsMap (D.put (.int .i64 z) (.lit (.int .i64 ((M.count z : Nat) + 1)))) := hD.put _ _
      have hsn1 := fun h0 => nodup_snoc (z := z) Hnd2.out h0
      have Hsn1 := Lib.hid hsn1
      have Hput := Lib.hid hput
      have Hq0 := Lib.hid hq0
      have Hq1 := Lib.hid hq1
      have Hmp := Lib.hid hmp
      have hwf1 : (Lit.int .i64 (((M.count z : Nat) : Int) + 1)).wf = true := WalkArith.wf_i64 (by omega)
      have Hwf := Lib.hid hwf1
      have Hz := Lib.hid hz
      clear hwf1 hz hat hq0 hq1 hput hmp hD hsn1
      have Hlt := Lib.hid (show M.length < maxLen from Nat.lt_of_le_of_lt hlen (by unfold maxLen; omega))
      generalize hcn : M.count z = cn at *
      have Hcn := Lib.hid hcn
      clear hcn
      clear hlen hL
      by_cases hcz : cn = 0
      · have Hcz := Lib.hid hcz
        clear hcz
        go_wp2_with (first
          | (at_lookup; refine wpList_lookup_own_int _ rfl (.tmp 12) (.tmp 13) 79 rfl 3 3 .i64 keyLaw Try.underlying79 Try.underlying3 (zeroInt _) g M.length D rfl hown (.int .i64 z) (.int .i64 z) rfl (keyOf_int_mk Try.underlying3 (wfI Hz.out)) ?_; intro q hat1 hwq; obtain rfl := Hq0.out q hat1; clear hat1 hwq)
          | (at_mapUpdate; refine wpList_mapUpdate_own _ rfl (.tmp 12) (.tmp 13) (.tmp 15) 79 rfl 3 3 keyLaw Try.underlying79 (plainElem Try.prog 3) g M.length D rfl hown Hlt.out (.int .i64 z) (.int .i64 ((cn : Int) + 1)) (.int .i64 z) rfl rfl (keyOf_int_mk Try.underlying3 (wfI Hz.out)) _ [] (plainElem_int Try.underlying3 Hwf.out) ?_; intro w1 hown1 hgr1; obtain ⟨c1, f1⟩ := (hbx.grown hgr1 (by intro hh; injection hh with hh; exact hne hh)).one)
          | (at_lookup; refine wpList_lookup_own_int _ rfl (.tmp 16) (.tmp 17) 79 rfl 3 3 .i64 keyLaw Try.underlying79 Try.underlying3 (zeroInt _) g (M.length + 1) _ rfl hown1 (.int .i64 z) (.int .i64 z) rfl (keyOf_int_mk Try.underlying3 (wfI Hz.out)) ?_; intro q2 hat2 hwq2; have Hq2 := Lib.hid (Hq1.out q2 hat2); have hgt : decide (1 < q2) = false := (by have h9 := Hq2.out; have h8 := Hcz.out; subst h9; simp; omega); have Hown1 := Lib.hid hown1; have Hgr1 := Lib.hid hgr1; clear hat2 hwq2 hown1 hgr1 hcl))
        have hb1 := hbx.grown Hgr1.out (by intro hh; injection hh with hh; exact hne hh)
        refine ⟨?_, by simp [intOf]; omega⟩
        refine ⟨k + 1, by omega, by simp, hb1, ?_, ?_, hgr.trans Hgr1.out⟩
        · rw [Hsn.out]
          exact ⟨_, by rw [List.length_append]; exact Hown1.out, Hmp.out, Hput.out⟩
        · rw [Hsn.out]
          exact Hsn1.out Hcz.out
      · have Hcz := Lib.hid hcz
        clear hcz
        go_wp2_with (first
          | (at_lookup; refine wpList_lookup_own_int _ rfl (.tmp 12) (.tmp 13) 79 rfl 3 3 .i64 keyLaw Try.underlying79 Try.underlying3 (zeroInt _) g M.length D rfl hown (.int .i64 z) (.int .i64 z) rfl (keyOf_int_mk Try.underlying3 (wfI Hz.out)) ?_; intro q hat1 hwq; obtain rfl := Hq0.out q hat1; clear hat1 hwq)
          | (at_mapUpdate; refine wpList_mapUpdate_own _ rfl (.tmp 12) (.tmp 13) (.tmp 15) 79 rfl 3 3 keyLaw Try.underlying79 (plainElem Try.prog 3) g M.length D rfl hown Hlt.out (.int .i64 z) (.int .i64 ((cn : Int) + 1)) (.int .i64 z) rfl rfl (keyOf_int_mk Try.underlying3 (wfI Hz.out)) _ [] (plainElem_int Try.underlying3 Hwf.out) ?_; intro w1 hown1 hgr1; obtain ⟨c1, f1⟩ := (hbx.grown hgr1 (by intro hh; injection hh with hh; exact hne hh)).one)
          | (at_lookup; refine wpList_lookup_own_int _ rfl (.tmp 16) (.tmp 17) 79 rfl 3 3 .i64 keyLaw Try.underlying79 Try.underlying3 (zeroInt _) g (M.length + 1) _ rfl hown1 (.int .i64 z) (.int .i64 z) rfl (keyOf_int_mk Try.underlying3 (wfI Hz.out)) ?_; intro q2 hat2 hwq2; have Hq2 := Lib.hid (Hq1.out q2 hat2); have hgt : decide (1 < q2) = true := (by have h9 := Hq2.out; have h8 := Hcz.out; subst h9; simp; omega); have Hown1 := Lib.hid hown1; have Hgr1 := Lib.hid hgr1; clear hat2 hwq2 hown1 hgr1 hcl))
        go_ret
        have hnn := Hno.out Hcz.out
        exact ⟨by simp [hnn], hgr.trans Hgr1.out, fun h => absurd h hnn⟩
    · have hke : k = n := by omega
      subst hke
      have Htk := Lib.hid (show L ++ l.take k = L ++ l by rw [← Hn.out, List.take_length])
      go_wp2_with fail
      go_ret
      rw [Htk.out] at hm
      have hnn := Hnd2.out
      rw [Htk.out] at hnn
      exact ⟨by simp [hnn], hgr, fun _ => hm⟩

end Go.Proofs.Ytlmgmojicpdbeaa.Ch
