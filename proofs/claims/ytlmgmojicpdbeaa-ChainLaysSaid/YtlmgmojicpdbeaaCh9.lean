/- Layer 12, ninth part: chain.Follow, whatever the function that reads. -/
import Derived.Test.YtlmgmojicpdbeaaCh8
namespace Go.Proofs.Ytlmgmojicpdbeaa.Ch
open Go.RowKit Base Crc Go.Maps
set_option linter.unusedVariables false

def Followed (rd : Int → Nat → Option ByteArray) (first pages : Int) (I : Nat → World → Prop) (w : World) (e : Ending) (w' : World) : Prop :=
  ∃ (A B : Option Addr) (c d : Nat) (o l : List Int) (x : Int), e = .returned (.tuple #[.slice A o.length c, .slice B l.length d, .int .i64 x]) ∧ outOf (st rd pages first (count pages).toNat) = (o, l, x) ∧
    o.length ≤ 5000 ∧ l.length ≤ 5000 ∧ Row w' w'.heap.size A (nums o) ∧ Row w' w'.heap.size B (nums l) ∧ w.heap.size ≤ w'.heap.size ∧ ∃ i, I i w'

structure FInv (rd : Int → Nat → Option ByteArray) (first pages : Int) (I : Nat → World → Prop) (B : Nat) (k : Nat) (S : St) (v6 v7 : Value) (wr : World) : Prop where
  at_ : st rd pages first k = .ok S
  box : Box wr (B + 1) 79 #[.map (some B)]
  met : ∃ M, Met wr B M ∧ M.Nodup ∧ M.Perm (S.1 ++ S.2.1)
  own : wr.ownsRow (B + 2) 3 1 v6 S.1.length (nums S.1)
  list : wr.ownsRow (B + 2) 3 1 v7 S.2.1.length (nums S.2.1)
  apart : Apart v6 v7
  inv : I k wr
  size : B + 2 ≤ wr.heap.size

theorem Over.trans {B : Nat} {a b c : World} (h : Over B a b) (k : Over B b c) : Over B a c :=
  ⟨Nat.le_trans h.size k.size, fun i h1 h2 => (k.block i h1 (Nat.lt_of_lt_of_le h2 h.size)).trans (h.block i h1 h2)⟩
theorem Over.mono {B C : Nat} {a b : World} (h : Over B a b) (hBC : B ≤ C) : Over C a b := ⟨h.size, fun i h1 h2 => h.block i (by omega) h2⟩
theorem Over.under {B : Nat} {a b : World} (h : Below a.heap.size a b) : Over B a b := ⟨h.size, fun i _ h2 => h.block i h2⟩
theorem Over.grown {B : Nat} {a b : World} {row : Option Nat} (h : a.grownBy b row) (hr : ∀ g, row = some g → g < B) : Over B a b :=
  ⟨h.size, fun i h1 h2 => h.block i h2 (by intro hh; have := hr i hh.symm; omega)⟩
theorem Over.alloc {B : Nat} (a : World) (o : Obj) : Over B a (a.alloc o) := .under (Below.refl _ _ |>.alloc (Nat.le_refl _) o)
theorem below_grown {B : Nat} {a b : World} {row : Option Nat} (h : a.grownBy b row) (hr : ∀ g, row = some g → B ≤ g) (hB : B ≤ a.heap.size) : Below B a b :=
  ⟨h.os, h.tape, h.output, h.size, fun i hi => h.block i (by omega) (by intro hh; have := hr i hh.symm; omega)⟩

theorem Followed.fail {rd : Int → Nat → Option ByteArray} {first pages : Int} {I : Nat → World → Prop} {w w' : World} {k j : Nat} {S : St} {e : Int} (hk : (k : Int) < count pages) (h : st rd pages first k = .ok S) (hs : step rd pages k S = .error e) (hi : I j w') (hz : w.heap.size ≤ w'.heap.size) :
    Followed rd first pages I w (.returned (.tuple #[.slice none 0 0, .slice none 0 0, .int .i64 e])) w' :=
  ⟨none, none, 0, 0, [], [], e, rfl, st_stop (by omega) h hs, by simp, by simp, Row.nil _ _ _, Row.nil _ _ _, hz, j, hi⟩
theorem step_none {rd : Int → Nat → Option ByteArray} {pages : Int} {k : Nat} {S : St} (h : rd S.2.2 k = none) : step rd pages k S = .error 9 := by unfold step; rw [h]
theorem step_form {rd : Int → Nat → Option ByteArray} {pages : Int} {k : Nat} {S : St} {s : ByteArray} (h : rd S.2.2 k = some s) (ht : take? s.data.toList = none) : step rd pages k S = .error 15 := by unfold step; rw [h]; simp only [ht]
theorem step_bad {rd : Int → Nat → Option ByteArray} {pages : Int} {k : Nat} {S : St} {s : ByteArray} {next : Int} {l : List Int} (h : rd S.2.2 k = some s) (ht : take? s.data.toList = some (next, l)) (hg : ¬ good pages k S next l) : step rd pages k S = .error 15 := by
  unfold step; rw [h]; simp only [ht]; rw [if_neg hg]

theorem take_owns (s : ByteArray) (next : Int) (l : List Int) (w : World) (h : take? s.data.toList = some (next, l)) :
    Calls Try.prog 39 #[.string s] w fun e w' => ∃ A c, e = .returned (.tuple #[.int .i64 next, .slice A l.length c, .int .i64 0]) ∧ w'.ownsRow (w.heap.size + 1) 3 1 (.slice A l.length c) l.length (nums l) ∧ Below w.heap.size w w' := by
  unfold take? at h
  split at h
  · rename_i hc
    rw [Bool.and_eq_true] at hc
    obtain ⟨n, h1, h2, h3, h4⟩ := form_half hc.1
    injection h with h
    injection h with e1 e2
    subst e1 e2
    rw [h4] at hc ⊢
    refine take_loop s w n h1 h2 h3 _ (fun _ v w' hown hbe => ?_) (fun hno => ?_)
    · obtain ⟨A, c, rfl⟩ := own_form hown
      exact ⟨A, c, rfl, hown, hbe⟩
    · rw [hc.2] at hno; cases hno
  · cases h
theorem perm_split {M own list l : List Int} {y : Int} (h : M.Perm (own ++ list)) : ((M ++ [y]) ++ l).Perm ((own ++ [y]) ++ (list ++ l)) := by
  have h1 : ((M ++ [y]) ++ l).Perm ((own ++ list) ++ ([y] ++ l)) := by rw [List.append_assoc]; exact h.append_right _
  refine h1.trans ?_
  rw [List.append_assoc, List.append_assoc]
  refine List.Perm.append_left _ ?_
  rw [← List.append_assoc, ← List.append_assoc]
  exact (List.perm_append_comm).append_right _

theorem count_small (n : Int) (h : fitI n) : 0 ≤ count n ∧ count n ≤ 100000000000000000 := by
  unfold count
  unfold fitI at h
  split <;> omega

set_option maxRecDepth 100000 in
set_option maxHeartbeats 4000000 in
theorem follow_any (rd : Int → Nat → Option ByteArray) (first pages : Int) (fn : Nat) (caps : Array Value) (I : Nat → World → Prop) (w : World) (hf : fitI first) (hp : fitI pages) (h0 : I 0 w)
    (hent : ∀ (args : Array Value) (w : World), (callFunc fn args).run Try.prog w = .ok (.enter fn args) w)
    (hI : ∀ i W W', I i W → Below w.heap.size W W' → I i W')
    (hyes : ∀ (i : Nat) (y : Int) (W : World) (s : ByteArray), rd y i = some s → i ≤ 40 → fitI y → I i W → w.heap.size ≤ W.heap.size → Calls Try.prog fn (#[.int .i64 y, .int .i64 i] ++ caps) W fun e W' => e = .returned (.tuple #[.string s, .int .i64 0]) ∧ I (i + 1) W' ∧ Over w.heap.size W W')
    (hno : ∀ (i : Nat) (y : Int) (W : World), rd y i = none → i ≤ 40 → fitI y → I i W → w.heap.size ≤ W.heap.size → Calls Try.prog fn (#[.int .i64 y, .int .i64 i] ++ caps) W fun e W' => e = .returned (.tuple #[.string ⟨#[]⟩, .int .i64 9]) ∧ I (i + 1) W' ∧ Over w.heap.size W W')
    (hK : ∀ i S, st rd pages first i = .ok S → i ≤ 30)
    (hsz : ∀ y i s, rd y i = some s → s.size ≤ maxLen) :
    Calls Try.prog 47 #[.int .i64 first, .int .i64 pages, .func (.func fn) #[] caps] w (Followed rd first pages I w) := by
  obtain ⟨i0, ti0, tz0, tz1, tz2⟩ := info_parts info_int
  have HI := Lib.hid hI
  have Hyes := Lib.hid hyes
  have Hno := Lib.hid hno
  have HK := Lib.hid hK
  have Hsz := Lib.hid hsz
  have Hp := Lib.hid hp
  have Hf := Lib.hid hf
  have Hc := Lib.hid (count_small pages hp)
  have H0 := Lib.hid h0
  clear hI hyes hno hK hsz hp hf h0
  have hmm := @run_makeMap Try.prog
  have hmf : ∀ (fn : Fn) (first cap : Array Value) (w : World), (Instr.makeFunc fn first cap).run Try.prog w = .ok (.func fn first cap) w := fun _ _ _ _ => rfl
  go_enter Try.func47, Try.ntmps47
  go_wp2_with fail
  refine (count_any pages _ Hp.out.2).mono ?_
  rintro e w' ⟨rfl, rfl⟩
  go_wp2_with fail
  have Hcn := Lib.hid (rfl : count pages = count pages)
  go_loopw [6, 7, 11, 23] (fun v6 v7 v11 i wr => ∃ (k : Nat) (own list : List Int) (y : Int), (k : Int) ≤ count pages ∧ i = .int .i64 (k : Nat) ∧ v11 = .int .i64 y ∧ FInv rd first pages I w.heap.size k (own, list, y) v6 v7 wr) (fun _ _ _ i _ => (count pages).toNat - (intOf i).toNat)
  case atStart =>
    refine ⟨0, [], [], first, Hc.out.1, rfl, rfl, rfl, ?_, ⟨[], ?_, by simp, by simp⟩, World.ownsRow_nil _ _ _ _, World.ownsRow_nil _ _ _ _, .inl rfl, ?_, ?_⟩
    · exact Box.lay (by simp)
    · exact Over.met (B := 0) (Over.alloc _ _) (Met.new w) (by omega)
    · exact HI.out _ _ _ H0.out ((by repeat (first | exact Below.refl _ _ | assumption | refine Below.drew ?_ | (refine Below.alloc ?_ (by simp <;> omega) _) | (refine Below.setCell ?_ (by simp <;> omega) _))))
    · simp
  case round =>
    obtain ⟨k, own, list, y, hk, rfl, rfl, F⟩ := hrel
    obtain ⟨A7, c7, h7⟩ : ∃ A c, u7 = .slice A list.length c := own_form F.list
    subst h7
    obtain ⟨A6, c6, h6⟩ : ∃ A c, u6 = .slice A own.length c := own_form F.own
    subst h6
    have HF := Lib.hid F
    have hk30 := HK.out k _ F.at_
    have Fa := Lib.hid (st_facts Hf.out k _ F.at_)
    have hwB := Lib.hid F.size
    clear F hmm hmf
    by_cases hkn : (k : Int) < count pages
    · rcases hrd : rd y k with _ | s
      · have Hrd := Lib.hid hrd
        clear hrd
        go_wp2_with fail
        refine (Hno.out k y _ Hrd.out (by omega) Fa.out.now HF.out.inv (by have := HF.out.size; omega)).mono ?_
        rintro e w1 ⟨rfl, hinv, hov⟩
        go_wp2_with fail
        go_ret3
        exact Followed.fail hkn HF.out.at_ (step_none Hrd.out) hinv (by have := HF.out.size; have := hov.size; omega)
      · have Hrd := Lib.hid hrd
        clear hrd
        go_wp2_with fail
        refine (Hyes.out k y _ s Hrd.out (by omega) Fa.out.now HF.out.inv (by have := HF.out.size; omega)).mono ?_
        rintro e w1 ⟨rfl, hinv, hov⟩
        have Hinv := Lib.hid hinv
        have Hov := Lib.hid hov
        have hs1 := Lib.hid (show w.heap.size + 2 ≤ w1.heap.size by have := HF.out.size; have := hov.size; omega)
        clear hinv hov
        rcases htk : take? s.data.toList with _ | ⟨next, l⟩
        · have Htk := Lib.hid htk
          clear htk
          go_wp2_with fail
          refine (take_no s _ (Hsz.out _ _ _ Hrd.out) Htk.out).mono ?_
          rintro e w2 ⟨rfl, hbe⟩
          go_wp2_with fail
          go_ret3
          exact Followed.fail hkn HF.out.at_ (step_form Hrd.out Htk.out) (HI.out _ _ _ Hinv.out (hbe.mono (by have := hs1.out; omega))) (by have := hs1.out; have := hbe.size; omega)
        · have Htk := Lib.hid htk
          clear htk
          go_wp2_with fail
          refine (take_owns s next l _ Htk.out).mono ?_
          rintro e w2 ⟨A, c, rfl, hown, hbe⟩
          have Hown := Lib.hid hown
          have Hbe := Lib.hid hbe
          clear hown hbe
          go_wp2_with fail
          refine (count_any pages _ Hp.out.2).mono ?_
          rintro e w' ⟨rfl, rfl⟩
          obtain ⟨M, hm0, hnd0, hpm⟩ := HF.out.met
          have Hpm := Lib.hid hpm
          have Hnd0 := Lib.hid hnd0
          have bx2 : Box w2 (w.heap.size + 1) 79 #[.map (some w.heap.size)] := (Over.under Hbe.out : Over 0 _ _).box (Hov.out.box HF.out.box (by omega)) (by omega)
          have m2 : Met w2 w.heap.size M := (Over.under Hbe.out : Over 0 _ _).met (Hov.out.met hm0 (by omega)) (by omega)
          have hs2 := Lib.hid (show w.heap.size + 2 ≤ w2.heap.size by have := hs1.out; have := Hbe.out.size; omega)
          have hML : M.length ≤ 4000 := by
            rw [hpm.length_eq, List.length_append]
            have := Fa.out.len
            have := Fa.out.few
            simp only at *
            omega
          have Hm2 := Lib.hid m2
          have Hbx2 := Lib.hid bx2
          clear hm0 hnd0 hpm m2 bx2
          have hw1 : IntKind.i64.wrap ((k : Int) + 1) = (k : Int) + 1 := IntWalk.i64_in _ (by omega)
          go_wp2_with fail
          refine (fresh_any (some ⟨w2.heap.size, 0, none⟩) 1 [y] M (w.heap.size + 1) w.heap.size _ (by simp) (by omega) (by intro x hx; simp at hx; subst hx; exact Fa.out.now) (row_one w2 y) (by omega) (by intro b off hh; have := hs2.out; simp at hh; omega) (Hbx2.out.alloc _) (Over.met (B := 0) (Over.alloc _ _) Hm2.out (by omega)) Hnd0.out).mono ?_
          rintro e w3 ⟨rfl, hg3, hm3⟩
          have Hg3 := Lib.hid hg3
          have Hm3 := Lib.hid hm3
          clear hg3 hm3
          by_cases hn1 : (M ++ [y]).Nodup
          · rw [decide_eq_true hn1]
            have Hn1 := Lib.hid hn1
            clear hn1
            have own3 : w3.ownsRow (w1.heap.size + 1) 3 1 (.slice A l.length c) l.length (nums l) := (Over.grown (B := w.heap.size + 1) Hg3.out (by intro g hg; injection hg with hg; omega)).own ((Over.alloc (B := 0) _ _).own Hown.out (by omega)) (by have := hs1.out; omega)
            have Hown3 := Lib.hid own3
            have bx3 := Lib.hid ((Hbx2.out.alloc (.cells #[.int .i64 y] 3)).grown Hg3.out (by simp))
            obtain ⟨t1, t2, t3, t4⟩ := take_facts Htk.out
            have ht1 := Lib.hid t1
            have ht2 := Lib.hid t2
            have ht3 := Lib.hid t3
            clear own3 t1 t2 t3 t4
            go_wp2_with fail
            refine (fresh_any A c l (M ++ [y]) (w.heap.size + 1) w.heap.size _ (Nat.le_trans ht1.out (by omega)) (by simp; omega) ht2.out (Row.of_own Hown3.out) (by omega) (by intro b off hh; subst hh; have := (own_lt Hown3.out (k := b) rfl).1; have := hs1.out; omega) bx3.out (Hm3.out Hn1.out) Hn1.out).mono ?_
            rintro e w4 ⟨rfl, hg4, hm4⟩
            have Hg4 := Lib.hid hg4
            have Hm4 := Lib.hid hm4
            clear hg4 hm4
            have hbe4 := Lib.hid (show Below w.heap.size w1 w4 from ((Hbe.out.mono (by have := hs1.out; omega)).trans ((Below.refl _ _).alloc (by have := hs2.out; omega) _)).trans ((below_grown Hg3.out (by intro g hg; injection hg with hg; omega) (by have := hs2.out; simp; omega)).trans (below_grown Hg4.out (by intro g hg; injection hg with hg; omega) (by have := hs2.out; have := Hg3.out.size; simp at this; omega))))
            have Hto4 := Lib.hid (show Over (w.heap.size + 2) wr w4 from (((Hov.out.mono (by omega)).trans (Over.under Hbe.out)).trans (Over.alloc _ _)).trans ((Over.grown Hg3.out (by intro g hg; injection hg with hg; omega)).trans (Over.grown Hg4.out (by intro g hg; injection hg with hg; omega))))
            by_cases hn2 : (M ++ [y] ++ l).Nodup
            · rw [decide_eq_true hn2]
              have Hn2 := Lib.hid hn2
              clear hn2
              have hpos : 0 < pages := by
                have h1 := hkn
                unfold count at h1
                split at h1 <;> omega
              have hll : list.length ≤ 3660 := by have := Fa.out.few; simp only at this; omega
              have hw2 : IntKind.i64.wrap (pages - (list.length : Int)) = pages - (list.length : Int) := IntWalk.i64_in _ (by have h := Hp.out; unfold fitI at h; omega)
              clear hpos
              have own4 : w4.ownsRow (w.heap.size + 2) 3 1 (.slice A6 own.length c6) own.length (nums own) := (Hto4.out).own HF.out.own (by omega)
              have list4 : w4.ownsRow (w.heap.size + 2) 3 1 (.slice A7 list.length c7) list.length (nums list) := (Hto4.out).own HF.out.list (by omega)
              have l4 : w4.ownsRow (w1.heap.size + 1) 3 1 (.slice A l.length c) l.length (nums l) := (Over.grown (B := w.heap.size + 1) Hg4.out (by intro g hg; injection hg with hg; omega)).own Hown3.out (by have := hs1.out; omega)
              have hap : Apart (.slice A l.length c) (.slice A6 own.length c6) := by
                rcases hb : Value.ownBlock (.slice A l.length c) with _ | j
                · exact .inl hb
                · refine .inr ?_
                  rw [hb]
                  intro hh
                  have h1 := (own_lt Hown3.out hb).1
                  have h2 := (own_lt HF.out.own hh.symm).2
                  have h3 := Hov.out.size
                  omega
              have Hown4 := Lib.hid own4
              have Hlist4 := Lib.hid list4
              have Hl4 := Lib.hid l4
              have Hap := Lib.hid hap
              have hs4 := Lib.hid (show w.heap.size + 2 ≤ w4.heap.size by have := hs1.out; have := hbe4.out.size; omega)
              have Hbx4 := Lib.hid (bx3.out.grown Hg4.out (by simp))
              have hol : own.length ≤ 30 := by have := Fa.out.len; simp only at this; omega
              clear own4 list4 l4 hap
              have hgg : good pages k (own, list, y) next l ↔ ((l.length : Int) = min (pages - list.length) 122 ∧ (!((k : Int) + 1 == count pages) == decide (next < 0)) = false) := by
                unfold good
                have hnn := (perm_split (y := y) (l := l) Hpm.out).nodup_iff.1 Hn2.out
                simp only [hnn, true_and]
                refine and_congr_right fun _ => ?_
                by_cases e1 : (k : Int) + 1 = count pages <;> by_cases e2 : next < 0 <;> simp [e1, e2]
              by_cases hgd : good pages k (own, list, y) next l
              · obtain ⟨h3, hq⟩ := hgg.1 hgd
                have hgd := Lib.hid hgd
                clear hgg
                by_cases hm : 122 < pages - (list.length : Int)
                · have h3 : (l.length : Int) = 122 := by omega
                  go_wp2_with (first
                    | (at_builtin; refine wpList_append1 rfl (.tmp 77) (.tmp 79) 50 rfl (w.heap.size + 2) 3 i0 (.int .i64 0) 8 Try.underlying50 ti0 tz0 tz1 tz2 rfl w4 (.int .i64 y) rfl (.slice A6 own.length c6) own.length (nums own) rfl Hown4.out rfl (by omega) (by decide) hs4.out ?_; intro v5 w5 hown5 happ5; have Hown5 := Lib.hid hown5; have Happ5 := Lib.hid happ5; have hs5 := Lib.hid (Nat.le_trans hs4.out happ5.grown.size); clear hown5 happ5)
                    | (at_builtin; refine wpList_append_row rfl (.tmp 81) (.tmp 82) 50 rfl (w.heap.size + 2) 3 i0 (.int .i64 0) 8 Try.underlying50 ti0 tz0 tz1 tz2 rfl w5 (.slice A7 list.length c7) list.length (nums list) rfl (Happ5.out.other Hlist4.out HF.out.apart.symm) A l.length c _ (nums l) rfl (by simp) (Row.of_own (Happ5.out.other Hl4.out Hap.out)) (by intro u hu; simp at hu; obtain ⟨x, _, rfl⟩ := hu; rfl) (by have := ht1.out; omega) (by decide) hs5.out ?_; intro v6 w6 hown6 happ6; have Hown6 := Lib.hid hown6; have Happ6 := Lib.hid happ6; clear hown6 happ6))
                  have hlist5 := Happ5.out.other Hlist4.out HF.out.apart.symm
                  have hap5 := Happ5.out.apart Hlist4.out HF.out.apart.symm
                  have hbe5 := Happ5.out.below hbe4.out Hown4.out (by omega) (by have := hs4.out; omega)
                  have hbe6 := Happ6.out.below hbe5 hlist5 (by omega) (by have := hs5.out; omega)
                  have hb6 := Happ6.out.box (Happ5.out.box Hbx4.out Hown4.out (by omega)) hlist5 (by omega)
                  have hm6 := ((Hm4.out Hn2.out).kept Happ5.out.grown (by intro hh; have := (own_lt Hown4.out hh.symm).1; omega)).kept Happ6.out.grown (by intro hh; have := (own_lt hlist5 hh.symm).1; omega)
                  refine ⟨⟨k + 1, own ++ [y], list ++ l, next, by omega, by simp, rfl, st_next HF.out.at_ Hrd.out Htk.out hgd.out, hb6, ⟨M ++ [y] ++ l, hm6, Hn2.out, perm_split Hpm.out⟩, ?_, ?_, Happ6.out.apart Hown5.out hap5.symm, HI.out _ _ _ Hinv.out hbe6, by have := hs5.out; have := Happ6.out.grown.size; omega⟩, by simp [intOf]; omega⟩
                  · have := Happ6.out.other Hown5.out hap5.symm
                    simpa using this
                  · have := Hown6.out
                    simpa using this
                · have h3 : (l.length : Int) = pages - (list.length : Int) := by omega
                  go_wp2_with (first
                    | (at_builtin; refine wpList_append1 rfl (.tmp 77) (.tmp 79) 50 rfl (w.heap.size + 2) 3 i0 (.int .i64 0) 8 Try.underlying50 ti0 tz0 tz1 tz2 rfl w4 (.int .i64 y) rfl (.slice A6 own.length c6) own.length (nums own) rfl Hown4.out rfl (by omega) (by decide) hs4.out ?_; intro v5 w5 hown5 happ5; have Hown5 := Lib.hid hown5; have Happ5 := Lib.hid happ5; have hs5 := Lib.hid (Nat.le_trans hs4.out happ5.grown.size); clear hown5 happ5)
                    | (at_builtin; refine wpList_append_row rfl (.tmp 81) (.tmp 82) 50 rfl (w.heap.size + 2) 3 i0 (.int .i64 0) 8 Try.underlying50 ti0 tz0 tz1 tz2 rfl w5 (.slice A7 list.length c7) list.length (nums list) rfl (Happ5.out.other Hlist4.out HF.out.apart.symm) A l.length c _ (nums l) rfl (by simp) (Row.of_own (Happ5.out.other Hl4.out Hap.out)) (by intro u hu; simp at hu; obtain ⟨x, _, rfl⟩ := hu; rfl) (by have := ht1.out; omega) (by decide) hs5.out ?_; intro v6 w6 hown6 happ6; have Hown6 := Lib.hid hown6; have Happ6 := Lib.hid happ6; clear hown6 happ6))
                  have hlist5 := Happ5.out.other Hlist4.out HF.out.apart.symm
                  have hap5 := Happ5.out.apart Hlist4.out HF.out.apart.symm
                  have hbe5 := Happ5.out.below hbe4.out Hown4.out (by omega) (by have := hs4.out; omega)
                  have hbe6 := Happ6.out.below hbe5 hlist5 (by omega) (by have := hs5.out; omega)
                  have hb6 := Happ6.out.box (Happ5.out.box Hbx4.out Hown4.out (by omega)) hlist5 (by omega)
                  have hm6 := ((Hm4.out Hn2.out).kept Happ5.out.grown (by intro hh; have := (own_lt Hown4.out hh.symm).1; omega)).kept Happ6.out.grown (by intro hh; have := (own_lt hlist5 hh.symm).1; omega)
                  refine ⟨⟨k + 1, own ++ [y], list ++ l, next, by omega, by simp, rfl, st_next HF.out.at_ Hrd.out Htk.out hgd.out, hb6, ⟨M ++ [y] ++ l, hm6, Hn2.out, perm_split Hpm.out⟩, ?_, ?_, Happ6.out.apart Hown5.out hap5.symm, HI.out _ _ _ Hinv.out hbe6, by have := hs5.out; have := Happ6.out.grown.size; omega⟩, by simp [intOf]; omega⟩
                  · have := Happ6.out.other Hown5.out hap5.symm
                    simpa using this
                  · have := Hown6.out
                    simpa using this
              · have hgd' := fun h => hgd (hgg.2 h)
                have hgd := Lib.hid hgd
                have Hgd' := Lib.hid hgd'
                clear hgg hgd'
                by_cases hm : 122 < pages - (list.length : Int)
                · by_cases h3 : (l.length : Int) = 122
                  · have hq : (!((k : Int) + 1 == count pages) == decide (next < 0)) = true := by
                      rw [← Bool.not_eq_false]
                      intro h
                      exact Hgd'.out ⟨by omega, h⟩
                    go_wp2_with fail
                    go_ret3
                    exact Followed.fail hkn HF.out.at_ (step_bad Hrd.out Htk.out hgd.out) (HI.out _ _ _ Hinv.out hbe4.out) (by have := hs1.out; have := hbe4.out.size; omega)
                  · skip
                    go_wp2_with fail
                    go_ret3
                    exact Followed.fail hkn HF.out.at_ (step_bad Hrd.out Htk.out hgd.out) (HI.out _ _ _ Hinv.out hbe4.out) (by have := hs1.out; have := hbe4.out.size; omega)
                · by_cases h3 : (l.length : Int) = pages - (list.length : Int)
                  · have hq : (!((k : Int) + 1 == count pages) == decide (next < 0)) = true := by
                      rw [← Bool.not_eq_false]
                      intro h
                      exact Hgd'.out ⟨by omega, h⟩
                    go_wp2_with fail
                    go_ret3
                    exact Followed.fail hkn HF.out.at_ (step_bad Hrd.out Htk.out hgd.out) (HI.out _ _ _ Hinv.out hbe4.out) (by have := hs1.out; have := hbe4.out.size; omega)
                  · skip
                    go_wp2_with fail
                    go_ret3
                    exact Followed.fail hkn HF.out.at_ (step_bad Hrd.out Htk.out hgd.out) (HI.out _ _ _ Hinv.out hbe4.out) (by have := hs1.out; have := hbe4.out.size; omega)
            · rw [decide_eq_false hn2]
              have Hn2 := Lib.hid hn2
              clear hn2
              go_wp2_with fail
              go_ret3
              exact Followed.fail hkn HF.out.at_ (step_bad Hrd.out Htk.out (fun hg => Hn2.out ((perm_split Hpm.out).nodup_iff.2 hg.1))) (HI.out _ _ _ Hinv.out hbe4.out) (by have := hs1.out; have := hbe4.out.size; omega)
          · rw [decide_eq_false hn1]
            have Hn1 := Lib.hid hn1
            clear hn1
            go_wp2_with fail
            go_ret3
            have hbe3 : Below w.heap.size w1 w3 := ((Hbe.out.mono (by have := hs1.out; omega)).trans ((Below.refl _ _).alloc (by have := hs2.out; omega) _)).trans (below_grown Hg3.out (by intro g hg; injection hg with hg; omega) (by have := hs2.out; simp; omega))
            exact Followed.fail hkn HF.out.at_ (step_bad Hrd.out Htk.out (fun hg => Hn1.out (List.nodup_append.1 ((perm_split Hpm.out).nodup_iff.2 hg.1)).1)) (HI.out _ _ _ Hinv.out hbe3) (by have := hs1.out; have := hbe3.size; omega)
    · have hke : count pages = k := by omega
      have Hke := Lib.hid hke
      have hnot : ¬ (k : Int) < count pages := hkn
      go_wp2_with fail
      go_ret3
      have h1 := Fa.out.len
      have h2 := Fa.out.few
      simp only at h1 h2
      refine ⟨A6, A7, c6, c7, own, list, 0, rfl, ?_, by omega, by omega, Row.of_own HF.out.own, Row.of_own HF.out.list, by have := HF.out.size; omega, k, HF.out.inv⟩
      rw [Hke.out, Int.toNat_natCast, HF.out.at_]
      rfl

end Go.Proofs.Ytlmgmojicpdbeaa.Ch
