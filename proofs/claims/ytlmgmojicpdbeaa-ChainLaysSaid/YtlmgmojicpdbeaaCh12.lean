/- Layer 12, twelfth part: the document's Follow. -/
import Derived.Test.YtlmgmojicpdbeaaCh11
namespace Go.Proofs.Ytlmgmojicpdbeaa.Ch
open Go.RowKit Base Crc Go.Maps
set_option linter.unusedVariables false

theorem wpList_append_row_if {P : Program} {ops : Array Oper} {rest : List Oper} {o : Oper} {a : Act} {Q : Exit → Act → World → Prop} (hgd : Region.wanted o (yielded ops a.tmps) = true) (s x : Operand) (t : TypeId)
    (ho : o.op = .call { callee := .builtin .append, args := #[s, x], argTypes := #[t, t] })
    (base : Nat) (e : TypeId) (i : TypeInfo) (z : Value) (bytes : Nat) (ht : P.underlying t = some (.slice e)) (hi : P.info? e = some i) (hz : i.zero = some z)
    (hsize : i.size = 1) (hby : i.bytes = bytes) (hzs : z.cells.size = 1)
    (w : World) (v : Value) (n : Nat) (xs : List Value) (hs : a.eval s = v) (hown : w.ownsRow base e 1 v n xs)
    (A : Option Addr) (m c B : Nat) (news : List Value) (hx : a.eval x = .slice A m c) (hl : news.length = m) (hr : Row w B A news) (h1 : ∀ u ∈ news, u.oneCell' = true)
    (hn : n + m < 1048576 * 64) (hb : bytes ≤ 256) (hbase : base ≤ w.heap.size)
    (h : ∀ v' w', w'.ownsRow base e 1 v' (n + m) (xs ++ news) → App w w' v v' → wpList P ops Q rest (a.put o.dst v') w') :
    wpList P ops Q (o :: rest) a w := by
  refine wpList_step fun K hK => ?_
  rw [if_pos hgd]
  exact wp_append_row s x t ho base e i z bytes ht hi hz hsize hby hzs w v n xs hs hown A m c B news hx hl hr h1 hn hb hbase fun v' w' h2 h3 => hK _ _ (h v' w' h2 h3)

theorem rtake_owns (s : ByteArray) (next : Int) (l : List Int) (w : World) (h : take? s.data.toList = some (next, l)) :
    Calls Try.prog 42 #[.string s] w fun e w' => ∃ A c, e = .returned (.tuple #[.int .i64 next, .slice A l.length c, .bool true]) ∧ w'.ownsRow w.heap.size 3 1 (.slice A l.length c) l.length (nums l) ∧ Below w.heap.size w w' := by
  unfold take? at h
  split at h
  · rename_i hc
    rw [Bool.and_eq_true] at hc
    obtain ⟨n, h1, h2, h3, h4⟩ := form_half hc.1
    injection h with h
    injection h with e1 e2
    subst e1 e2
    rw [h4] at hc ⊢
    refine rtake_loop s w n h1 h2 h3 _ (fun _ v w' hown hbe => ?_) (fun hno => ?_)
    · obtain ⟨A, c, rfl⟩ := own_form hown
      exact ⟨A, c, rfl, hown, hbe⟩
    · rw [hc.2] at hno; cases hno
  · cases h

theorem ones (l : List Int) : ∀ u ∈ nums l, u.oneCell' = true := by
  intro u hu
  simp at hu
  obtain ⟨x, _, rfl⟩ := hu
  rfl

structure RInv (texts : List ByteArray) (first pages : Int) (w : World) (k : Nat) (S : St) (v6 v7 : Value) (wr : World) : Prop where
  at_ : st (rdTexts texts) pages first k = .ok S
  own : wr.ownsRow w.heap.size 3 1 v6 S.1.length (nums S.1)
  list : wr.ownsRow w.heap.size 3 1 v7 S.2.1.length (nums S.2.1)
  apart : Apart v6 v7
  below : Below w.heap.size w wr

set_option maxRecDepth 100000 in
set_option maxHeartbeats 4000000 in
theorem rfollow_any (first pages : Int) (A0 : Option Addr) (c0 : Nat) (texts : List ByteArray) (w : World) (hf : fitI first) (hp : fitI pages) (hl : texts.length ≤ 30) (hsz : ∀ s ∈ texts, s.size ≤ maxLen) (hr : Row w w.heap.size A0 (texts.map .string)) :
    Calls Try.prog 49 #[.int .i64 first, .int .i64 pages, .slice A0 texts.length c0] w (Followed (rdTexts texts) first pages (fun _ w' => Below w.heap.size w w') w) := by
  obtain ⟨i0, ti0, tz0, tz1, tz2⟩ := info_parts info_int
  have Hsz := Lib.hid hsz
  have Hp := Lib.hid hp
  have Hf := Lib.hid hf
  have Hr := Lib.hid hr
  have Hc := Lib.hid (count_small pages hp)
  clear hsz hp hf hr
  generalize hN : texts.length = n at *
  have Hn := Lib.hid hN
  clear hN
  go_enter Try.func49, Try.ntmps49
  go_wp2_with fail
  go_loopw [9, 10, 11, 12] (fun v6 v7 v11 i wr => ∃ (k : Nat) (own list : List Int) (y : Int), (k : Int) ≤ count pages ∧ i = .int .i64 (k : Nat) ∧ v11 = .int .i64 y ∧ RInv texts first pages w k (own, list, y) v6 v7 wr) (fun _ _ _ i _ => (count pages).toNat - (intOf i).toNat)
  case atStart => exact ⟨0, [], [], first, Hc.out.1, rfl, rfl, rfl, World.ownsRow_nil _ _ _ _, World.ownsRow_nil _ _ _ _, .inl rfl, Below.refl _ _⟩
  case round =>
    obtain ⟨k, own, list, y, hk, rfl, rfl, F⟩ := hrel
    obtain ⟨A7, c7, h7⟩ : ∃ A c, u10 = .slice A list.length c := own_form F.list
    subst h7
    obtain ⟨A6, c6, h6⟩ : ∃ A c, u9 = .slice A own.length c := own_form F.own
    subst h6
    have HF := Lib.hid F
    have hk30 : k ≤ 30 := Nat.le_trans (st_few Hf.out k _ F.at_) (by rw [Hn.out]; exact hl)
    have Fa := Lib.hid (st_facts Hf.out k _ F.at_)
    clear F
    go_wp2_with fail
    refine (rcount_any pages _ Hp.out.2).mono ?_
    rintro e w' ⟨rfl, rfl⟩
    by_cases hkn : (k : Int) < count pages
    · rcases hrd : rdTexts texts y k with _ | s
      · have Hrd := Lib.hid hrd
        have hy : y < 0 ∨ ¬ y < 0 ∧ (n : Int) ≤ y := by
          unfold rdTexts at hrd
          split at hrd
          · rename_i hy
            rw [List.getElem?_eq_getElem (by omega)] at hrd
            cases hrd
          · have := Hn.out; omega
        clear hrd
        rcases hy with hy | ⟨hy, hy2⟩
        · go_wp2_with fail
          go_ret3
          exact Followed.fail (j := 0) hkn HF.out.at_ (step_none Hrd.out) HF.out.below HF.out.below.size
        · go_wp2_with fail
          go_ret3
          exact Followed.fail (j := 0) hkn HF.out.at_ (step_none Hrd.out) HF.out.below HF.out.below.size
      · have Hrd := Lib.hid hrd
        obtain ⟨y0, y1, hmem⟩ := rdTexts_in hrd
        have Hmem := Lib.hid hmem
        obtain ⟨m, rfl⟩ : ∃ m : Nat, y = m := ⟨y.toNat, by omega⟩
        have hmt : m < texts.length := by omega
        have hmn : m < n := by rw [← Hn.out]; exact hmt
        obtain ⟨b, off, hA0, hb, hc⟩ := (Hr.out.below HF.out.below).at_ (k := m) (by simpa using hmt)
        subst hA0
        unfold rdTexts at hrd
        rw [if_pos ⟨y0, y1⟩, Int.toNat_natCast, List.getElem?_eq_getElem hmt] at hrd
        injection hrd with hrd
        rw [List.getElem_map, hrd] at hc
        clear hrd y0 y1 hmem hmt
        have hi0 : (0 : Int) ≤ (m : Int) := by omega
        have hi1 : (m : Int) < (n : Int) := by omega
        rcases htk : take? s.data.toList with _ | ⟨next, l⟩
        · have Htk := Lib.hid htk
          clear htk
          go_wp2_with fail
          refine (rtake_no s _ (Hsz.out _ Hmem.out) Htk.out).mono ?_
          rintro e w2 ⟨rfl, hbe⟩
          go_wp2_with fail
          go_ret3
          have hb2 := HF.out.below.trans (hbe.mono HF.out.below.size)
          exact Followed.fail (j := 0) hkn HF.out.at_ (step_form Hrd.out Htk.out) hb2 hb2.size
        · have Htk := Lib.hid htk
          clear htk
          go_wp2_with fail
          refine (rtake_owns s next l _ Htk.out).mono ?_
          rintro e w1 ⟨A, c, rfl, hown, hbe⟩
          have hb1 := Lib.hid (HF.out.below.trans (hbe.mono HF.out.below.size))
          have own1 := Lib.hid ((Over.under (B := 0) hbe).own HF.out.own (by omega))
          have list1 := Lib.hid ((Over.under (B := 0) hbe).own HF.out.list (by omega))
          have hapart : ∀ v' nn xx, wr.ownsRow w.heap.size 3 1 v' nn xx → Apart (.slice A l.length c) v' := by
            intro v' nn xx ho
            rcases hb : Value.ownBlock (.slice A l.length c) with _ | j
            · exact .inl hb
            · refine .inr ?_
              rw [hb]
              intro hh
              have h1 := (own_lt hown hb).1
              have h2 := (own_lt ho hh.symm).2
              omega
          have Hap6 := Lib.hid (hapart _ _ _ HF.out.own)
          have Hown := Lib.hid hown
          obtain ⟨t1, t2, t3, t4⟩ := take_facts Htk.out
          have ht1 := t1
          clear hown hbe hapart t1 t2 t3 t4 hc
          have hol : own.length ≤ 30 := by have := Fa.out.len; simp only at this; omega
          have hll : list.length ≤ 3660 := by have := Fa.out.few; simp only at this; omega
          have hpos : 0 < pages := by
            have h1 := hkn
            unfold count at h1
            split at h1 <;> omega
          have hw2 : IntKind.i64.wrap (pages - (list.length : Int)) = pages - (list.length : Int) := IntWalk.i64_in _ (by have h := Hp.out; unfold fitI at h; omega)
          have hw1 : IntKind.i64.wrap ((k : Int) + 1) = (k : Int) + 1 := IntWalk.i64_in _ (by omega)
          clear hpos
          have hs1 := hb1.out.size
          have Hs1 := Lib.hid hs1
          clear hs1
          by_cases hm : ¬ pages - (list.length : Int) < 122
          · by_cases h3 : (l.length : Int) = 122
            · have hmin : (l.length : Int) = min (pages - (list.length : Int)) 122 := by omega
              have hb3 : ((l.length : Int) != 122) = false := by simp [h3]
              have Hmin := Lib.hid hmin
              clear hmin h3
              go_wp2_with (first
                | (at_builtin; refine wpList_append1 rfl (.tmp 43) (.tmp 45) 50 rfl w.heap.size 3 i0 (.int .i64 0) 8 Try.underlying50 ti0 tz0 tz1 tz2 rfl w1 (.int .i64 (m : Int)) rfl (.slice A6 own.length c6) own.length (nums own) rfl own1.out rfl (by omega) (by decide) Hs1.out ?_; intro v5 w5 hown5 happ5; have Hown5 := Lib.hid hown5; have Happ5 := Lib.hid happ5; have Hs5 := Lib.hid (Nat.le_trans Hs1.out happ5.grown.size); obtain ⟨A5, c5, h5⟩ : ∃ A c, v5 = .slice A (own.length + 1) c := own_form hown5; subst h5; clear hown5 happ5)
                | (at_builtin; refine wpList_append_row rfl (.tmp 52) (.tmp 53) 50 rfl w.heap.size 3 i0 (.int .i64 0) 8 Try.underlying50 ti0 tz0 tz1 tz2 rfl w5 (.slice A7 list.length c7) list.length (nums list) rfl (Happ5.out.other list1.out HF.out.apart.symm) A l.length c _ (nums l) rfl (by simp) (Row.of_own (Happ5.out.other Hown.out Hap6.out)) (ones l) (by omega) (by decide) Hs5.out ?_; intro v6 w6 hown6 happ6; have Hown6 := Lib.hid hown6; have Happ6 := Lib.hid happ6; have Hs6 := Lib.hid (Nat.le_trans Hs5.out happ6.grown.size); obtain ⟨A8, c8, h8⟩ : ∃ A c, v6 = .slice A (list.length + l.length) c := own_form hown6; subst h8; have Hown6' := Lib.hid (show w6.ownsRow w.heap.size 3 1 (.slice A8 (list.length + l.length) c8) (list.length + l.length) (nums (list ++ l)) by simpa using Hown6.out); clear hown6 happ6)
                | (at_builtin; refine wpList_append_row_if (by rfl) (.tmp 60) (.tmp 61) 50 rfl w6.heap.size 3 i0 (.int .i64 0) 8 Try.underlying50 ti0 tz0 tz1 tz2 rfl _ (.slice (some ⟨w6.heap.size, 0, none⟩) 0 0) 0 [] rfl (World.ownsRow_lit w6 #[] 0 (Nat.le_refl _) (Nat.zero_le _) rfl) A5 (own.length + 1) c5 _ (nums (own ++ [(m : Int)])) rfl (by simp) (Row.of_own ((Over.alloc (B := 0) w6 _).own (by simpa using Happ6.out.other Hown5.out (Happ5.out.apart list1.out HF.out.apart.symm).symm) (by omega))) (ones _) (by omega) (by decide) (by simp) ?_; intro v9 w9 hown9 happ9; have Hrow9 := Lib.hid (Row.of_own (happ9.other ((Over.alloc (B := 0) w6 _).own Hown6'.out (by omega)) (.inr (by intro hh; have := (own_lt Hown6'.out (k := w6.heap.size) hh).2; omega)))); have Hown9 := Lib.hid hown9; have Happ9 := Lib.hid happ9; have Hs9 := Lib.hid (show w6.heap.size ≤ w9.heap.size by have := happ9.grown.size; simp at this; omega); clear hown9 happ9)
                | (at_builtin; refine wpList_append_row_if (by rfl) (.tmp 62) (.tmp 63) 50 rfl w6.heap.size 3 i0 (.int .i64 0) 8 Try.underlying50 ti0 tz0 tz1 tz2 rfl w9 v9 (0 + (own.length + 1)) ([] ++ nums (own ++ [(m : Int)])) rfl Hown9.out A8 (list.length + l.length) c8 w9.heap.size (nums (list ++ l)) rfl (by simp) Hrow9.out (ones _) (by omega) (by decide) Hs9.out ?_; intro v10 w10 hown10 happ10; have Hown10 := Lib.hid hown10; have Happ10 := Lib.hid happ10; obtain ⟨A10, c10, h10⟩ := own_form hown10; obtain ⟨nT, hnT⟩ : ∃ nT, nT = 0 + (own.length + 1) + (list.length + l.length) := ⟨_, rfl⟩; rw [← hnT] at h10; have HnT := Lib.hid hnT; clear hnT; subst h10; clear hown10 happ10))
              have hrow10 : Row w10 w10.heap.size A10 (nums ((own ++ [(m : Int)]) ++ (list ++ l))) := by
                have h := Hown10.out
                rw [← HnT.out] at h
                have h2 := Row.of_own h
                simpa using h2
              have htw := twice_any A10 c10 ((own ++ [(m : Int)]) ++ (list ++ l)) w10 (by simp; omega) hrow10
              rw [show ((own ++ [(m : Int)]) ++ (list ++ l)).length = nT by rw [HnT.out]; simp; omega] at htw
              clear hrow10
              refine htw.mono ?_
              clear htw
              rintro e w11 ⟨rfl, hb11⟩
              have Hb11 := Lib.hid hb11
              clear hb11
              by_cases hnd : ((own ++ [(m : Int)]) ++ (list ++ l)).Nodup
              · rw [decide_eq_true hnd, Bool.not_true]
                have Hnd := Lib.hid hnd
                clear hnd
                go_wp2_with fail
                refine (rcount_any pages _ Hp.out.2).mono ?_
                rintro e w' ⟨rfl, rfl⟩
                have hiff : good pages k (own, list, (m : Int)) next l ↔ (!(decide (next < 0)) == ((k : Int) + 1 == count pages)) = false := by
                  unfold good
                  simp only [Hnd.out, Hmin.out, true_and]
                  by_cases e1 : (k : Int) + 1 = count pages <;> by_cases e2 : next < 0 <;> simp [e1, e2]
                have Hiff := Lib.hid hiff
                clear hiff
                rcases hq : (!(decide (next < 0)) == ((k : Int) + 1 == count pages)) with _ | _
                · have hgd := Lib.hid (Hiff.out.2 hq)
                  go_wp2_with fail
                  have hlist5 := Happ5.out.other list1.out HF.out.apart.symm
                  have hap5 := Happ5.out.apart list1.out HF.out.apart.symm
                  have hbe5 := Happ5.out.below hb1.out own1.out (Nat.le_refl _) Hs1.out
                  have hbe6 := Happ6.out.below hbe5 hlist5 (Nat.le_refl _) Hs5.out
                  have own6 := Happ6.out.other Hown5.out hap5.symm
                  have hap6 := Happ6.out.apart Hown5.out hap5.symm
                  have hb9 := Happ9.out.below ((Below.refl _ _).alloc (Nat.le_refl _) _) (World.ownsRow_lit (base := w6.heap.size) w6 #[] 0 (Nat.le_refl _) (Nat.zero_le _) rfl) (Nat.le_refl _) (by simp)
                  have hb10 := Happ10.out.below hb9 Hown9.out (Nat.le_refl _) Hs9.out
                  have hbz := hb10.trans (Hb11.out.mono hb10.size)
                  refine ⟨⟨k + 1, own ++ [(m : Int)], list ++ l, next, by omega, by simp, rfl, st_next HF.out.at_ Hrd.out Htk.out hgd.out, ?_, ?_, hap6, hbe6.trans (hbz.mono Hs6.out)⟩, by simp [intOf]; omega⟩
                  · have := (Over.under (B := 0) hbz).own own6 (by omega)
                    simpa using this
                  · have := (Over.under (B := 0) hbz).own Hown6'.out (by omega)
                    simpa using this
                · have hng : ¬ good pages k (own, list, (m : Int)) next l := by
                    intro h
                    have h9 := Hiff.out.1 h
                    rw [hq] at h9
                    cases h9
                  have hgd := Lib.hid hng
                  clear hng
                  go_wp2_with fail
                  go_ret3
                  have hlist5 := Happ5.out.other list1.out HF.out.apart.symm
                  have hap5 := Happ5.out.apart list1.out HF.out.apart.symm
                  have hbe5 := Happ5.out.below hb1.out own1.out (Nat.le_refl _) Hs1.out
                  have hbe6 := Happ6.out.below hbe5 hlist5 (Nat.le_refl _) Hs5.out
                  have own6 := Happ6.out.other Hown5.out hap5.symm
                  have hap6 := Happ6.out.apart Hown5.out hap5.symm
                  have hb9 := Happ9.out.below ((Below.refl _ _).alloc (Nat.le_refl _) _) (World.ownsRow_lit (base := w6.heap.size) w6 #[] 0 (Nat.le_refl _) (Nat.zero_le _) rfl) (Nat.le_refl _) (by simp)
                  have hb10 := Happ10.out.below hb9 Hown9.out (Nat.le_refl _) Hs9.out
                  have hbz := hbe6.trans ((hb10.trans (Hb11.out.mono hb10.size)).mono Hs6.out)
                  exact Followed.fail (j := 0) hkn HF.out.at_ (step_bad Hrd.out Htk.out hgd.out) hbz hbz.size
              · rw [decide_eq_false hnd, Bool.not_false]
                have Hnd := Lib.hid hnd
                clear hnd
                go_wp2_with fail
                go_ret3
                have hlist5 := Happ5.out.other list1.out HF.out.apart.symm
                have hap5 := Happ5.out.apart list1.out HF.out.apart.symm
                have hbe5 := Happ5.out.below hb1.out own1.out (Nat.le_refl _) Hs1.out
                have hbe6 := Happ6.out.below hbe5 hlist5 (Nat.le_refl _) Hs5.out
                have own6 := Happ6.out.other Hown5.out hap5.symm
                have hap6 := Happ6.out.apart Hown5.out hap5.symm
                have hb9 := Happ9.out.below ((Below.refl _ _).alloc (Nat.le_refl _) _) (World.ownsRow_lit (base := w6.heap.size) w6 #[] 0 (Nat.le_refl _) (Nat.zero_le _) rfl) (Nat.le_refl _) (by simp)
                have hb10 := Happ10.out.below hb9 Hown9.out (Nat.le_refl _) Hs9.out
                have hbz := hbe6.trans ((hb10.trans (Hb11.out.mono hb10.size)).mono Hs6.out)
                exact Followed.fail (j := 0) hkn HF.out.at_ (step_bad Hrd.out Htk.out (fun hg => Hnd.out hg.1)) hbz hbz.size
            · have hmin : ¬ (l.length : Int) = min (pages - (list.length : Int)) 122 := by omega
              have hb3 : ((l.length : Int) != 122) = true := by simp [h3]
              have Hmin := Lib.hid hmin
              clear hmin
              go_wp2_with (first
                | (at_builtin; refine wpList_append1 rfl (.tmp 43) (.tmp 45) 50 rfl w.heap.size 3 i0 (.int .i64 0) 8 Try.underlying50 ti0 tz0 tz1 tz2 rfl w1 (.int .i64 (m : Int)) rfl (.slice A6 own.length c6) own.length (nums own) rfl own1.out rfl (by omega) (by decide) Hs1.out ?_; intro v5 w5 hown5 happ5; have Hown5 := Lib.hid hown5; have Happ5 := Lib.hid happ5; have Hs5 := Lib.hid (Nat.le_trans Hs1.out happ5.grown.size); obtain ⟨A5, c5, h5⟩ : ∃ A c, v5 = .slice A (own.length + 1) c := own_form hown5; subst h5; clear hown5 happ5)
                | (at_builtin; refine wpList_append_row rfl (.tmp 52) (.tmp 53) 50 rfl w.heap.size 3 i0 (.int .i64 0) 8 Try.underlying50 ti0 tz0 tz1 tz2 rfl w5 (.slice A7 list.length c7) list.length (nums list) rfl (Happ5.out.other list1.out HF.out.apart.symm) A l.length c _ (nums l) rfl (by simp) (Row.of_own (Happ5.out.other Hown.out Hap6.out)) (ones l) (by omega) (by decide) Hs5.out ?_; intro v6 w6 hown6 happ6; have Hown6 := Lib.hid hown6; have Happ6 := Lib.hid happ6; have Hs6 := Lib.hid (Nat.le_trans Hs5.out happ6.grown.size); obtain ⟨A8, c8, h8⟩ : ∃ A c, v6 = .slice A (list.length + l.length) c := own_form hown6; subst h8; have Hown6' := Lib.hid (show w6.ownsRow w.heap.size 3 1 (.slice A8 (list.length + l.length) c8) (list.length + l.length) (nums (list ++ l)) by simpa using Hown6.out); clear hown6 happ6))
              go_ret3
              have hlist5 := Happ5.out.other list1.out HF.out.apart.symm
              have hap5 := Happ5.out.apart list1.out HF.out.apart.symm
              have hbe5 := Happ5.out.below hb1.out own1.out (Nat.le_refl _) Hs1.out
              have hbe6 := Happ6.out.below hbe5 hlist5 (Nat.le_refl _) Hs5.out
              have own6 := Happ6.out.other Hown5.out hap5.symm
              have hap6 := Happ6.out.apart Hown5.out hap5.symm
              exact Followed.fail (j := 0) hkn HF.out.at_ (step_bad Hrd.out Htk.out (fun hg => Hmin.out hg.2.1)) hbe6 hbe6.size
          · have hm : pages - (list.length : Int) < 122 := by omega
            by_cases h3 : (l.length : Int) = pages - (list.length : Int)
            · have hmin : (l.length : Int) = min (pages - (list.length : Int)) 122 := by omega
              have hb3 : ((l.length : Int) != pages - (list.length : Int)) = false := by simp [h3]
              have Hmin := Lib.hid hmin
              clear hmin
              go_wp2_with (first
                | (at_builtin; refine wpList_append1 rfl (.tmp 43) (.tmp 45) 50 rfl w.heap.size 3 i0 (.int .i64 0) 8 Try.underlying50 ti0 tz0 tz1 tz2 rfl w1 (.int .i64 (m : Int)) rfl (.slice A6 own.length c6) own.length (nums own) rfl own1.out rfl (by omega) (by decide) Hs1.out ?_; intro v5 w5 hown5 happ5; have Hown5 := Lib.hid hown5; have Happ5 := Lib.hid happ5; have Hs5 := Lib.hid (Nat.le_trans Hs1.out happ5.grown.size); obtain ⟨A5, c5, h5⟩ : ∃ A c, v5 = .slice A (own.length + 1) c := own_form hown5; subst h5; clear hown5 happ5)
                | (at_builtin; refine wpList_append_row rfl (.tmp 52) (.tmp 53) 50 rfl w.heap.size 3 i0 (.int .i64 0) 8 Try.underlying50 ti0 tz0 tz1 tz2 rfl w5 (.slice A7 list.length c7) list.length (nums list) rfl (Happ5.out.other list1.out HF.out.apart.symm) A l.length c _ (nums l) rfl (by simp) (Row.of_own (Happ5.out.other Hown.out Hap6.out)) (ones l) (by omega) (by decide) Hs5.out ?_; intro v6 w6 hown6 happ6; have Hown6 := Lib.hid hown6; have Happ6 := Lib.hid happ6; have Hs6 := Lib.hid (Nat.le_trans Hs5.out happ6.grown.size); obtain ⟨A8, c8, h8⟩ : ∃ A c, v6 = .slice A (list.length + l.length) c := own_form hown6; subst h8; have Hown6' := Lib.hid (show w6.ownsRow w.heap.size 3 1 (.slice A8 (list.length + l.length) c8) (list.length + l.length) (nums (list ++ l)) by simpa using Hown6.out); clear hown6 happ6)
                | (at_builtin; refine wpList_append_row_if (by rfl) (.tmp 60) (.tmp 61) 50 rfl w6.heap.size 3 i0 (.int .i64 0) 8 Try.underlying50 ti0 tz0 tz1 tz2 rfl _ (.slice (some ⟨w6.heap.size, 0, none⟩) 0 0) 0 [] rfl (World.ownsRow_lit w6 #[] 0 (Nat.le_refl _) (Nat.zero_le _) rfl) A5 (own.length + 1) c5 _ (nums (own ++ [(m : Int)])) rfl (by simp) (Row.of_own ((Over.alloc (B := 0) w6 _).own (by simpa using Happ6.out.other Hown5.out (Happ5.out.apart list1.out HF.out.apart.symm).symm) (by omega))) (ones _) (by omega) (by decide) (by simp) ?_; intro v9 w9 hown9 happ9; have Hrow9 := Lib.hid (Row.of_own (happ9.other ((Over.alloc (B := 0) w6 _).own Hown6'.out (by omega)) (.inr (by intro hh; have := (own_lt Hown6'.out (k := w6.heap.size) hh).2; omega)))); have Hown9 := Lib.hid hown9; have Happ9 := Lib.hid happ9; have Hs9 := Lib.hid (show w6.heap.size ≤ w9.heap.size by have := happ9.grown.size; simp at this; omega); clear hown9 happ9)
                | (at_builtin; refine wpList_append_row_if (by rfl) (.tmp 62) (.tmp 63) 50 rfl w6.heap.size 3 i0 (.int .i64 0) 8 Try.underlying50 ti0 tz0 tz1 tz2 rfl w9 v9 (0 + (own.length + 1)) ([] ++ nums (own ++ [(m : Int)])) rfl Hown9.out A8 (list.length + l.length) c8 w9.heap.size (nums (list ++ l)) rfl (by simp) Hrow9.out (ones _) (by omega) (by decide) Hs9.out ?_; intro v10 w10 hown10 happ10; have Hown10 := Lib.hid hown10; have Happ10 := Lib.hid happ10; obtain ⟨A10, c10, h10⟩ := own_form hown10; obtain ⟨nT, hnT⟩ : ∃ nT, nT = 0 + (own.length + 1) + (list.length + l.length) := ⟨_, rfl⟩; rw [← hnT] at h10; have HnT := Lib.hid hnT; clear hnT; subst h10; clear hown10 happ10))
              have hrow10 : Row w10 w10.heap.size A10 (nums ((own ++ [(m : Int)]) ++ (list ++ l))) := by
                have h := Hown10.out
                rw [← HnT.out] at h
                have h2 := Row.of_own h
                simpa using h2
              have htw := twice_any A10 c10 ((own ++ [(m : Int)]) ++ (list ++ l)) w10 (by simp; omega) hrow10
              rw [show ((own ++ [(m : Int)]) ++ (list ++ l)).length = nT by rw [HnT.out]; simp; omega] at htw
              clear hrow10
              refine htw.mono ?_
              clear htw
              rintro e w11 ⟨rfl, hb11⟩
              have Hb11 := Lib.hid hb11
              clear hb11
              by_cases hnd : ((own ++ [(m : Int)]) ++ (list ++ l)).Nodup
              · rw [decide_eq_true hnd, Bool.not_true]
                have Hnd := Lib.hid hnd
                clear hnd
                go_wp2_with fail
                refine (rcount_any pages _ Hp.out.2).mono ?_
                rintro e w' ⟨rfl, rfl⟩
                have hiff : good pages k (own, list, (m : Int)) next l ↔ (!(decide (next < 0)) == ((k : Int) + 1 == count pages)) = false := by
                  unfold good
                  simp only [Hnd.out, Hmin.out, true_and]
                  by_cases e1 : (k : Int) + 1 = count pages <;> by_cases e2 : next < 0 <;> simp [e1, e2]
                have Hiff := Lib.hid hiff
                clear hiff
                rcases hq : (!(decide (next < 0)) == ((k : Int) + 1 == count pages)) with _ | _
                · have hgd := Lib.hid (Hiff.out.2 hq)
                  go_wp2_with fail
                  have hlist5 := Happ5.out.other list1.out HF.out.apart.symm
                  have hap5 := Happ5.out.apart list1.out HF.out.apart.symm
                  have hbe5 := Happ5.out.below hb1.out own1.out (Nat.le_refl _) Hs1.out
                  have hbe6 := Happ6.out.below hbe5 hlist5 (Nat.le_refl _) Hs5.out
                  have own6 := Happ6.out.other Hown5.out hap5.symm
                  have hap6 := Happ6.out.apart Hown5.out hap5.symm
                  have hb9 := Happ9.out.below ((Below.refl _ _).alloc (Nat.le_refl _) _) (World.ownsRow_lit (base := w6.heap.size) w6 #[] 0 (Nat.le_refl _) (Nat.zero_le _) rfl) (Nat.le_refl _) (by simp)
                  have hb10 := Happ10.out.below hb9 Hown9.out (Nat.le_refl _) Hs9.out
                  have hbz := hb10.trans (Hb11.out.mono hb10.size)
                  refine ⟨⟨k + 1, own ++ [(m : Int)], list ++ l, next, by omega, by simp, rfl, st_next HF.out.at_ Hrd.out Htk.out hgd.out, ?_, ?_, hap6, hbe6.trans (hbz.mono Hs6.out)⟩, by simp [intOf]; omega⟩
                  · have := (Over.under (B := 0) hbz).own own6 (by omega)
                    simpa using this
                  · have := (Over.under (B := 0) hbz).own Hown6'.out (by omega)
                    simpa using this
                · have hng : ¬ good pages k (own, list, (m : Int)) next l := by
                    intro h
                    have h9 := Hiff.out.1 h
                    rw [hq] at h9
                    cases h9
                  have hgd := Lib.hid hng
                  clear hng
                  go_wp2_with fail
                  go_ret3
                  have hlist5 := Happ5.out.other list1.out HF.out.apart.symm
                  have hap5 := Happ5.out.apart list1.out HF.out.apart.symm
                  have hbe5 := Happ5.out.below hb1.out own1.out (Nat.le_refl _) Hs1.out
                  have hbe6 := Happ6.out.below hbe5 hlist5 (Nat.le_refl _) Hs5.out
                  have own6 := Happ6.out.other Hown5.out hap5.symm
                  have hap6 := Happ6.out.apart Hown5.out hap5.symm
                  have hb9 := Happ9.out.below ((Below.refl _ _).alloc (Nat.le_refl _) _) (World.ownsRow_lit (base := w6.heap.size) w6 #[] 0 (Nat.le_refl _) (Nat.zero_le _) rfl) (Nat.le_refl _) (by simp)
                  have hb10 := Happ10.out.below hb9 Hown9.out (Nat.le_refl _) Hs9.out
                  have hbz := hbe6.trans ((hb10.trans (Hb11.out.mono hb10.size)).mono Hs6.out)
                  exact Followed.fail (j := 0) hkn HF.out.at_ (step_bad Hrd.out Htk.out hgd.out) hbz hbz.size
              · rw [decide_eq_false hnd, Bool.not_false]
                have Hnd := Lib.hid hnd
                clear hnd
                go_wp2_with fail
                go_ret3
                have hlist5 := Happ5.out.other list1.out HF.out.apart.symm
                have hap5 := Happ5.out.apart list1.out HF.out.apart.symm
                have hbe5 := Happ5.out.below hb1.out own1.out (Nat.le_refl _) Hs1.out
                have hbe6 := Happ6.out.below hbe5 hlist5 (Nat.le_refl _) Hs5.out
                have own6 := Happ6.out.other Hown5.out hap5.symm
                have hap6 := Happ6.out.apart Hown5.out hap5.symm
                have hb9 := Happ9.out.below ((Below.refl _ _).alloc (Nat.le_refl _) _) (World.ownsRow_lit (base := w6.heap.size) w6 #[] 0 (Nat.le_refl _) (Nat.zero_le _) rfl) (Nat.le_refl _) (by simp)
                have hb10 := Happ10.out.below hb9 Hown9.out (Nat.le_refl _) Hs9.out
                have hbz := hbe6.trans ((hb10.trans (Hb11.out.mono hb10.size)).mono Hs6.out)
                exact Followed.fail (j := 0) hkn HF.out.at_ (step_bad Hrd.out Htk.out (fun hg => Hnd.out hg.1)) hbz hbz.size
            · have hmin : ¬ (l.length : Int) = min (pages - (list.length : Int)) 122 := by omega
              have hb3 : ((l.length : Int) != pages - (list.length : Int)) = true := by simp [h3]
              have Hmin := Lib.hid hmin
              clear hmin
              go_wp2_with (first
                | (at_builtin; refine wpList_append1 rfl (.tmp 43) (.tmp 45) 50 rfl w.heap.size 3 i0 (.int .i64 0) 8 Try.underlying50 ti0 tz0 tz1 tz2 rfl w1 (.int .i64 (m : Int)) rfl (.slice A6 own.length c6) own.length (nums own) rfl own1.out rfl (by omega) (by decide) Hs1.out ?_; intro v5 w5 hown5 happ5; have Hown5 := Lib.hid hown5; have Happ5 := Lib.hid happ5; have Hs5 := Lib.hid (Nat.le_trans Hs1.out happ5.grown.size); obtain ⟨A5, c5, h5⟩ : ∃ A c, v5 = .slice A (own.length + 1) c := own_form hown5; subst h5; clear hown5 happ5)
                | (at_builtin; refine wpList_append_row rfl (.tmp 52) (.tmp 53) 50 rfl w.heap.size 3 i0 (.int .i64 0) 8 Try.underlying50 ti0 tz0 tz1 tz2 rfl w5 (.slice A7 list.length c7) list.length (nums list) rfl (Happ5.out.other list1.out HF.out.apart.symm) A l.length c _ (nums l) rfl (by simp) (Row.of_own (Happ5.out.other Hown.out Hap6.out)) (ones l) (by omega) (by decide) Hs5.out ?_; intro v6 w6 hown6 happ6; have Hown6 := Lib.hid hown6; have Happ6 := Lib.hid happ6; have Hs6 := Lib.hid (Nat.le_trans Hs5.out happ6.grown.size); obtain ⟨A8, c8, h8⟩ : ∃ A c, v6 = .slice A (list.length + l.length) c := own_form hown6; subst h8; have Hown6' := Lib.hid (show w6.ownsRow w.heap.size 3 1 (.slice A8 (list.length + l.length) c8) (list.length + l.length) (nums (list ++ l)) by simpa using Hown6.out); clear hown6 happ6))
              go_ret3
              have hlist5 := Happ5.out.other list1.out HF.out.apart.symm
              have hap5 := Happ5.out.apart list1.out HF.out.apart.symm
              have hbe5 := Happ5.out.below hb1.out own1.out (Nat.le_refl _) Hs1.out
              have hbe6 := Happ6.out.below hbe5 hlist5 (Nat.le_refl _) Hs5.out
              have own6 := Happ6.out.other Hown5.out hap5.symm
              have hap6 := Happ6.out.apart Hown5.out hap5.symm
              exact Followed.fail (j := 0) hkn HF.out.at_ (step_bad Hrd.out Htk.out (fun hg => Hmin.out hg.2.1)) hbe6 hbe6.size
    · have hke : count pages = k := by omega
      have Hke := Lib.hid hke
      have hnot : ¬ (k : Int) < count pages := hkn
      clear hke
      go_wp2_with fail
      go_ret3
      have h1 := Fa.out.len
      have h2 := Fa.out.few
      simp only at h1 h2
      refine ⟨A6, A7, c6, c7, own, list, 0, rfl, ?_, by omega, by omega, Row.of_own HF.out.own, Row.of_own HF.out.list, HF.out.below.size, k, HF.out.below⟩
      rw [Hke.out, Int.toNat_natCast, HF.out.at_]
      rfl

end Go.Proofs.Ytlmgmojicpdbeaa.Ch
