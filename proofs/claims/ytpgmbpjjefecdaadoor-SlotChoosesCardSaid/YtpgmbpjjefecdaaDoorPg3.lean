/- Layer 8, third part: page.Take, page.Is. -/
import Derived.Test.YtpgmbpjjefecdaaDoorPg2
import Derived.Test.YtpgmbpjjefecdaaDoorTxt
namespace Go.Proofs.YtpgmbpjjefecdaaDoor.Pg
open Go.RowKit Base Crc Plain Txt
set_option linter.unusedVariables false

theorem dropWhile_nil {p : UInt8 → Bool} : ∀ {l : List UInt8}, l.dropWhile p = [] ↔ ∀ x ∈ l, p x = true
  | [] => by simp
  | x :: l => by
    rw [List.dropWhile_cons]
    split
    · rename_i h
      rw [dropWhile_nil (l := l)]
      simp [h]
    · rename_i h
      simp [h]
theorem trim_noughts (l : List UInt8) : Lib.trimB l 0 = [] ↔ l = noughts l.length := by
  unfold Lib.trimB Lib.trimLeftB Lib.trimRightB
  constructor
  · intro h
    rw [dropWhile_nil] at h
    have h1 : l.reverse.dropWhile (· == 0) = [] := by
      rcases hx : l.reverse.dropWhile (· == 0) with _ | ⟨x, r⟩
      · rfl
      · have h2 := h x (by rw [hx]; simp)
        have h3 := List.head_dropWhile_not (p := (· == (0 : UInt8))) (l := l.reverse) (by rw [hx]; simp)
        simp only [hx, List.head_cons] at h3
        rw [h2] at h3
        cases h3
    rw [dropWhile_nil] at h1
    unfold noughts
    rw [List.eq_replicate_iff]
    refine ⟨rfl, fun b hb => ?_⟩
    have := h1 b (by simpa using hb)
    simpa using this
  · intro h
    rw [dropWhile_nil]
    intro x hx
    have : x ∈ l := by
      have h1 : x ∈ l.reverse.dropWhile (· == 0) := by simpa using hx
      have h2 := (List.dropWhile_sublist (· == (0 : UInt8)) (l := l.reverse)).mem h1
      simpa using h2
    rw [h] at this
    unfold noughts at this
    have := List.eq_of_mem_replicate this
    simp [this]

/-- page.Take's answer where there is none -/
def nothing : Value := .tuple #[.int .u8 0, .int .i64 0, .string ⟨#[]⟩, .int .i64 15]

set_option maxHeartbeats 1000000 in
theorem take_shut (p : ByteArray) (w : World) (hm : p.size ≤ 140737488355328) (h : isClosed p.data.toList = false ∨ p.size ≠ 256) :
    Calls Tryd.prog 15 #[.string p] w fun e w' => e = .returned nothing ∧ Below w.heap.size w w' := by
  have hO := Lib.hid (fun w => open_any p w hm)
  by_cases hc : isClosed p.data.toList = true
  · have hn : ((p.size : Int) != 256) = true := by
      rcases h with h | h
      · rw [h] at hc; cases hc
      · rw [bne_iff_ne]; omega
    clear h
    go_enter Tryd.func15, Tryd.ntmps15
    go_wp2_with fail
    refine (hO.out _).mono ?_
    rintro e w1 ⟨rfl, hb1⟩
    rw [hc]
    clear hc
    generalize opened p.data.toList = O at *
    go_wp2_with fail
    exact bodyPost_ret (v := nothing) (by simp [results, Tryd.results15, go_sem, nothing]) rfl ⟨rfl, hb1⟩
  · have hc' : isClosed p.data.toList = false := by simpa using hc
    clear h hc
    go_enter Tryd.func15, Tryd.ntmps15
    go_wp2_with fail
    refine (hO.out _).mono ?_
    rintro e w1 ⟨rfl, hb1⟩
    rw [hc']
    clear hc'
    generalize opened p.data.toList = O at *
    go_wp2_with fail
    exact bodyPost_ret (v := nothing) (by simp [results, Tryd.results15, go_sem, nothing]) rfl ⟨rfl, hb1⟩

set_option maxHeartbeats 2000000 in
theorem take_open (p : ByteArray) (w : World) (hp : p.size = 256) (hc : isClosed p.data.toList = true) (P : Ending → World → Prop)
    (hyes : isPg p.data.toList = true → ∀ w', Below w.heap.size w w' → P (.returned (.tuple #[.int .u8 (kindOf p.data.toList).toNat, .int .i64 (idxOf p.data.toList : Nat), .string (str (bodyOf p.data.toList)), .int .i64 0])) w')
    (hno : isPg p.data.toList = false → ∀ w', Below w.heap.size w w' → P (.returned nothing) w') :
    Calls Tryd.prog 15 #[.string p] w P := by
  have hO := Lib.hid (fun w => open_any p w (by omega))
  have hop : opened p.data.toList = str (front p.data.toList) := by unfold opened; rw [if_pos hc]
  have hpl : p.data.toList.length = 256 := by simpa using hp
  have hfl : (front p.data.toList).length = 252 := by unfold front; rw [List.length_take]; omega
  obtain ⟨f0, f1, f2⟩ := front_same p.data.toList hpl
  have Hbody := Lib.hid (fun hl => body_front p.data.toList hpl hl)
  have hispg : isPg p.data.toList = (okKind (kindOf (front p.data.toList)) && decide (lenOf (front p.data.toList) ≤ 246) && decide ((front p.data.toList).drop (6 + lenOf (front p.data.toList)) = noughts (246 - lenOf (front p.data.toList)))) := by
    unfold isPg
    rw [hc, f0, f2]
    simp only [hpl, decide_true, Bool.true_and]
  rw [← f0, ← f1] at hyes
  rw [← f2] at Hbody
  have Hyes := Lib.hid hyes
  have Hno := Lib.hid hno
  have Hpg := Lib.hid hispg
  have Hop := Lib.hid hop
  have hneq : ((p.size : Int) != 256) = false := by rw [bne_eq_false_iff_eq]; omega
  clear hyes hno hispg hop f0 f1 f2
  generalize front p.data.toList = l at *
  have HI0 : ∀ W, (Instr.index 9 (.string (str l)) (.int .i64 0)).run Tryd.prog W = .ok (.int .u8 (nb l 0 : Nat)) W := index_nb l 0 (by omega)
  have HI1 : ∀ W, (Instr.index 9 (.string (str l)) (.int .i64 1)).run Tryd.prog W = .ok (.int .u8 (nb l 1 : Nat)) W := index_nb l 1 (by omega)
  have HI2 : ∀ W, (Instr.index 9 (.string (str l)) (.int .i64 2)).run Tryd.prog W = .ok (.int .u8 (nb l 2 : Nat)) W := index_nb l 2 (by omega)
  have HI3 : ∀ W, (Instr.index 9 (.string (str l)) (.int .i64 3)).run Tryd.prog W = .ok (.int .u8 (nb l 3 : Nat)) W := index_nb l 3 (by omega)
  have HI4 : ∀ W, (Instr.index 9 (.string (str l)) (.int .i64 4)).run Tryd.prog W = .ok (.int .u8 (nb l 4 : Nat)) W := index_nb l 4 (by omega)
  have HI5 : ∀ W, (Instr.index 9 (.string (str l)) (.int .i64 5)).run Tryd.prog W = .ok (.int .u8 (nb l 5 : Nat)) W := index_nb l 5 (by omega)
  have hk0 : (kindOf l).toNat = nb l 0 := rfl
  have hn0 := nb_lt l 0
  have hn1 := nb_lt l 1
  have hn2 := nb_lt l 2
  have hn3 := nb_lt l 3
  have hn4 := nb_lt l 4
  have hn5 := nb_lt l 5
  have hidx : idxOf l = nb l 1 * 65536 + nb l 2 * 256 + nb l 3 := rfl
  have hlen : lenOf l = nb l 4 * 256 + nb l 5 := rfl
  have HF := Lib.hid (fun (n : Nat) (x : Int) hx hn W => cut_from l (6 + n) x hx hn W)
  have HM := Lib.hid (fun (n : Nat) (y : Int) hy hn W => cut_mid l 6 (6 + n) 6 y rfl hy (by omega) hn W)
  have hbs : (str l).size = 252 := hfl
  have Hidx := Lib.hid hidx
  have Hlen := Lib.hid hlen
  have Hk0 := Lib.hid hk0
  have Hfl := Lib.hid hfl
  clear hidx hlen hk0 hfl hbs
  generalize str l = b at *
  generalize nb l 0 = y0 at *
  generalize nb l 1 = y1 at *
  generalize nb l 2 = y2 at *
  generalize nb l 3 = y3 at *
  generalize nb l 4 = y4 at *
  generalize nb l 5 = y5 at *
  go_enter Tryd.func15, Tryd.ntmps15
  go_wp2_with fail
  refine (hO.out _).mono ?_
  rintro e w1 ⟨rfl, hb1⟩
  rw [hc, Hop.out]
  clear hc
  by_cases hk : okKind (kindOf l) = true
  · have hK := fun w => kind_yes (kindOf l) w hk
    rw [Hk0.out] at hK
    have HK := Lib.hid hK
    clear hK
    go_wp2_with fail
    refine (HK.out _).mono ?_
    rintro e w' ⟨rfl, rfl⟩
    go_wp2_with fail
    obtain ⟨n, hn⟩ : ∃ n : Nat, n = y4 * 256 + y5 := ⟨_, rfl⟩
    have hor : bits .or .i64 ((y4 : Int) * 256) (y5 : Int) = (n : Int) := by
      have h := or_i64 8 (y4 * 256) y5 (by omega) (by omega) (by omega)
      rw [hn, ← h]
      congr 1
    have hw2 : IntKind.i64.wrap (y4 : Int) = y4 := IntWalk.i64_in _ (by omega)
    have hw3 : IntKind.i64.wrap ((y4 : Int) * 256) = (y4 : Int) * 256 := IntWalk.i64_in _ (by omega)
    have hw4 : IntKind.i64.wrap (y5 : Int) = y5 := IntWalk.i64_in _ (by omega)
    have Hn := Lib.hid (show lenOf l = n by rw [Hlen.out, hn])
    have hnb : n < 70000 := by omega
    clear hn
    go_quiet (fail)
    clear hor hw2 hw3 hw4
    by_cases hbig : 246 < n
    · have hfin := Lib.hid (Hno.out (by rw [Hpg.out, Hn.out]; simp; omega))
      clear Hyes Hno Hpg hk
      go_wp2_with fail
      exact bodyPost_ret (v := nothing) (by simp [results, Tryd.results15, go_sem, nothing]) rfl (hfin.out _ (below_drewN hb1 _))
    · have hfl := Hfl.out
      have HFn := HF.out n (6 + (n : Int)) (by omega) (by omega)
      have HMn := HM.out n (6 + (n : Int)) (by omega) (by omega)
      clear hfl
      have hls : (str (l.drop (6 + n))).size ≤ 252 := by rw [str_size, List.length_drop, Hfl.out]; omega
      have HT := Lib.hid (fun w => Tryd.strings_Trim_one (str (l.drop (6 + n))) 0 (by decide) w (by omega))
      have htl : (l.drop (6 + n)).length = 246 - n := by rw [List.length_drop, Hfl.out]; omega
      have htr := trim_noughts (l.drop (6 + n))
      rw [htl] at htr
      have Htr := Lib.hid htr
      have hw5 : IntKind.i64.wrap (6 + (n : Int)) = 6 + (n : Int) := IntWalk.i64_in _ (by omega)
      clear htl htr
      have hlist : (str (l.drop (6 + n))).data.toList = l.drop (6 + n) := rfl
      rw [hlist] at HT
      clear hlist
      generalize str (l.drop (6 + n)) = D at *
      go_wp2_with fail
      refine (HT.out _).mono ?_
      rintro e w2 ⟨rfl, hw2⟩
      have hb2 := Lib.hid (show Below w.heap.size w w2 by
        rcases hw2 with rfl | rfl
        · exact below_drewN hb1 _
        · exact (below_drewN hb1 _).drew)
      clear hw2
      by_cases ht : Lib.trimB (l.drop (6 + n)) 0 = []
      · obtain ⟨m1, hm1⟩ : ∃ m1 : Nat, m1 = y1 * 65536 + y2 * 256 := ⟨_, rfl⟩
        obtain ⟨m2, hm2⟩ : ∃ m2 : Nat, m2 = m1 + y3 := ⟨_, rfl⟩
        have ho1 : bits .or .i64 ((y1 : Int) * 65536) ((y2 : Int) * 256) = (m1 : Int) := by
          have h := or_i64 16 (y1 * 65536) (y2 * 256) (by omega) (by omega) (by omega)
          rw [hm1, ← h]
          congr 1
        have ho2 : bits .or .i64 (m1 : Int) (y3 : Int) = (m2 : Int) := by
          rw [hm2, ← or_i64 8 m1 y3 (by omega) (by omega) (by omega)]
        have v1 : IntKind.i64.wrap (y1 : Int) = y1 := IntWalk.i64_in _ (by omega)
        have v2 : IntKind.i64.wrap (y2 : Int) = y2 := IntWalk.i64_in _ (by omega)
        have v3 : IntKind.i64.wrap (y3 : Int) = y3 := IntWalk.i64_in _ (by omega)
        have v4 : IntKind.i64.wrap ((y1 : Int) * 65536) = (y1 : Int) * 65536 := IntWalk.i64_in _ (by omega)
        have v5 : IntKind.i64.wrap ((y2 : Int) * 256) = (y2 : Int) * 256 := IntWalk.i64_in _ (by omega)
        have hix := Lib.hid (show idxOf l = m2 by rw [Hidx.out, hm2, hm1])
        have hpgt : isPg p.data.toList = true := by
          rw [Hpg.out, hk, Hn.out]
          simp only [Bool.true_and, Bool.and_eq_true, decide_eq_true_eq]
          exact ⟨by omega, Htr.out.1 ht⟩
        have hfin := Hyes.out hpgt
        have hbody := Hbody.out (by rw [Hn.out]; omega)
        rw [← hbody, hix.out, Hk0.out, Hn.out] at hfin
        have Hfin := Lib.hid hfin
        rw [ht]
        clear ht hm1 hm2 hpgt hfin hbody Hyes Hno Hpg Hbody hk
        have hsub : 6 + n - 6 = n := by omega
        rw [hsub] at HMn
        clear hsub
        generalize str ((l.drop 6).take n) = S at *
        go_wp2_with fail
        go_quiet (fail)
        go_wp2_with fail
        exact bodyPost_ret (v := .tuple #[.int .u8 (y0 : Int), .int .i64 (m2 : Int), .string S, .int .i64 0]) (by simp [results, Tryd.results15, go_sem]) rfl (Hfin.out _ (below_drewN hb2.out _))
      · have hfin := Lib.hid (Hno.out (by
          rw [Hpg.out, Hn.out]
          simp only [Bool.and_eq_false_iff, decide_eq_false_iff_not]
          exact .inr fun hh => ht (Htr.out.2 hh)))
        obtain ⟨x, r, hT⟩ := List.exists_cons_of_ne_nil ht
        rw [hT]
        clear ht hT Hyes Hno Hpg hk
        go_wp2_with fail
        exact bodyPost_ret (v := nothing) (by simp [results, Tryd.results15, go_sem, nothing]) rfl (hfin.out _ hb2.out)
  · have hk' : okKind (kindOf l) = false := by simpa using hk
    have hK := fun w => kind_no (kindOf l) w hk'
    rw [Hk0.out] at hK
    have HK := Lib.hid hK
    clear hK
    have hfin := Lib.hid (Hno.out (by rw [Hpg.out, hk']; rfl))
    clear hk hk' Hyes Hno Hpg
    go_wp2_with fail
    refine (HK.out _).mono ?_
    rintro e w' ⟨rfl, rfl⟩
    go_wp2_with fail
    exact bodyPost_ret (v := nothing) (by simp [results, Tryd.results15, go_sem, nothing]) rfl (hfin.out _ hb1)

end Go.Proofs.YtpgmbpjjefecdaaDoor.Pg
