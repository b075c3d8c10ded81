/- Layer 9: the document's Take answers as the program's does. -/
import Derived.Test.YtpgmbpjjefecdaaDoorSl27
namespace Go.Proofs.YtpgmbpjjefecdaaDoor.Sl
open Go.RowKit Base Crc Txt Plain Pg
set_option linter.unusedVariables false
set_option linter.unusedSimpArgs false

theorem rnum_put (pre r : List UInt8) (x most : Nat) (hx : x ≤ most) (hm : most ≤ 1048576) : rnum (pre ++ (Nm.nput x ++ r)) most pre.length 0 = ((pre ++ Nm.nput x).length, 0, x) := by
  have h : rnumber (pre ++ (Nm.nput x ++ r)) pre.length 0 = ((pre ++ Nm.nput x).length, 0, x) := by
    unfold rnumber
    rw [if_neg (by simp), List.drop_left' rfl, ntake_nput x r (by omega)]
    simp only
    rw [List.length_append, Nm.nput_len]
  unfold rnum
  rw [h]
  simp only
  rw [if_neg (by simp), if_neg (by omega)]
theorem rec_shape (r : Rt) : ∃ y, rec9 r = 86 :: (six r.g.toNat ++ (Nm.nput r.p.toNat ++ (Nm.nput r.m.toNat ++ (Nm.nput r.c.toNat ++ (Nm.nput r.n.toNat ++ (Nm.nput r.t.toNat ++ y)))))) := by
  have hin : inner9 r = 86 :: (six r.g.toNat ++ (Nm.nput r.p.toNat ++ (Nm.nput r.m.toNat ++ (Nm.nput r.c.toNat ++ (Nm.nput r.n.toNat ++ Nm.nput r.t.toNat))))) := by
    unfold inner9 outTo nats
    simp
  unfold rec9 closed
  generalize noughts (118 - (inner9 r).length) = N
  generalize tail4 (more 0 (inner9 r ++ N)) = Q
  rw [hin]
  refine ⟨N ++ (Q ++ six r.g.toNat), ?_⟩
  simp only [List.append_assoc, List.cons_append]

/-- a record is read as what it is of -/
theorem read_rec (r : Rt) (h : Ok r) :
    genTo (rec9 r) 6 = r.g.toNat ∧ ∃ a1 a2 a3 a4 a5, rnum ((rec9 r).drop 7) 2047 0 0 = (a1, 0, r.p.toNat) ∧ rnum ((rec9 r).drop 7) 2046 a1 0 = (a2, 0, r.m.toNat) ∧ rnum ((rec9 r).drop 7) 1048576 a2 0 = (a3, 0, r.c.toNat) ∧ rnum ((rec9 r).drop 7) 1048576 a3 0 = (a4, 0, r.n.toNat) ∧ rnum ((rec9 r).drop 7) 1048576 a4 0 = (a5, 0, r.t.toNat) := by
  obtain ⟨y, hy⟩ := rec_shape r
  have hn := ok_nat h
  have hp := h.p2
  have hm := h.m2
  have hg := h.g2
  have hd : (rec9 r).drop 7 = Nm.nput r.p.toNat ++ (Nm.nput r.m.toNat ++ (Nm.nput r.c.toNat ++ (Nm.nput r.n.toNat ++ (Nm.nput r.t.toNat ++ y)))) := by
    rw [hy, List.drop_succ_cons]
    exact List.drop_left' (six_len _)
  have hc := hn r.c.toNat (by simp [nats])
  have hnn := hn r.n.toNat (by simp [nats])
  have ht := hn r.t.toNat (by simp [nats])
  refine ⟨?_, ?_⟩
  · unfold genTo
    rw [hy, List.drop_succ_cons, List.drop_zero, List.take_left' (six_len _)]
    exact val_six _ (by omega)
  · rw [hd]
    have hm' : r.m.toNat ≤ 2046 := by have := h.m1; omega
    have hp' : r.p.toNat ≤ 2047 := by omega
    clear hd hy hn
    generalize r.p.toNat = a at *
    generalize r.m.toNat = b at *
    generalize r.c.toNat = c at *
    generalize r.n.toNat = d at *
    generalize r.t.toNat = e at *
    have h1 := rnum_put [] (Nm.nput b ++ (Nm.nput c ++ (Nm.nput d ++ (Nm.nput e ++ y)))) a 2047 hp' (by omega)
    have h2 := rnum_put (Nm.nput a) (Nm.nput c ++ (Nm.nput d ++ (Nm.nput e ++ y))) b 2046 hm' (by omega)
    have h3 := rnum_put (Nm.nput a ++ Nm.nput b) (Nm.nput d ++ (Nm.nput e ++ y)) c 1048576 hc (by omega)
    have h4 := rnum_put (Nm.nput a ++ Nm.nput b ++ Nm.nput c) (Nm.nput e ++ y) d 1048576 hnn (by omega)
    have h5 := rnum_put (Nm.nput a ++ Nm.nput b ++ Nm.nput c ++ Nm.nput d) y e 1048576 ht (by omega)
    simp only [List.nil_append, List.append_assoc, List.length_nil] at h1 h2 h3 h4 h5
    exact ⟨_, _, _, _, _, h1, h2, h3, h4, h5⟩

set_option maxRecDepth 100000 in
set_option maxHeartbeats 400000 in
theorem rtake9_size (s : ByteArray) (w : World) (hm : s.size ≤ maxLen) (h : s.size ≠ 128) :
    Calls Tryd.prog 35 #[.string s] w fun e w' => e = .returned snone ∧ Below w.heap.size w w' := by
  unfold maxLen at hm
  have hd : ((s.size : Int) != 128) = true := by rw [bne_iff_ne]; omega
  clear h
  go_enter Tryd.func35, Tryd.ntmps35
  go_wp2_with fail
  refine bodyPost_ret (v := snone) (by simp [results, Tryd.results35, go_sem, snone, rtV, zeroR]) rfl ⟨rfl, ?_⟩
  exact (by repeat (first | exact Below.refl _ _ | assumption | refine Below.drew ?_ | (refine Below.alloc ?_ (by simp <;> omega) _) | (refine Below.setCell ?_ (by simp <;> omega) _)))
def TakeOut9 (l : List UInt8) (w : World) (e : Ending) (w' : World) : Prop :=
  Below w.heap.size w w' ∧ ((∃ r, stake l = some r ∧ e = .returned (.tuple #[.agg (rtV r), .bool true])) ∨ (stake l = none ∧ e = .returned snone))
theorem rtake9_sector (l : List UInt8) (w : World) (hl : l.length = 128) :
    Calls Tryd.prog 35 #[.string (str l)] w (TakeOut9 l w) := by
  have hT : ∀ most a e, a ≤ (l.drop 7).length → most ≤ 2000000 → NumC ((str l).extract 7 128) most a e (rnum (l.drop 7) most a e).1 (rnum (l.drop 7) most a e).2.1 (rnum (l.drop 7) most a e).2.2 := by
    intro most a e ha hm w
    have hx : ((str l).extract 7 128).data.toList = l.drop 7 := by
      rw [ByteArray.data_extract, Array.toList_extract, List.extract_eq_take_drop, str_list, List.take_of_length_le (by rw [List.length_drop]; omega)]
    have hz : ((str l).extract 7 128).size = (l.drop 7).length := by
      rw [ByteArray.size_extract, List.length_drop, str_size]
      omega
    have := rnum_any ((str l).extract 7 128) most a e w (by rw [hz, List.length_drop]; omega) (by rw [hz]; exact ha) hm
    rw [hx] at this
    exact this
  have b1 := rnum_le (l.drop 7) 2047 0 0 (Nat.zero_le _)
  have q1 := hT 2047 0 0 (Nat.zero_le _) (by omega)
  generalize hr1 : rnum (l.drop 7) 2047 0 0 = r1 at *
  obtain ⟨a1, e1, n1⟩ := r1
  simp only at *
  have b2 := rnum_le (l.drop 7) 2046 a1 e1 b1.1
  have q2 := hT 2046 a1 e1 b1.1 (by omega)
  generalize hr2 : rnum (l.drop 7) 2046 a1 e1 = r2 at *
  obtain ⟨a2, e2, n2⟩ := r2
  simp only at *
  have b3 := rnum_le (l.drop 7) 1048576 a2 e2 b2.1
  have q3 := hT 1048576 a2 e2 b2.1 (by omega)
  generalize hr3 : rnum (l.drop 7) 1048576 a2 e2 = r3 at *
  obtain ⟨a3, e3, n3⟩ := r3
  simp only at *
  have b4 := rnum_le (l.drop 7) 1048576 a3 e3 b3.1
  have q4 := hT 1048576 a3 e3 b3.1 (by omega)
  generalize hr4 : rnum (l.drop 7) 1048576 a3 e3 = r4 at *
  obtain ⟨a4, e4, n4⟩ := r4
  simp only at *
  have b5 := rnum_le (l.drop 7) 1048576 a4 e4 b4.1
  have q5 := hT 1048576 a4 e4 b4.1 (by omega)
  generalize hr5 : rnum (l.drop 7) 1048576 a4 e4 = r5 at *
  obtain ⟨a5, e5, n5⟩ := r5
  simp only at *
  have key := rtake9 l w hl (genTo l 6) a1 e1 n1 a2 e2 n2 a3 e3 n3 a4 e4 n4 a5 e5 n5 rfl q1 q2 q3 q4 q5
  refine key.mono ?_
  rintro e w' ⟨hb, ⟨⟨c1, c2, c3⟩, rfl⟩ | ⟨hc, rfl⟩⟩
  · exact ⟨hb, .inl ⟨_, (stake_iff _ _).2 ⟨c2, c3⟩, rfl⟩⟩
  · refine ⟨hb, .inr ⟨?_, rfl⟩⟩
    rcases hst : stake l with _ | r
    · rfl
    · exfalso
      obtain ⟨ho, hrec⟩ := (stake_iff _ _).1 hst
      obtain ⟨hg, x1, x2, x3, x4, x5, y1, y2, y3, y4, y5⟩ := read_rec r ho
      rw [hrec] at hg y1 y2 y3 y4 y5
      rw [hr1] at y1
      injection y1 with u1 y1
      injection y1 with v1 z1
      subst u1 v1
      rw [hr2] at y2
      injection y2 with u1 y2
      injection y2 with v1 z2
      subst u1 v1
      rw [hr3] at y3
      injection y3 with u1 y3
      injection y3 with v1 z3
      subst u1 v1
      rw [hr4] at y4
      injection y4 with u1 y4
      injection y4 with v1 z4
      subst u1 v1
      rw [hr5] at y5
      injection y5 with u1 y5
      injection y5 with v1 z5
      have hx : readR (genTo l 6) n1 n2 n3 n4 n5 = r := by
        unfold readR
        rw [hg, z1, z2, z3, z4, z5]
        obtain ⟨g1, g2, c1, c2, n1', n2', t1, t2, p1, p2, m1, m2⟩ := ho
        have := pcount_bd r.c c2
        have := pcount_bd r.n n2'
        cases r
        simp only at *
        congr 1 <;> omega
      exact hc ⟨v1, by rw [hx]; exact ho, by rw [hx]; exact hrec⟩
theorem rtake9_any (s : ByteArray) (w : World) (hm : s.size ≤ maxLen) :
    Calls Tryd.prog 35 #[.string s] w (TakeOut9 s.data.toList w) := by
  by_cases hl : s.size = 128
  · have := rtake9_sector s.data.toList w (by simpa using hl)
    rw [str_of] at this
    exact this
  · refine (rtake9_size s w hm hl).mono ?_
    rintro e w' ⟨rfl, hb⟩
    refine ⟨hb, .inr ⟨stake_form (fun h => hl ?_), rfl⟩⟩
    have := h.1
    simpa using this

end Go.Proofs.YtpgmbpjjefecdaaDoor.Sl
