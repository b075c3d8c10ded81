/- Layer 9, sixth part, in plain Lean: a record leads back. -/
import Derived.Test.YtpgmbpjjefecdaaDoorSl5
namespace Go.Proofs.YtpgmbpjjefecdaaDoor.Sl
open Go.RowKit Base Crc Txt Plain Pg
set_option linter.unusedVariables false

theorem lead_next (s : Nat) (h1 : 1 ≤ s) (h8 : s ≤ 8) : Nm.lead (s + 1) = Nm.lead s + 2 ^ (8 - s) := by
  have key : ∀ s : Fin 9, 1 ≤ s.val → Nm.lead (s.val + 1) = Nm.lead s.val + 2 ^ (8 - s.val) := by decide +kernel
  exact key ⟨s, by omega⟩ h1
theorem ntake_nput (x : Nat) (r : List UInt8) (hx : x < 18446744073709551616) : Nm.ntake (Nm.nput x ++ r) = some (x, Nm.nsize x) := by
  obtain ⟨b0, r0, _, hb, _, _, hsm⟩ := Nm.nine_full x (Nm.nsize x) rfl hx
  have hbd := Nm.nsize_bd x
  have h255 := Nm.byte0 x (Nm.nsize x) rfl hx
  have hlen := Nm.nput_len x
  have h0 : (Nm.nput x ++ r).getD 0 0 = byt (Nm.lead (Nm.nsize x) + x / 256 ^ (Nm.nsize x - 1)) := rfl
  have hv : ((Nm.nput x ++ r).getD 0 0).toNat = Nm.lead (Nm.nsize x) + x / 256 ^ (Nm.nsize x - 1) := by
    rw [h0]
    unfold byt
    rw [UInt8.toNat_ofNat']
    exact Nat.mod_eq_of_lt (Nat.lt_of_le_of_lt h255 (by omega))
  have hhi : x / 256 ^ (Nm.nsize x - 1) < 256 := Nat.lt_of_le_of_lt (Nat.le_trans (Nat.le_add_left _ _) h255) (by omega)
  rw [Nat.mod_eq_of_lt hhi] at hb
  have ho : Nm.ones ((Nm.nput x ++ r).getD 0 0).toNat + 1 = Nm.nsize x := by
    rw [hv]
    refine Nm.ones_lead (Nm.nsize x) _ (by omega) hbd.1 hbd.2 (by omega) (fun h9 => ?_)
    rw [lead_next _ hbd.1 (by omega)]
    have := hsm h9
    omega
  have hdrop : ((Nm.nput x ++ r).drop 1).take (Nm.nsize x - 1) = Nm.be (Nm.nsize x - 1) x := by
    show (Nm.be (Nm.nsize x - 1) x ++ r).take (Nm.nsize x - 1) = _
    exact List.take_left' (Nm.be_len _ _)
  have hn : Nm.nval (Nm.nput x ++ r) (Nm.nsize x) = x := by
    unfold Nm.nval
    rw [hv, hdrop, Nm.val_be]
    have hdm := Nat.div_add_mod x (256 ^ (Nm.nsize x - 1))
    by_cases h9 : Nm.nsize x = 9
    · rw [if_pos h9]
      rw [h9] at h255 hdm ⊢
      have hl9 : Nm.lead 9 = 255 := by decide
      rw [hl9] at h255
      have : x / 256 ^ (9 - 1) = 0 := by omega
      rw [this] at hdm
      omega
    · rw [if_neg h9, Nat.add_sub_cancel_left, Nat.mul_comm]
      exact hdm
  unfold Nm.ntake
  rw [if_neg (by intro e; have := congrArg List.length e; rw [List.length_append, hlen] at this; simp at this; omega), ho, if_neg (by rw [List.length_append, hlen]; omega), hn, if_pos rfl]
theorem numOk_put (pre r : List UInt8) (x most : Nat) (hx : x ≤ most) (hm : most ≤ 1048576) : Tk.numOk (pre ++ (Nm.nput x ++ r)) pre.length most = some (x, (pre ++ Nm.nput x).length) := by
  unfold Tk.numOk
  rw [List.drop_left' rfl, ntake_nput x r (by omega)]
  simp only
  rw [if_pos hx, List.length_append, Nm.nput_len]
theorem body_rec (a b c d e k : Nat) (ha : a ≤ 2047) (hb : b ≤ 2047) (hc : c ≤ 1048576) (hd : d ≤ 1048576) (he : e ≤ 1048576) :
    Tk.body? (Nm.nput a ++ (Nm.nput b ++ (Nm.nput c ++ (Nm.nput d ++ (Nm.nput e ++ noughts k))))) = some (a, b, c, d, e) := by
  have h1 := numOk_put [] (Nm.nput b ++ (Nm.nput c ++ (Nm.nput d ++ (Nm.nput e ++ noughts k)))) a 2047 ha (by omega)
  have h2 := numOk_put (Nm.nput a) (Nm.nput c ++ (Nm.nput d ++ (Nm.nput e ++ noughts k))) b 2047 hb (by omega)
  have h3 := numOk_put (Nm.nput a ++ Nm.nput b) (Nm.nput d ++ (Nm.nput e ++ noughts k)) c 1048576 hc (by omega)
  have h4 := numOk_put (Nm.nput a ++ Nm.nput b ++ Nm.nput c) (Nm.nput e ++ noughts k) d 1048576 hd (by omega)
  have h5 := numOk_put (Nm.nput a ++ Nm.nput b ++ Nm.nput c ++ Nm.nput d) (noughts k) e 1048576 he (by omega)
  simp only [List.nil_append, List.append_assoc, List.length_nil] at h1 h2 h3 h4 h5
  unfold Tk.body? Tk.five
  simp only [h1, h2, h3, h4, h5]
  rw [if_pos]
  have e1 : Nm.nput a ++ (Nm.nput b ++ (Nm.nput c ++ (Nm.nput d ++ (Nm.nput e ++ noughts k)))) = (Nm.nput a ++ (Nm.nput b ++ (Nm.nput c ++ (Nm.nput d ++ Nm.nput e)))) ++ noughts k := by simp only [List.append_assoc]
  rw [e1, List.drop_left' rfl, List.length_append, noughts_len, Nat.add_sub_cancel_left]

theorem rec_take (r : Rt) (h : Ok r) : (rec9 r).take 122 = closed (inner9 r ++ noughts (118 - (inner9 r).length)) ∧ (rec9 r).drop 122 = six r.g.toNat := by
  have h1 := outTo_len h 5
  have hl : (closed (inner9 r ++ noughts (118 - (inner9 r).length))).length = 122 := by
    unfold closed inner9
    rw [List.length_append, List.length_append, noughts_len]
    simp only [tail4, List.length_cons, List.length_nil]
    omega
  unfold rec9
  exact ⟨List.take_left' hl, List.drop_left' hl⟩
theorem val_six (n : Nat) (h : n ≤ 1099511627776) : Nm.val (six n) = n := by
  unfold six
  rw [Nm.val_be]
  exact Nat.mod_eq_of_lt (by omega)
/-- a record leads back -/
theorem stake_rec (r : Rt) (h : Ok r) : stake (rec9 r) = some r := by
  obtain ⟨ht, hd⟩ := rec_take r h
  have hf : front ((rec9 r).take 122) = inner9 r ++ noughts (118 - (inner9 r).length) := by rw [ht, closed_front]
  have hin : inner9 r = 86 :: (six r.g.toNat ++ (Nm.nput r.p.toNat ++ (Nm.nput r.m.toNat ++ (Nm.nput r.c.toNat ++ (Nm.nput r.n.toNat ++ Nm.nput r.t.toNat))))) := by
    unfold inner9 outTo nats
    simp
  have hform : formR (rec9 r) := by
    refine ⟨rec_len h, by rw [ht]; exact isClosed_closed _, ?_, ?_⟩
    · rw [hf, hin]
      rfl
    · rw [hf, hd, hin]
      show ((six r.g.toNat ++ _) ++ noughts _).take 6 = six r.g.toNat
      rw [List.append_assoc, List.take_left' (six_len _)]
  have hb : Tk.body? ((front ((rec9 r).take 122)).drop 7) = some (r.p.toNat, r.m.toNat, r.c.toNat, r.n.toNat, r.t.toNat) := by
    rw [hf, hin]
    show Tk.body? (((six r.g.toNat ++ _) ++ noughts _).drop 6) = _
    rw [List.append_assoc, List.drop_left' (six_len _)]
    simp only [List.append_assoc]
    obtain ⟨g1, g2, c1, c2, n1, n2, t1, t2, p1, p2, m1, m2⟩ := h
    exact body_rec _ _ _ _ _ _ (by omega) (by omega) (by omega) (by omega) (by omega)
  have hmk : mkR (Nm.val ((rec9 r).drop 122)) (r.p.toNat, r.m.toNat, r.c.toNat, r.n.toNat, r.t.toNat) = r := by
    have h' := h
    obtain ⟨g1, g2, c1, c2, n1, n2, t1, t2, p1, p2, m1, m2⟩ := h'
    have q1 := pcount_bd r.c c2
    have q2 := pcount_bd r.n n2
    rw [hd, val_six _ (by omega)]
    obtain ⟨g, p, m, c, n, t⟩ := r
    simp only [mkR] at *
    congr 1 <;> omega
  have := stake_yes hform hb (by rw [hmk]; exact h)
  rw [hmk] at this
  exact this

end Go.Proofs.YtpgmbpjjefecdaaDoor.Sl
