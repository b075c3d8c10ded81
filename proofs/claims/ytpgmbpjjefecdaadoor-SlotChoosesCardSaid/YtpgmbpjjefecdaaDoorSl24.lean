/- Layer 9, in plain Lean: only its record leads to a version. -/
import Derived.Test.YtpgmbpjjefecdaaDoorSl10
namespace Go.Proofs.YtpgmbpjjefecdaaDoor.Sl
open Go.RowKit Base Crc Txt Plain Pg
set_option linter.unusedVariables false

theorem ntake_put {l : List UInt8} {n z : Nat} (h : Nm.ntake l = some (n, z)) : l = Nm.nput n ++ l.drop z ∧ Nm.nsize n = z ∧ z ≤ l.length := by
  unfold Nm.ntake at h
  split at h
  · cases h
  · rename_i h0
    split at h
    · cases h
    · rename_i h1
      split at h
      · rename_i h2
        injection h with h
        injection h with e1 e2
        have := Nm.nput_nval l _ h0 rfl (by omega) h2
        rw [e1, e2] at this
        rw [e1, e2] at h2
        refine ⟨?_, h2, by omega⟩
        rw [this, List.take_append_drop]
      · cases h
theorem numOk_back {l : List UInt8} {a most n b : Nat} (h : Tk.numOk l a most = some (n, b)) : l.drop a = Nm.nput n ++ l.drop b ∧ n ≤ most := by
  unfold Tk.numOk at h
  rcases ht : Nm.ntake (l.drop a) with _ | ⟨x, z⟩
  · rw [ht] at h; cases h
  · rw [ht] at h
    simp only at h
    split at h
    · rename_i hle
      injection h with h
      injection h with e1 e2
      subst e1 e2
      obtain ⟨e, _, _⟩ := ntake_put ht
      rw [List.drop_drop] at e
      exact ⟨e, hle⟩
    · cases h
theorem body_back {l : List UInt8} {p m c n t : Nat} (h : Tk.body? l = some (p, m, c, n, t)) : ∃ k, l = Nm.nput p ++ (Nm.nput m ++ (Nm.nput c ++ (Nm.nput n ++ (Nm.nput t ++ noughts k)))) := by
  unfold Tk.body? Tk.five at h
  rcases h1 : Tk.numOk l 0 2047 with _ | ⟨x1, a1⟩
  · rw [h1] at h; cases h
  rw [h1] at h
  simp only at h
  rcases h2 : Tk.numOk l a1 2047 with _ | ⟨x2, a2⟩
  · rw [h2] at h; cases h
  rw [h2] at h
  simp only at h
  rcases h3 : Tk.numOk l a2 1048576 with _ | ⟨x3, a3⟩
  · rw [h3] at h; cases h
  rw [h3] at h
  simp only at h
  rcases h4 : Tk.numOk l a3 1048576 with _ | ⟨x4, a4⟩
  · rw [h4] at h; cases h
  rw [h4] at h
  simp only at h
  rcases h5 : Tk.numOk l a4 1048576 with _ | ⟨x5, a5⟩
  · rw [h5] at h; cases h
  rw [h5] at h
  simp only at h
  split at h
  · rename_i hz
    injection h with h
    simp only [Prod.mk.injEq] at h
    obtain ⟨rfl, rfl, rfl, rfl, rfl⟩ := h
    refine ⟨l.length - a5, ?_⟩
    rw [← hz, ← (numOk_back h5).1, ← (numOk_back h4).1, ← (numOk_back h3).1, ← (numOk_back h2).1, ← (numOk_back h1).1]
    rfl
  · cases h
theorem six_val (l : List UInt8) (h : l.length = 6) : six (Nm.val l) = l := by
  have := Nm.be_val l 0
  rw [h, Nat.zero_mul, Nat.zero_add] at this
  exact this
/-- only its record leads to a version -/
theorem stake_back {l : List UInt8} {r : Rt} (h : stake l = some r) : rec9 r = l := by
  by_cases hf : formR l
  · rcases hb : Tk.body? ((front (l.take 122)).drop 7) with _ | ⟨p, m, c, n, t⟩
    · rw [stake_body hf hb] at h; cases h
    · by_cases ho : Ok (mkR (Nm.val (l.drop 122)) (p, m, c, n, t))
      · rw [stake_yes hf hb ho] at h
        injection h with h
        obtain ⟨k, hk⟩ := body_back hb
        obtain ⟨f1, f2, f3, f4⟩ := hf
        have hcl := (isClosed_iff _).1 f2
        have hfl : (front (l.take 122)).length = 118 := by
          unfold front
          rw [List.length_take, List.length_take]
          omega
        have hd : (l.drop 122).length = 6 := by rw [List.length_drop, f1]
        have hin : inner9 r ++ noughts k = front (l.take 122) := by
          rw [← h]
          have e1 : inner9 (mkR (Nm.val (l.drop 122)) (p, m, c, n, t)) = 86 :: (six (Nm.val (l.drop 122)) ++ (Nm.nput p ++ (Nm.nput m ++ (Nm.nput c ++ (Nm.nput n ++ Nm.nput t))))) := by
            unfold inner9 outTo nats mkR
            simp
          rw [e1, six_val _ hd, ← f4]
          rcases hx : front (l.take 122) with _ | ⟨x, y⟩
          · rw [hx] at hfl; cases hfl
          · rw [hx] at f3 hk
            simp only [List.getD_cons_zero] at f3
            simp only [List.drop_succ_cons, List.drop_zero] at hk ⊢
            rw [f3]
            show 86 :: ((y.take 6 ++ _) ++ noughts k) = 86 :: y
            simp only [List.append_assoc]
            rw [← hk, List.take_append_drop]
        have hkl : k = 118 - (inner9 r).length := by
          have := congrArg List.length hin
          rw [List.length_append, noughts_len, hfl] at this
          omega
        have hg : six r.g.toNat = l.drop 122 := by
          rw [← h]
          show six ((Nm.val (l.drop 122) : Nat) : Int).toNat = _
          rw [Int.toNat_natCast, six_val _ hd]
        unfold rec9
        rw [← hkl, hin, hcl.2, hg, List.take_append_drop]
      · rw [stake_no hf hb ho] at h; cases h
  · rw [stake_form hf] at h; cases h
theorem stake_iff (l : List UInt8) (r : Rt) : stake l = some r ↔ Ok r ∧ rec9 r = l := by
  constructor
  · intro h
    exact ⟨stake_ok h, stake_back h⟩
  · rintro ⟨h, rfl⟩
    exact stake_rec r h

end Go.Proofs.YtpgmbpjjefecdaaDoor.Sl
