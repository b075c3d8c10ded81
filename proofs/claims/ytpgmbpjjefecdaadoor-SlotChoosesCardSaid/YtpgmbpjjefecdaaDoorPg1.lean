/- Layer 8 in plain Lean: a page's bytes, and what bytes are the page of. -/
import Derived.Test.YtpgmbpjjefecdaaDoorCrc5
namespace Go.Proofs.YtpgmbpjjefecdaaDoor.Pg
open Go.RowKit Base Crc
set_option linter.unusedVariables false

def okKind (k : UInt8) : Bool := k == 67 || k == 78 || k == 77
def hd (k : UInt8) (i n : Nat) : List UInt8 := [k, byt (i / 65536), byt (i / 256), byt i, byt (n / 256), byt n]
def noughts (n : Nat) : List UInt8 := List.replicate n 0
/-- a page without its sum -/
def inner (k : UInt8) (i : Nat) (s : List UInt8) : List UInt8 := hd k i s.length ++ s ++ noughts (246 - s.length)
def pg (k : UInt8) (i : Nat) (s : List UInt8) : List UInt8 := closed (inner k i s)
/-- the number of why there is no page -/
def pwrong (k : UInt8) (i : Int) (n : Nat) : Int := if okKind k && decide (0 ≤ i) && decide (i ≤ 16777215) then (if 246 < n then 5 else 0) else 2

theorem noughts_len (n : Nat) : (noughts n).length = n := by simp [noughts]
theorem inner_len (k : UInt8) (i : Nat) (s : List UInt8) (h : s.length ≤ 246) : (inner k i s).length = 252 := by
  unfold inner
  rw [List.length_append, List.length_append, noughts_len]
  simp [hd]
  omega
theorem pg_len (k : UInt8) (i : Nat) (s : List UInt8) (h : s.length ≤ 246) : (pg k i s).length = 256 := by
  unfold pg closed
  rw [List.length_append, inner_len k i s h]
  rfl

def nb (l : List UInt8) (i : Nat) : Nat := (l.getD i 0).toNat
def idxOf (l : List UInt8) : Nat := nb l 1 * 65536 + nb l 2 * 256 + nb l 3
def lenOf (l : List UInt8) : Nat := nb l 4 * 256 + nb l 5
def bodyOf (l : List UInt8) : List UInt8 := (l.drop 6).take (lenOf l)
def kindOf (l : List UInt8) : UInt8 := l.getD 0 0

theorem byt_id (b : UInt8) (n : Nat) (h : n % 256 = b.toNat) : byt n = b := by
  unfold byt
  apply UInt8.toNat_inj.1
  rw [UInt8.toNat_ofNat']
  omega
theorem nb_lt (l : List UInt8) (i : Nat) : nb l i < 256 := (l.getD i 0).toNat_lt
theorem hd_of (l : List UInt8) (h : 6 ≤ l.length) : hd (kindOf l) (idxOf l) (lenOf l) = l.take 6 := by
  obtain ⟨a, l, rfl⟩ := List.exists_cons_of_length_pos (l := l) (by omega)
  obtain ⟨b, l, rfl⟩ := List.exists_cons_of_length_pos (l := l) (by simp at h; omega)
  obtain ⟨c, l, rfl⟩ := List.exists_cons_of_length_pos (l := l) (by simp at h; omega)
  obtain ⟨d, l, rfl⟩ := List.exists_cons_of_length_pos (l := l) (by simp at h; omega)
  obtain ⟨e, l, rfl⟩ := List.exists_cons_of_length_pos (l := l) (by simp at h; omega)
  obtain ⟨f, l, rfl⟩ := List.exists_cons_of_length_pos (l := l) (by simp at h; omega)
  have h1 := b.toNat_lt
  have h2 := c.toNat_lt
  have h3 := d.toNat_lt
  have h4 := e.toNat_lt
  have h5 := f.toNat_lt
  unfold hd kindOf idxOf lenOf nb
  simp only [List.getD_cons_zero, List.getD_cons_succ, List.take_succ_cons, List.take_zero, List.cons.injEq, true_and, and_true]
  exact ⟨byt_id _ _ (by omega), byt_id _ _ (by omega), byt_id _ _ (by omega), byt_id _ _ (by omega), byt_id _ _ (by omega)⟩

theorem nb_hd (k : UInt8) (i n : Nat) (r : List UInt8) (hi : i ≤ 16777215) (hn : n ≤ 246) : kindOf (hd k i n ++ r) = k ∧ idxOf (hd k i n ++ r) = i ∧ lenOf (hd k i n ++ r) = n := by
  unfold hd kindOf idxOf lenOf nb
  simp only [List.cons_append, List.getD_cons_zero, List.getD_cons_succ, byt, UInt8.toNat_ofNat', true_and]
  omega

/-- bytes that are a page -/
def isPg (p : List UInt8) : Bool := decide (p.length = 256) && isClosed p && okKind (kindOf p) && decide (lenOf p ≤ 246) && decide ((front p).drop (6 + lenOf p) = noughts (246 - lenOf p))
def ptake (p : List UInt8) : Option (UInt8 × Nat × List UInt8) := if isPg p then some (kindOf p, idxOf p, bodyOf p) else none

theorem front_at (p : List UInt8) (i : Nat) (h : i + 4 < p.length) : (front p).getD i 0 = p.getD i 0 := by
  unfold front
  rw [List.getD_eq_getElem?_getD, List.getD_eq_getElem?_getD, List.getElem?_take_of_lt (by omega)]
theorem front_same (p : List UInt8) (h : p.length = 256) : kindOf (front p) = kindOf p ∧ idxOf (front p) = idxOf p ∧ lenOf (front p) = lenOf p := by
  have h0 := front_at p 0 (by omega)
  have h1 := front_at p 1 (by omega)
  have h2 := front_at p 2 (by omega)
  have h3 := front_at p 3 (by omega)
  have h4 := front_at p 4 (by omega)
  have h5 := front_at p 5 (by omega)
  unfold kindOf idxOf lenOf nb
  rw [h0, h1, h2, h3, h4, h5]
  exact ⟨rfl, rfl, rfl⟩
theorem bodyOf_len (p : List UInt8) (h : p.length = 256) (hl : lenOf p ≤ 246) : (bodyOf p).length = lenOf p := by
  unfold bodyOf
  rw [List.length_take, List.length_drop]
  omega
theorem body_front (p : List UInt8) (h : p.length = 256) (hl : lenOf p ≤ 246) : ((front p).drop 6).take (lenOf p) = bodyOf p := by
  unfold bodyOf front
  rw [List.drop_take, List.take_take]
  congr 1
  omega
theorem inner_of (p : List UInt8) (h : p.length = 256) (hl : lenOf p ≤ 246) : inner (kindOf p) (idxOf p) (bodyOf p) = (front p).take (6 + lenOf p) ++ noughts (246 - lenOf p) := by
  unfold inner
  rw [bodyOf_len p h hl]
  obtain ⟨h0, h1, h2⟩ := front_same p h
  have hf : (front p).length = 252 := by unfold front; rw [List.length_take]; omega
  have hh := hd_of (front p) (by omega)
  rw [h0, h1, h2] at hh
  rw [hh, ← body_front p h hl, List.take_add]
/-- the reference's test is ours -/
theorem pg_eq (p : List UInt8) (h : p.length = 256) (hk : okKind (kindOf p) = true) (hl : lenOf p ≤ 246) : (pg (kindOf p) (idxOf p) (bodyOf p) = p) ↔ isPg p = true := by
  have hf : (front p).length = 252 := by unfold front; rw [List.length_take]; omega
  have hsplit : front p = (front p).take (6 + lenOf p) ++ (front p).drop (6 + lenOf p) := (List.take_append_drop _ _).symm
  unfold isPg
  simp only [h, hk, hl, decide_true, Bool.true_and, Bool.and_true, Bool.and_eq_true, decide_eq_true_eq]
  rw [isClosed_iff]
  constructor
  · intro hp
    unfold pg at hp
    have h1 : front p = inner (kindOf p) (idxOf p) (bodyOf p) := by
      have := congrArg front hp
      rw [closed_front] at this
      exact this.symm
    refine ⟨⟨by omega, by rw [h1]; exact hp⟩, ?_⟩
    rw [inner_of p h hl] at h1
    rw [hsplit] at h1
    have h2 := List.append_inj_right h1 (by simp)
    rw [hsplit]
    have : ((front p).take (6 + lenOf p)).length = 6 + lenOf p := by rw [List.length_take]; omega
    rw [List.drop_append_of_le_length (by omega), List.drop_of_length_le (by omega), List.nil_append]
    exact h2
  · rintro ⟨⟨_, hc⟩, hz⟩
    unfold pg
    rw [inner_of p h hl, ← hz, List.take_append_drop]
    exact hc
theorem isPg_pg (k : UInt8) (i : Nat) (s : List UInt8) (hk : okKind k = true) (hi : i ≤ 16777215) (hs : s.length ≤ 246) : isPg (pg k i s) = true ∧ kindOf (pg k i s) = k ∧ idxOf (pg k i s) = i ∧ bodyOf (pg k i s) = s := by
  have hl := pg_len k i s hs
  have he : pg k i s = hd k i s.length ++ (s ++ noughts (246 - s.length) ++ tail4 (more 0 (inner k i s))) := by
    unfold pg closed
    rw [show inner k i s = hd k i s.length ++ s ++ noughts (246 - s.length) from rfl]
    simp only [List.append_assoc]
  obtain ⟨h0, h1, h2⟩ := nb_hd k i s.length (s ++ noughts (246 - s.length) ++ tail4 (more 0 (inner k i s))) hi hs
  rw [← he] at h0 h1 h2
  have h3 : bodyOf (pg k i s) = s := by
    unfold bodyOf
    rw [h2, he]
    have : (hd k i s.length).length = 6 := rfl
    rw [List.drop_append_of_le_length (by omega), List.drop_of_length_le (by omega), List.nil_append, List.append_assoc, List.take_left' rfl]
  refine ⟨(pg_eq _ hl (by rw [h0]; exact hk) (by rw [h2]; exact hs)).1 (by rw [h0, h1, h3]), h0, h1, h3⟩

end Go.Proofs.YtpgmbpjjefecdaaDoor.Pg
