/- Layer 9: the document's Put. -/
import Derived.Test.YtpgmbpjjefecdaaDoorSl24
import Derived.Test.YtpgmbpjjefecdaaDoorSl2
import Derived.Deep.RegionHeld3
namespace Go.Proofs.YtpgmbpjjefecdaaDoor.Sl
open Go.RowKit Base Crc Txt Plain Pg
set_option linter.unusedVariables false
set_option linter.unusedSimpArgs false

/-- how long a text is -/
def textLen : Value → Nat
  | .string s => s.size
  | _ => 0
/-- a number's bytes -/
def pn (z : Int) : ByteArray := str (Nm.nput z.toNat)
theorem keep6 {B g : Nat} {w v w' : World} {a0 a1 a2 a3 a4 a5 : Value} (hb : Below v.heap.size v w')
    (h : v.cell? ⟨g, 0, none⟩ = some a0 ∧ v.cell? ⟨g, 1, none⟩ = some a1 ∧ v.cell? ⟨g, 2, none⟩ = some a2 ∧ v.cell? ⟨g, 3, none⟩ = some a3 ∧ v.cell? ⟨g, 4, none⟩ = some a4 ∧ v.cell? ⟨g, 5, none⟩ = some a5 ∧ Below B w v) (hB : B ≤ v.heap.size) :
    w'.cell? ⟨g, 0, none⟩ = some a0 ∧ w'.cell? ⟨g, 1, none⟩ = some a1 ∧ w'.cell? ⟨g, 2, none⟩ = some a2 ∧ w'.cell? ⟨g, 3, none⟩ = some a3 ∧ w'.cell? ⟨g, 4, none⟩ = some a4 ∧ w'.cell? ⟨g, 5, none⟩ = some a5 ∧ Below B w w' := by
  obtain ⟨h0, h1, h2, h3, h4, h5, hb0⟩ := h
  exact ⟨cell_keep hb h0, cell_keep hb h1, cell_keep hb h2, cell_keep hb h3, cell_keep hb h4, cell_keep hb h5, hb0.trans (hb.mono hB)⟩

set_option maxRecDepth 100000 in
set_option maxHeartbeats 600000 in
theorem rput_no (r : Rt) (w : World) (h : ¬ Ok r) :
    Calls Tryd.prog 34 #[.agg (rtV r)] w fun e w' => e = .returned (.string ⟨#[]⟩) ∧ Below w.heap.size w w' := by
  have HI := Lib.hid (fun w => Sl.is_no r w h)
  clear h
  obtain ⟨g, p, m, c, n, t⟩ := r
  simp only [rtV] at *
  go_enter Tryd.func34, Tryd.ntmps34
  go_wp2_with fail
  refine (HI.out _).mono ?_
  rintro e w1 ⟨rfl, hb1⟩
  go_wp2_with fail
  go_ret
  exact ⟨rfl, ((Below.refl _ _).alloc (Nat.le_refl _) _).trans (hb1.mono (by simp))⟩

set_option maxRecDepth 100000 in
set_option maxHeartbeats 400000 in
theorem rput_yes (r : Rt) (w : World) (h : Ok r) :
    Calls Tryd.prog 34 #[.agg (rtV r)] w fun e w' => e = .returned (.string (str (rec9 r))) ∧ Below w.heap.size w w' := by
  have HI := Lib.hid (fun w => Sl.is_yes r w h)
  have hlen := outTo_len h 5
  have hnat := ok_nat h
  have hg0 : (r.g.toNat : Int) = r.g := by have := h.g1; omega
  have hp0 : (r.p.toNat : Int) = r.p := by have := h.p1; have := pcount_bd r.c h.c2; have := pcount_bd r.n h.n2; omega
  have hm0 : (r.m.toNat : Int) = r.m := by have := h.m1; omega
  have hc0 : (r.c.toNat : Int) = r.c := by have := h.c1; omega
  have hn0 : (r.n.toNat : Int) = r.n := by have := h.n1; omega
  have ht0 : (r.t.toNat : Int) = r.t := by have := h.t1; omega
  have HG := Lib.hid (fun w => rsix_any r.g.toNat w (by have := h.g2; omega))
  have HPN := Lib.hid (show ∀ z : Int, (z = r.p ∨ z = r.m ∨ z = r.c ∨ z = r.n ∨ z = r.t) → ∀ w, Calls Tryd.prog 57 #[.int .i64 z] w fun e w' => e = .returned (.string (pn z)) ∧ Below w.heap.size w w' by
    intro z hz w
    have hx : (z.toNat : Int) = z := by rcases hz with rfl | rfl | rfl | rfl | rfl <;> assumption
    have := rputnum_any z.toNat w (by
      have : z.toNat ∈ nats r := by rcases hz with rfl | rfl | rfl | rfl | rfl <;> simp [nats]
      have := hnat _ this
      omega)
    rw [hx] at this
    exact this)
  rw [hg0] at HG
  have HG2 := HG
  have sP := nput_short r.p.toNat (hnat _ (by simp [nats]))
  have sM := nput_short r.m.toNat (hnat _ (by simp [nats]))
  have sC := nput_short r.c.toNat (hnat _ (by simp [nats]))
  have sN := nput_short r.n.toNat (hnat _ (by simp [nats]))
  have sT := nput_short r.t.toNat (hnat _ (by simp [nats]))
  have sG := six_len r.g.toNat
  rw [← str_size] at sP sM sC sN sT sG
  change (pn r.p).size ≤ 3 at sP
  change (pn r.m).size ≤ 3 at sM
  change (pn r.c).size ≤ 3 at sC
  change (pn r.n).size ≤ 3 at sN
  change (pn r.t).size ≤ 3 at sT
  have Hcat := Lib.hid (show (ByteArray.mk #[86]) ++ str (six r.g.toNat) ++ pn r.p ++ pn r.m ++ pn r.c ++ pn r.n ++ pn r.t = str (inner9 r) by
    rw [show (ByteArray.mk #[86]) = str [86] from rfl]
    unfold pn
    simp only [str_app]
    unfold inner9 outTo nats
    simp)
  have Hrec := Lib.hid (show rec9 r = closed (inner9 r ++ noughts (118 - (inner9 r).length)) ++ six r.g.toNat from rfl)
  have hil : (inner9 r).length ≤ 22 := hlen
  have HCL := Lib.hid (show ∀ w, Calls Tryd.prog 46 #[.string (str (inner9 r ++ noughts (118 - (inner9 r).length)))] w fun e w' => e = .returned (.string (str (closed (inner9 r ++ noughts (118 - (inner9 r).length))))) ∧ Below w.heap.size w w' from fun w => rclose_any _ w (by rw [str_size, List.length_append, noughts_len]; omega))
  have scl : (str (closed (inner9 r ++ noughts (118 - (inner9 r).length)))).size ≤ 122 := by
    rw [str_size]
    unfold closed
    rw [List.length_append, List.length_append, noughts_len]
    simp only [tail4, List.length_cons, List.length_nil]
    omega
  have Hres := Lib.hid (show str (closed (inner9 r ++ noughts (118 - (inner9 r).length))) ++ str (six r.g.toNat) = str (rec9 r) by rw [str_app]; rfl)
  have cat : ∀ a b : ByteArray, a.size ≤ 200 → b.size ≤ 200 → ∀ W, (Op.stringOp .add a b).run Tryd.prog W = .ok (.string (a ++ b)) W := fun a b ha hb W => run_string_add W a b (by omega) (by omega)
  have y0 : (ByteArray.mk #[86]).size ≤ 1 := Nat.le_refl _
  have q0 := cat ((ByteArray.mk #[86])) (str (six r.g.toNat)) (by omega) (by omega)
  have y1 : ((ByteArray.mk #[86]) ++ str (six r.g.toNat)).size ≤ 7 := by rw [ByteArray.size_append]; omega
  have q1 := cat ((ByteArray.mk #[86]) ++ str (six r.g.toNat)) (pn r.p) (by omega) (by omega)
  have y2 : ((ByteArray.mk #[86]) ++ str (six r.g.toNat) ++ pn r.p).size ≤ 10 := by rw [ByteArray.size_append]; omega
  have q2 := cat ((ByteArray.mk #[86]) ++ str (six r.g.toNat) ++ pn r.p) (pn r.m) (by omega) (by omega)
  have y3 : ((ByteArray.mk #[86]) ++ str (six r.g.toNat) ++ pn r.p ++ pn r.m).size ≤ 13 := by rw [ByteArray.size_append]; omega
  have q3 := cat ((ByteArray.mk #[86]) ++ str (six r.g.toNat) ++ pn r.p ++ pn r.m) (pn r.c) (by omega) (by omega)
  have y4 : ((ByteArray.mk #[86]) ++ str (six r.g.toNat) ++ pn r.p ++ pn r.m ++ pn r.c).size ≤ 16 := by rw [ByteArray.size_append]; omega
  have q4 := cat ((ByteArray.mk #[86]) ++ str (six r.g.toNat) ++ pn r.p ++ pn r.m ++ pn r.c) (pn r.n) (by omega) (by omega)
  have y5 : ((ByteArray.mk #[86]) ++ str (six r.g.toNat) ++ pn r.p ++ pn r.m ++ pn r.c ++ pn r.n).size ≤ 19 := by rw [ByteArray.size_append]; omega
  have q5 := cat ((ByteArray.mk #[86]) ++ str (six r.g.toNat) ++ pn r.p ++ pn r.m ++ pn r.c ++ pn r.n) (pn r.t) (by omega) (by omega)
  have y6 : ((ByteArray.mk #[86]) ++ str (six r.g.toNat) ++ pn r.p ++ pn r.m ++ pn r.c ++ pn r.n ++ pn r.t).size ≤ 22 := by rw [ByteArray.size_append]; omega
  rw [Hcat.out] at q5
  generalize (ByteArray.mk #[86]) ++ str (six r.g.toNat) ++ pn r.p ++ pn r.m ++ pn r.c ++ pn r.n = O5 at *
  generalize (ByteArray.mk #[86]) ++ str (six r.g.toNat) ++ pn r.p ++ pn r.m ++ pn r.c = O4 at *
  generalize (ByteArray.mk #[86]) ++ str (six r.g.toNat) ++ pn r.p ++ pn r.m = O3 at *
  generalize (ByteArray.mk #[86]) ++ str (six r.g.toNat) ++ pn r.p = O2 at *
  generalize (ByteArray.mk #[86]) ++ str (six r.g.toNat) = O1 at *
  clear Hcat cat y0 y1 y2 y3 y4 y5 y6 sP sM sC sN sT
  clear Hrec hnat hlen hg0 hp0 hm0 hc0 hn0 ht0 h
  generalize str (rec9 r) = RES at *
  generalize hI : inner9 r = I at *
  clear hI
  generalize str (closed (I ++ noughts (118 - I.length))) = CL at *
  generalize str (six r.g.toNat) = G at *
  obtain ⟨g, p, m, c, n, t⟩ := r
  simp only [rtV] at *
  generalize pn = PN at *
  go_enter Tryd.func34, Tryd.ntmps34
  go_wp2_with fail
  refine (HI.out _).mono ?_
  rintro e w1 ⟨rfl, hb1⟩
  have hB1 := Lib.hid ((Box.new w 47 #[.int .i64 g, .int .i64 p, .int .i64 m, .int .i64 c, .int .i64 n, .int .i64 t]).under hb1)
  have Hb01 := Lib.hid (show Below w.heap.size w w1 from ((Below.refl _ _).alloc (Nat.le_refl _) _).trans (hb1.mono (by simp)))
  clear hb1
  obtain ⟨⟨k0, k1, k2, k3, k4, k5⟩, ⟨e0, e1, e2, e3, e4, e5⟩⟩ := Tk.Box.six hB1.out
  clear e0 e1 e2 e3 e4 e5
  have hs1 := Lib.hid Hb01.out.size
  go_wp2_with fail
  go_region_held3 (fun w' => w'.cell? ⟨w.heap.size, 0, none⟩ = some (.int .i64 g) ∧ w'.cell? ⟨w.heap.size, 1, none⟩ = some (.int .i64 p) ∧ w'.cell? ⟨w.heap.size, 2, none⟩ = some (.int .i64 m) ∧ w'.cell? ⟨w.heap.size, 3, none⟩ = some (.int .i64 c) ∧ w'.cell? ⟨w.heap.size, 4, none⟩ = some (.int .i64 n) ∧ w'.cell? ⟨w.heap.size, 5, none⟩ = some (.int .i64 t) ∧ Below w.heap.size w w')
    (first
      | exact ⟨k0, k1, k2, k3, k4, k5, Hb01.out.drew⟩
      | (go_split_ands; exact keep6 hbx ⟨by assumption, by assumption, by assumption, by assumption, by assumption, by assumption, by assumption⟩ (‹Below w.heap.size w _›).size))
    (first
      | (go_at_call 56; refine (HG.out _).mono ?_; rintro e wx ⟨rfl, hbx⟩)
      | (go_at_call 57; refine (HPN.out _ (by simp) _).mono ?_; rintro e wx ⟨rfl, hbx⟩))
  rename_i hHeld
  obtain ⟨c0, _, _, _, _, _, hbw⟩ := hHeld
  have Hbx := Lib.hid hbw
  have C0 := Lib.hid c0
  clear hbw c0 q0 q1 q2 q3 q4 q5
  generalize wx = wy at *
  clear HPN HG k0 k1 k2 k3 k4 k5
  have HG := HG2
  clear HG2
  go_wp2_with fail
  go_loopw [3] (fun v3 wr => ∃ j : Nat, I.length + j ≤ 118 ∧ v3 = .string (str (I ++ noughts j)) ∧ wr.cell? ⟨w.heap.size, 0, none⟩ = some (.int .i64 g) ∧ Below w.heap.size w wr) (fun v3 _ => 118 - textLen v3)
  case atStart => exact ⟨0, by omega, by simp [noughts], C0.out, Hbx.out⟩
  case round =>
    obtain ⟨j, hj, rfl, hcr, hbr⟩ := hrel
    have hsz : (str (I ++ noughts j)).size = I.length + j := by rw [str_size, List.length_append, noughts_len]
    by_cases hlt : I.length + j < 118
    · have hcat : str (I ++ noughts j) ++ ⟨#[0]⟩ = str (I ++ noughts (j + 1)) := by
        rw [show (ByteArray.mk #[0]) = str [0] from rfl, str_app, List.append_assoc]
        unfold noughts
        rw [List.replicate_succ']
      have hsz2 : (str (I ++ noughts (j + 1))).size = I.length + (j + 1) := by rw [str_size, List.length_append, noughts_len]
      have hd : decide (((I.length + j : Nat) : Int) < 118) = true := by simp; omega
      have Hc := Lib.hid hcr
      have Hb := Lib.hid hbr
      have Hs := Lib.hid hsz
      have Hs2 := Lib.hid hsz2
      have hrun : ∀ W, (Op.stringOp .add (str (I ++ noughts j)) ⟨#[0]⟩).run Tryd.prog W = .ok (.string (str (I ++ noughts (j + 1)))) W := fun W => by
        rw [← hcat]
        exact run_string_add W _ _ (by rw [hsz]; omega) (by decide)
      clear hcr hbr hcat hsz2
      generalize hX : str (I ++ noughts j) = X at *
      have HX := Lib.hid hX
      clear hX
      go_wp2_with fail
      refine ⟨⟨j + 1, by omega, rfl, Hc.out, Hb.out⟩, ?_⟩
      simp only [textLen]
      rw [Hs2.out, Hs.out]
      omega
    · have hje : j = 118 - I.length := by omega
      subst hje
      have hd : decide (((I.length + (118 - I.length) : Nat) : Int) < 118) = false := by simp; omega
      clear hj hlt
      have Hb := Lib.hid hbr
      generalize str (I ++ noughts (118 - I.length)) = X at *
      have qf : ∀ W, (Op.stringOp .add CL G).run Tryd.prog W = .ok (.string RES) W := fun W => by
        rw [← Hres.out]
        exact run_string_add W _ _ (by omega) (by omega)
      have hk0 := hcr
      clear Hres scl hbr
      go_wp2_with fail
      go_region_held3 (fun w' => w'.cell? ⟨w.heap.size, 0, none⟩ = some (.int .i64 g) ∧ Below w.heap.size w w')
        (first
          | exact ⟨hk0, Hb.out.drew⟩
          | (go_split_ands; exact ⟨cell_keep hbx ‹_›, (‹Below w.heap.size w _›).trans (hbx.mono (‹Below w.heap.size w _›).size)⟩))
        (first
          | (go_at_call 56; refine (HG.out _).mono ?_; rintro e wx ⟨rfl, hbx⟩)
          | (go_at_call 46; refine (HCL.out _).mono ?_; rintro e wx ⟨rfl, hbx⟩))
      rename_i hHeld
      obtain ⟨c0, hbw⟩ := hHeld
      have Hbx := Lib.hid hbw
      clear hbw c0 qf hk0
      generalize wx = wy at *
      go_wp2_with fail
      go_ret
      exact ⟨rfl, Hbx.out⟩

end Go.Proofs.YtpgmbpjjefecdaaDoor.Sl
