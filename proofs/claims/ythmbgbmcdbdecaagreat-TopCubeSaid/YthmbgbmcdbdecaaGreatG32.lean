/- Parts of a proof: Layer 26: a builder, as it lies in memory while it works. Layer 26: the cell of a part. Layer 26: the cell of a part, where a further dimension follows. Layer 26: what stays while a dimension's function works. -/
import Derived.Test.YthmbgbmcdbdecaaGreatG26
import Derived.Test.YthmbgbmcdbdecaaGreatG29
import Derived.Test.YthmbgbmcdbdecaaGreatG31
namespace Go.Proofs.YthmbgbmcdbdecaaGreat.Tc
open Go.RowKit Base Go.Maps Go.WideMaps
set_option linter.unusedVariables false
set_option linter.unusedSimpArgs false
def NmOk (p : Nat × List Nat) : Prop := p.1 < 256 ∧ ∀ i ∈ p.2, i < 65536
theorem u8_inj {a b : Nat} (ha : a < 256) (hb : b < 256) (h : UInt8.ofNat a = UInt8.ofNat b) : a = b := by
 have := congrArg UInt8.toNat h
 simp at this
 omega
theorem pair_inj {a b : Nat} (ha : a < 65536) (hb : b < 65536) (h1 : UInt8.ofNat (a / 256) = UInt8.ofNat (b / 256)) (h2 : UInt8.ofNat a = UInt8.ofNat b) : a = b := by
 have e1 := congrArg UInt8.toNat h1
 have e2 := congrArg UInt8.toNat h2
 simp at e1 e2
 omega
theorem nameP_inj : ∀ {x y : List Nat}, (∀ i ∈ x, i < 65536) → (∀ i ∈ y, i < 65536) → (x.flatMap fun i => [UInt8.ofNat (i / 256), UInt8.ofNat i]) = (y.flatMap fun i => [UInt8.ofNat (i / 256), UInt8.ofNat i]) → x = y
 | [], [], _, _, _ => rfl
 | [], b :: y, _, _, h => by rw [List.flatMap_nil, List.flatMap_cons] at h; cases h
 | a :: x, [], _, _, h => by rw [List.flatMap_nil, List.flatMap_cons] at h; cases h
 | a :: x, b :: y, hx, hy, h => by
  rw [List.flatMap_cons, List.flatMap_cons] at h
  injection h with h1 h
  injection h with h2 h
  have e := pair_inj (hx a List.mem_cons_self) (hy b List.mem_cons_self) h1 h2
  have e2 := nameP_inj (fun i hi => hx i (List.mem_cons_of_mem _ hi)) (fun i hi => hy i (List.mem_cons_of_mem _ hi)) h
  rw [e, e2]
theorem nameL_inj {p q : Nat × List Nat} (hp : NmOk p) (hq : NmOk q) (h : nameL p.1 p.2 = nameL q.1 q.2) : p = q := by
 unfold nameL at h
 injection h with h1 h2
 exact Prod.ext (u8_inj hp.1 hq.1 h1) (nameP_inj hp.2 hq.2 h2)
abbrev nmK (p : Nat × List Nat) : Lit := .string (nameL p.1 p.2)
structure AtNm (D : DataW Unit) (parts : List (Nat × List Nat)) : Prop where
 map : IsMap D
 at_ : ∀ p, NmOk p → D.atKey (nmK p) (.lit (.int .i64 0)) = .lit (.int .i64 (((findP p.1 p.2 parts).getD 0 : Nat) : Int))
 has : ∀ p, NmOk p → Maps.has D (nmK p) = (findP p.1 p.2 parts).isSome
theorem AtNm.nil : AtNm (.map [] : DataW Unit) [] := ⟨isMap_empty, fun p _ => rfl, fun p _ => rfl⟩
theorem find_snoc_same {parts : List (Nat × List Nat)} {p : Nat × List Nat} (h : findP p.1 p.2 parts = none) : findP p.1 p.2 (parts ++ [p]) = some parts.length := by
 unfold findP at *
 rw [List.findIdx?_append, h]
 simp
theorem find_snoc_other {parts : List (Nat × List Nat)} {p q : Nat × List Nat} (h : q ≠ p) : findP q.1 q.2 (parts ++ [p]) = findP q.1 q.2 parts := by
 unfold findP
 rw [List.findIdx?_append]
 have : ([p].findIdx? fun x => x == (q.1, q.2)) = none := by
  have : (p == q) = false := by simp; exact fun e => h e.symm
  simp [List.findIdx?_cons, this]
 rw [this]
 simp
theorem AtNm.put {D : DataW Unit} {parts : List (Nat × List Nat)} (h : AtNm D parts) {p : Nat × List Nat} (hp : NmOk p) (hn : findP p.1 p.2 parts = none) : AtNm (D.put (nmK p) (.lit (.int .i64 ((parts.length : Nat) : Int)))) (parts ++ [p]) := by
 have hk : WideAt.IsKeyLit (nmK p) := trivial
 refine ⟨h.map.put _ _, fun q hq => ?_, fun q hq => ?_⟩
 ·by_cases e : q = p
  ·subst e
   rw [atKey_put_same h.map hk, find_snoc_same hn]
   rfl
  ·rw [atKey_put_other (fun hh => e (nameL_inj hq hp (by injection hh))), find_snoc_other e]
   exact h.at_ q hq
 ·by_cases e : q = p
  ·subst e
   rw [has_put_same h.map hk, find_snoc_same hn]
   rfl
  ·rw [has_put_other (fun hh => e (nameL_inj hq hp (by injection hh))), find_snoc_other e]
   exact h.has q hq
def MetP (w : World) (g : Nat) (parts : List (Nat × List Nat)) : Prop := ∃ D : DataW Unit, w.ownsMap Tryz.prog 9 (plainElem Tryz.prog 3) g parts.length D ∧ AtNm D parts
theorem MetP.lt {w : World} {g : Nat} {parts : List (Nat × List Nat)} (h : MetP w g parts) : g < w.heap.size := by
 obtain ⟨D, h1, _⟩ := h
 exact h1.lt
theorem MetP.same {w w' : World} {g : Nat} {parts : List (Nat × List Nat)} (h : MetP w g parts) (hs : w'.heap[g]? = w.heap[g]?) : MetP w' g parts := by
 obtain ⟨D, ⟨es, cl, h1, h2⟩, h3⟩ := h
 exact ⟨D, ⟨es, cl, hs.trans h1, h2⟩, h3⟩
structure Bc where
 B : Nat
 gb : Nat
 ga : Nat
 gm : Nat
 Af : Option Addr
 fs : List Fa
 cf : Nat
 Al : Option Addr
 rs : List Rn
 cl : Nat
 As : Option Addr
 xs : List Fa
 cs : Nat
 m : Nat
 most : Nat
def Bc.ps (b : Bc) : List (List Nat × Ag) := pls b.fs
def Bc.lifts (b : Bc) : List (List (List Nat)) := b.rs.map fun r => r.fs.map Fa.keys
def Bc.X (b : Bc) : List (List Nat) := b.xs.map Fa.keys
structure Bc.Ok (b : Bc) : Prop where
 cfg : Cfg b.ps b.lifts b.X b.m
 fit : ∀ f ∈ b.fs, FitAg f.ag
 most : b.most ≤ 1000000
 bB : b.gb < b.B
 aB : b.ga < b.B
 mB : b.gm < b.B
 ba : b.gb ≠ b.ga
 bm : b.gb ≠ b.gm
 am : b.ga ≠ b.gm
def Bc.own (b : Bc) (k : Nat) : Prop := k = b.gb ∨ k = b.ga ∨ k = b.gm
structure Bc.Ro (b : Bc) (w : World) : Prop where
 facts : FasAt w b.B b.Af b.fs
 lifts : LfsAt w b.B b.Al b.rs
 shape : IlsAt w b.B b.As b.xs
 ff : ∀ k, foot b.Af b.fs k → ¬ b.own k
 fl : ∀ k, footL b.Al b.rs k → ¬ b.own k
 fx : ∀ k, foot b.As b.xs k → ¬ b.own k
theorem Bc.Ro.same {b : Bc} {w w' : World} (h : b.Ro w) (hs : ∀ k, k < b.B → ¬ b.own k → w'.heap[k]? = w.heap[k]?) : b.Ro w' :=
 ⟨h.facts.same (fun k hk => hs k (h.facts.foot_lt hk) (h.ff k hk)), h.lifts.same (fun k hk => hs k (h.lifts.foot_lt hk) (h.fl k hk)), h.shape.same (fun k hk => hs k (h.shape.foot_lt hk) (h.fx k hk)), h.ff, h.fl, h.fx⟩
def Foot (A : Option Addr) (vs : List Value) (k : Nat) : Prop := vs ≠ [] ∧ ∃ off, A = some ⟨k, off, none⟩
def ndFoot (n : Nd) (k : Nat) : Prop := Foot n.A (n.ls.map llV) k ∨ ∃ l ∈ n.ls, Foot l.A (l.cs.flatMap clV) k
structure Bc.Dy (b : Bc) (w : World) (F : Nat → Prop) (An : Option Addr) (cn : Nat) (nds : List Nd) (st : St) (err : Nat) : Prop where
 line : b.B ≤ w.heap.size
 fF : ∀ k, F k → b.B ≤ k ∨ b.own k
 fo : ∀ k, b.own k → F k
 flt : ∀ k, F k → k < w.heap.size
 bbox : Box w b.gb 92 #[.slice b.Af b.fs.length b.cf, .slice b.Al b.rs.length b.cl, .pointer (some ⟨b.ga, 0, none⟩), .map (some b.gm), .int .i64 (err : Nat)]
 abox : Box w b.ga 138 (arC b.As b.xs.length b.cs b.m An nds.length cn b.most)
 nodes : NdsOwn w b.B (.slice An nds.length cn) nds
 frow : ∀ k, (Value.slice An nds.length cn).ownBlock = some k → F k
 finn : ∀ n ∈ nds, ∀ k, ndFoot n k → F k
 plain : nds.map plN = st.nodes
 most : nds.length ≤ b.most
 len : st.parts.length = st.nodes.length
 met : MetP w b.gm st.parts
def more (F : Nat → Prop) (w w' : World) (k : Nat) : Prop := F k ∨ (w.heap.size ≤ k ∧ k < w'.heap.size)
structure Kept (F : Nat → Prop) (w w' : World) : Prop where
 size : w.heap.size ≤ w'.heap.size
 block : ∀ k, F k → k < w.heap.size → w'.heap[k]? = w.heap[k]?
theorem Kept.trans {F : Nat → Prop} {a b c : World} (h : Kept F a b) (k : Kept F b c) : Kept F a c := ⟨Nat.le_trans h.size k.size, fun i hi hl => (k.block i hi (Nat.lt_of_lt_of_le hl h.size)).trans (h.block i hi hl)⟩
theorem Kept.below {F : Nat → Prop} {w w' : World} (hb : Below w.heap.size w w') : Kept F w w' := ⟨hb.size, fun k _ hk => hb.block k hk⟩
theorem Kept.set {F : Nat → Prop} (w : World) (p : Addr) (u : Value) (hp : ¬ F p.block) : Kept F w (w.setCell p u) := ⟨by simp, fun k hk _ => Below.heap_setCell w p u k (fun e => hp (e ▸ hk))⟩
theorem Kept.app {F : Nat → Prop} {w w' : World} {v v' : Value} (h : App w w' v v') (hv : ∀ k, v.ownBlock = some k → ¬ F k) : Kept F w w' := ⟨h.grown.size, fun k hk hl => h.farK hl (fun e => hv k e hk)⟩
theorem row_foot {w w' : World} {B : Nat} {A : Option Addr} {vs : List Value} (h : Row w B A vs) (hs : ∀ k, Foot A vs k → w'.heap[k]? = w.heap[k]?) : Row w' B A vs := row_same h (fun k off e hne => hs k ⟨hne, off, e⟩)
theorem Row.foot_lt {w : World} {B : Nat} {A : Option Addr} {vs : List Value} (h : Row w B A vs) {k : Nat} (hk : Foot A vs k) : k < B := by
 obtain ⟨hne, off, e⟩ := hk
 rcases h with h0 | ⟨b', off', e', hb, _⟩
 ·exact absurd h0 hne
 ·rw [e] at e'
  injection e' with e'
  injection e' with e1 _ _
  omega
theorem own_same {w w' : World} {B : Nat} {e : TypeId} {sz n : Nat} {v : Value} {xs : List Value} (h : w.ownsRow B e sz v n xs) (hs : ∀ k, v.ownBlock = some k → w'.heap[k]? = w.heap[k]?) : w'.ownsRow B e sz v n xs := by
 obtain ⟨h1, h2⟩ := h
 refine ⟨h1, ?_⟩
 rcases h2 with h2 | ⟨g, cap, cur, e, hB, hh, r⟩
 ·exact .inl h2
 ·exact .inr ⟨g, cap, cur, e, hB, (hs g (by rw [e]; rfl)).trans hh, r⟩
theorem ap_same {w w' : World} {v : Value} {A : Option Addr} {vs : List Value} (h : Ap w v A vs) (hz : w.heap.size ≤ w'.heap.size) (hs : ∀ k, Foot A vs k → w'.heap[k]? = w.heap[k]?) : Ap w' v A vs := ⟨(row_foot h.1 hs).more hz, h.2⟩
theorem Bc.Dy.keep {b : Bc} {w w' : World} {F : Nat → Prop} {An : Option Addr} {cn : Nat} {nds : List Nd} {st : St} {err : Nat} (h : b.Dy w F An cn nds st err) (hk : Kept F w w') : b.Dy w' F An cn nds st err where
 line := Nat.le_trans h.line hk.size
 fF := h.fF
 fo := h.fo
 flt := fun k hf => Nat.lt_of_lt_of_le (h.flt k hf) hk.size
 bbox := (hk.block b.gb (h.fo _ (.inl rfl)) h.bbox.lt).trans h.bbox
 abox := (hk.block b.ga (h.fo _ (.inr (.inl rfl))) h.abox.lt).trans h.abox
 nodes := ⟨own_same h.nodes.1 (fun k hv => hk.block k (h.frow k hv) (h.nodes.1.lt k hv).2), fun n hn => ⟨⟨ap_same (h.nodes.2 n hn).1.1 hk.size (fun k hf => hk.block k (h.finn n hn k (.inl hf)) (h.flt k (h.finn n hn k (.inl hf)))),
  fun l hl => ap_same ((h.nodes.2 n hn).1.2 l hl) hk.size (fun k hf => hk.block k (h.finn n hn k (.inr ⟨l, hl, hf⟩)) (h.flt k (h.finn n hn k (.inr ⟨l, hl, hf⟩))))⟩, (h.nodes.2 n hn).2⟩⟩
 frow := h.frow
 finn := h.finn
 plain := h.plain
 most := h.most
 len := h.len
 met := h.met.same (hk.block b.gm (h.fo _ (.inr (.inr rfl))) h.met.lt)
theorem Bc.Dy.wide {b : Bc} {w : World} {F F' : Nat → Prop} {An : Option Addr} {cn : Nat} {nds : List Nd} {st : St} {err : Nat} (h : b.Dy w F An cn nds st err) (hF : ∀ k, F k → F' k) (h1 : ∀ k, F' k → b.B ≤ k ∨ b.own k) (h2 : ∀ k, F' k → k < w.heap.size) : b.Dy w F' An cn nds st err :=
 ⟨h.line, h1, fun k hk => hF k (h.fo k hk), h2, h.bbox, h.abox, h.nodes, fun k hk => hF k (h.frow k hk), fun n hn k hk => hF k (h.finn n hn k hk), h.plain, h.most, h.len, h.met⟩
end Go.Proofs.YthmbgbmcdbdecaaGreat.Tc
namespace Go.Proofs.YthmbgbmcdbdecaaGreat.Tc
open Go.RowKit Base
set_option linter.unusedVariables false
set_option linter.unusedSimpArgs false
theorem turn_far {p : Nat → Prop} {a b : World} (h : Turn p a b) {q : Addr} (hq : a.heap.size ≤ q.block) (v : Value) : Turn p a (b.setCell q v) :=
 have k := (Below.refl 0 b).setCell (p := q) (Nat.zero_le _) v
 ⟨k.os.trans h.os, k.tape.trans h.tape, k.output.trans h.output, Nat.le_trans h.size k.size, fun i hi hp => (Below.heap_setCell b q v i (by omega)).trans (h.block i hi hp)⟩
theorem turn_farAll {p : Nat → Prop} {a : World} {g : Nat} (hg : a.heap.size ≤ g) : ∀ (vs : List Value) (b : World) (o : Nat), Turn p a b → Turn p a (setAll b g o vs)
 | [], _, _, h => h
 | v :: vs, b, o, h => turn_farAll hg vs _ _ (turn_far h (q := ⟨g, o, none⟩) hg v)
theorem turn_app {p : Nat → Prop} {a b c : World} {v v' : Value} (h : Turn p a b) (k : App b c v v') (hv : ∀ j, v.ownBlock = some j → a.heap.size ≤ j) : Turn p a c :=
 ⟨k.grown.os.trans h.os, k.grown.tape.trans h.tape, k.grown.output.trans h.output, Nat.le_trans h.size k.grown.size, fun i hi hp => (k.farK (Nat.lt_of_lt_of_le hi h.size) (fun e => by have := hv i e; omega)).trans (h.block i hi hp)⟩
theorem kept_setAll {F : Nat → Prop} {g : Nat} (hg : ¬ F g) : ∀ (vs : List Value) (w : World) (o : Nat), Kept F w (setAll w g o vs)
 | [], _, _ => ⟨Nat.le_refl _, fun _ _ _ => rfl⟩
 | v :: vs, w, o => (Kept.set w ⟨g, o, none⟩ v hg).trans (kept_setAll hg vs _ _)
theorem Bc.Ro.turn {b : Bc} {w w' : World} {F : Nat → Prop} (h : b.Ro w) (ht : Turn F w w') (hB : b.B ≤ w.heap.size) (hF : ∀ k, F k → b.B ≤ k ∨ b.own k) : b.Ro w' :=
 h.same fun k hk hn => ht.block k (by omega) (fun hf => (hF k hf).elim (fun h1 => by omega) (fun h1 => hn h1))
theorem more_sub {F : Nat → Prop} {w w1 w2 w' : World} (h1 : w.heap.size ≤ w1.heap.size) (h2 : w2.heap.size ≤ w'.heap.size) {k : Nat} (h : more F w1 w2 k) : more F w w' k := by
 rcases h with h | ⟨h3, h4⟩
 ·exact .inl h
 ·exact .inr ⟨by omega, by omega⟩
structure Did (b : Bc) (F : Nat → Prop) (w w' : World) (An' : Option Addr) (cn' : Nat) (nds' : List Nd) (st' : St) (err' : Nat) : Prop where
 dy : b.Dy w' (more F w w') An' cn' nds' st' err'
 turn : Turn F w w'
def NodeRet (b : Bc) (f : Rec) (F : Nat → Prop) (err : Nat) (st : St) (part : List Nat) (w : World) (e : Ending) (w' : World) : Prop :=
 ∃ (i : Nat) (An' : Option Addr) (cn' : Nat) (nds' : List Nd) (st' : St) (err' : Nat), e = .returned (.int .i64 (i : Nat)) ∧ Did b F w w' An' cn' nds' st' err' ∧
  (err = 0 → ∀ r, f part st = some r → err' = 0 ∧ st' = r.1 ∧ i = r.2) ∧ (err = 0 → f part st = none → err' = 7) ∧ (err = 7 → err' = 7) ∧ (err' = 0 ∨ err' = 7)
def CellRet (b : Bc) (f : Option Rec) (F : Nat → Prop) (err key : Nat) (st : St) (part : List Nat) (w : World) (e : Ending) (w' : World) : Prop :=
 ∃ (c : Cl) (An' : Option Addr) (cn' : Nat) (nds' : List Nd) (st' : St) (err' : Nat), e = .returned (.agg (clC c)) ∧ Did b F w w' An' cn' nds' st' err' ∧
  (err = 0 → ∀ r, cellV b.ps f key part st = some r → err' = 0 ∧ st' = r.1 ∧ c = r.2) ∧ (err = 0 → cellV b.ps f key part st = none → err' = 7) ∧ (err = 7 → err' = 7) ∧ (err' = 0 ∨ err' = 7)
structure Start (b : Bc) (F : Nat → Prop) (An : Option Addr) (cn : Nat) (nds : List Nd) (st : St) (err : Nat) (Ap : Option Addr) (part : List Nat) (w : World) : Prop where
 ro : b.Ro w
 dy : b.Dy w F An cn nds st err
 row : Row w w.heap.size Ap (natV part)
 off : ∀ k, Foot Ap (natV part) k → ¬ F k
 pt : PtOk b.ps part
 er : err = 0 ∨ err = 7
 good : err = 0 → Good b.ps b.lifts b.X.length st
theorem Start.below {b : Bc} {F : Nat → Prop} {An : Option Addr} {cn : Nat} {nds : List Nd} {st : St} {err : Nat} {Ap : Option Addr} {part : List Nat} {w w' : World} (h : Start b F An cn nds st err Ap part w) (hb : Below w.heap.size w w') : Start b F An cn nds st err Ap part w' :=
 ⟨h.ro.same (fun k hk _ => hb.block k (by have := h.dy.line; omega)), h.dy.keep (Kept.below hb), (h.row.below hb).more hb.size, h.off, h.pt, h.er, h.good⟩
def NodeSpec (b : Bc) (at_ : Nat) (f : Rec) : Prop := ∀ F An cn nds st err Ap cp part w, Start b F An cn nds st err Ap part w →
 Calls Tryz.prog 31 #[.pointer (some ⟨b.gb, 0, none⟩), .int .i64 (at_ : Nat), .slice Ap part.length cp] w (NodeRet b f F err st part w)
def CellSpec (b : Bc) (at_ : Nat) (f : Option Rec) : Prop := ∀ F An cn nds st err Ap cp key part w, Start b F An cn nds st err Ap part w →
 Calls Tryz.prog 66 #[.pointer (some ⟨b.gb, 0, none⟩), .int .i64 (at_ : Nat), .int .i64 (key : Nat), .slice Ap part.length cp] w (CellRet b f F err key st part w)
theorem part_len {b : Bc} (hb : b.Ok) {part : List Nat} (h : PtOk b.ps part) : part.length ≤ 1000 := by
 have := nodup_sub_len part (List.range b.ps.length) h.nd (fun i hi => List.mem_range.2 (h.lt i hi))
 rw [List.length_range] at this
 have := hb.cfg.nps
 omega
theorem fs_len {b : Bc} : b.ps.length = b.fs.length := by unfold Bc.ps pls; rw [List.length_map]
theorem rs_len {b : Bc} (hb : b.Ok) : b.rs.length = b.X.length := by
 have := hb.cfg.len
 unfold Bc.lifts at this
 rw [List.length_map] at this
 exact this
set_option maxRecDepth 100000 in
set_option maxHeartbeats 8000000 in
theorem cell_last (b : Bc) (hb : b.Ok) (at_ : Nat) (hat : at_ + 1 = b.X.length) : CellSpec b at_ none := by
 intro F An cn nds st err Ap cp key part w hs
 have HQ := kp (show ∀ (c : Cl) w', Did b F w w' An cn nds st err → c = ⟨key, 0, (sumP b.ps part).getD agZero⟩ → CellRet b none F err key st part w (.returned (.agg (clC c))) w' from fun c w' h1 h2 =>
  ⟨c, An, cn, nds, st, err, rfl, h1, fun h r hr => by unfold cellV at hr; injection hr with hr; subst hr; exact ⟨h, rfl, h2⟩, fun h hr => by (unfold cellV at hr; cases hr), fun h => h, hs.er⟩)
 obtain ⟨r, hr, hro⟩ := hb.cfg.sums part hs.pt
 have hpl := part_len hb hs.pt
 have hfl : b.fs.length ≤ 1000 := by have := hb.cfg.nps; rw [fs_len] at this; exact this
 have hin := hs.pt.lt
 rw [fs_len] at hin
 have HS := kp (fun w h1 h2 h3 => sum_any b.gb b.Af Ap b.fs b.cf cp (.slice b.Al b.rs.length b.cl) (.pointer (some ⟨b.ga, 0, none⟩)) (.map (some b.gm)) (.int .i64 (err : Nat)) part w h1 h2 h3 (by omega) (by omega) hin hb.fit r hr)
 have hbz := (Below.refl w.heap.size w).alloc (Nat.le_refl _) (.cells #[.int .i64 0, .int .i64 0, .int .i64 0, .int .i64 0, .int .i64 0, .int .i64 0, .int .i64 0, .int .i64 0, .int .i64 0, .int .i64 0, .int .i64 0, .int .i64 0] 106)
 have HB := kp (Box.new w 106 #[.int .i64 0, .int .i64 0, .int .i64 0, .int .i64 0, .int .i64 0, .int .i64 0, .int .i64 0, .int .i64 0, .int .i64 0, .int .i64 0, .int .i64 0, .int .i64 0])
 have Hs := kp hs
 have Hs1 := kp (hs.below hbz)
 have Hbz := kp hbz
 have hrl := rs_len hb
 have Hr := kp hr
 have hX16 := hb.cfg.n16
 clear hs hbz hr
 generalize hQ : CellRet b none F err key st part w = Q at *
 clear hQ
 generalize hW1 : w.alloc (.cells #[.int .i64 0, .int .i64 0, .int .i64 0, .int .i64 0, .int .i64 0, .int .i64 0, .int .i64 0, .int .i64 0, .int .i64 0, .int .i64 0, .int .i64 0, .int .i64 0] 106) = W1 at *
 obtain ⟨x0, x1, x4⟩ : W1.cell? ⟨b.gb, 0, none⟩ = some (.slice b.Af b.fs.length b.cf) ∧ W1.cell? ⟨b.gb, 1, none⟩ = some (.slice b.Al b.rs.length b.cl) ∧ True := ⟨Hs1.out.dy.bbox.cell 0, Hs1.out.dy.bbox.cell 1, trivial⟩
 have HSk := kp (HS.out W1 Hs1.out.dy.bbox ((Hs1.out.ro.facts.more Hs1.out.dy.line)) Hs1.out.row)
 have q1 : ((at_ : Int) == (b.rs.length : Int) - 1) = true := by simp; omega
 have hw : IntKind.i64.wrap ((b.rs.length : Int) - 1) = (b.rs.length : Int) - 1 := IntWalk.i64_in _ (by omega)
 generalize b.rs.length = rl at *
 clear hrl hX16 hpl hfl hin hro hb hat
 go_enter Tryz.func66, Tryz.ntmps66
 go_wp2_with fail
 refine HSk.out.mono ?_
 rintro e w2 ⟨rfl, hb2⟩
 have HB2 := kp (HB.out.under hb2)
 have Hb2 := kp hb2
 clear hb2 x0 x1 x4 hW1 HSk
 obtain ⟨⟨r0, r1, r2, r3, r4, r5, r6, r7, r8, r9, r10, r11⟩, ⟨f0, f1, f2, f3, f4, f5, f6, f7, f8, f9, f10, f11⟩⟩ := Box.twelve HB2.out
 obtain ⟨Wf, hWf⟩ : ∃ Wf, setAll w2 w.heap.size 0 [.int .i64 (key : Nat), .int .i64 0, .int .i64 r.c, .int .i64 r.s0, .int .i64 r.n0, .int .i64 r.x0, .int .i64 r.s1, .int .i64 r.n1, .int .i64 r.x1, .int .i64 r.s2, .int .i64 r.n2, .int .i64 r.x2] = Wf := ⟨_, rfl⟩
 have Hbf := kp (show Box Wf w.heap.size 106 (clC ⟨key, 0, r⟩) by rw [← hWf]; exact box_setAll0 HB2.out _ rfl)
 have Hdid := kp (show Did b F w Wf An cn nds st err by
  have hnF : ¬ F w.heap.size := fun h => by have := Hs.out.dy.flt _ h; omega
  have hk : Kept F w Wf := by rw [← hWf]; exact (Kept.below (Hbz.out.trans (Hb2.out.mono Hbz.out.size))).trans (kept_setAll hnF _ _ _)
  have hd := Hs.out.dy.keep hk
  refine ⟨hd.wide (fun k h => .inl h) (fun k h => ?_) (fun k h => ?_), ?_⟩
  ·rcases h with h | ⟨h, _⟩
   ·exact hd.fF k h
   ·exact .inl (Nat.le_trans Hs.out.dy.line h)
  ·rcases h with h | ⟨_, h⟩
   ·exact hd.flt k h
   ·exact h
  ·rw [← hWf]
   exact turn_farAll (Nat.le_refl _) _ _ _ (Turn.below (Hbz.out.trans (Hb2.out.mono Hbz.out.size))))
 simp only [setAll, Nat.zero_add, Nat.reduceAdd] at hWf
 have Hfin := kp (HQ.out ⟨key, 0, r⟩ Wf Hdid.out (by rw [Hr.out]; rfl))
 obtain ⟨z0, z1, z2, z3, z4, z5, z6, z7, z8, z9, z10, z11⟩ := (Box.twelve Hbf.out).1
 clear Hbf Hdid HQ Hr HB HB2 Hs Hs1 Hbz Hb2 HS
 go_wp2_with fail
 refine bodyPost_ret (v := .agg (clC ⟨key, 0, r⟩)) ?_ rfl Hfin.out
 simp [results, Tryz.results66, go_sem, z0, z1, z2, z3, z4, z5, z6, z7, z8, z9, z10, z11]
theorem Did.set {b : Bc} {F : Nat → Prop} {w w1 w2 : World} {An : Option Addr} {cn : Nat} {nds : List Nd} {st : St} {err : Nat} (h : Did b F w1 w2 An cn nds st err) (hb : Below w.heap.size w w1) (hB : b.B ≤ w.heap.size) (hF : ∀ k, F k → k < w.heap.size) {g : Nat} (hg : w.heap.size ≤ g) (hg1 : g < w1.heap.size) (o : Nat) (vs : List Value) : Did b F w (setAll w2 g o vs) An cn nds st err := by
 have hnF : ¬ more F w1 w2 g := fun hk => by
  rcases hk with hk | ⟨hk, _⟩
  ·have := hF g hk; omega
  ·omega
 have hk : Kept (more F w1 w2) w2 (setAll w2 g o vs) := kept_setAll hnF _ _ _
 have hd := h.dy.keep hk
 refine ⟨hd.wide (fun k h' => more_sub hb.size hk.size h') (fun k h' => ?_) (fun k h' => ?_), turn_farAll hg _ _ _ ((Turn.below hb).trans h.turn)⟩
 ·rcases h' with h' | ⟨h', _⟩
  ·exact hd.fF k (.inl h')
  ·exact .inl (Nat.le_trans hB h')
 ·rcases h' with h' | ⟨_, h'⟩
  ·exact hd.flt k (.inl h')
  ·exact h'
set_option maxRecDepth 100000 in
set_option maxHeartbeats 8000000 in
theorem cell_inner (b : Bc) (hb : b.Ok) (at_ : Nat) (hat : at_ + 1 < b.X.length) (f : Rec) (hf : NodeSpec b (at_ + 1) f) : CellSpec b at_ (some f) := by
 intro F An cn nds st err Ap cp key part w hs
 have HQ := kp (show ∀ (i : Nat) (An' : Option Addr) (cn' : Nat) (nds' : List Nd) (st' : St) (err' : Nat) w', Did b F w w' An' cn' nds' st' err' →
  ((err = 0 → ∀ r, f part st = some r → err' = 0 ∧ st' = r.1 ∧ i = r.2) ∧ (err = 0 → f part st = none → err' = 7) ∧ (err = 7 → err' = 7) ∧ (err' = 0 ∨ err' = 7)) → CellRet b (some f) F err key st part w (.returned (.agg (clC ⟨key, i, agZero⟩))) w' from fun i An' cn' nds' st' err' w' h1 h2 =>
  ⟨⟨key, i, agZero⟩, An', cn', nds', st', err', rfl, h1, fun h r hr => by
   unfold cellV at hr
   obtain ⟨q, hq, e⟩ := Option.map_eq_some_iff.1 hr
   obtain ⟨k1, k2, k3⟩ := h2.1 h q hq
   subst e
   exact ⟨k1, k2, by rw [k3]⟩, fun h hr => by
   unfold cellV at hr
   exact h2.2.1 h (Option.map_eq_none_iff.1 hr), h2.2.2.1, h2.2.2.2⟩)
 have hbz := (Below.refl w.heap.size w).alloc (Nat.le_refl _) (.cells #[.int .i64 0, .int .i64 0, .int .i64 0, .int .i64 0, .int .i64 0, .int .i64 0, .int .i64 0, .int .i64 0, .int .i64 0, .int .i64 0, .int .i64 0, .int .i64 0] 106)
 have HB := kp (Box.new w 106 #[.int .i64 0, .int .i64 0, .int .i64 0, .int .i64 0, .int .i64 0, .int .i64 0, .int .i64 0, .int .i64 0, .int .i64 0, .int .i64 0, .int .i64 0, .int .i64 0])
 have hs1 := hs.below hbz
 have Hbz := kp hbz
 have HSk := kp (hf F An cn nds st err Ap cp part _ hs1)
 have HB1 := kp hs1.dy.bbox
 have Hline := kp hs.dy.line
 have Hflt := kp hs.dy.flt
 have hrl := rs_len hb
 have hX16 := hb.cfg.n16
 clear hs hbz hs1
 generalize hQ : CellRet b (some f) F err key st part w = Q at *
 clear hQ
 generalize hW1 : w.alloc (.cells #[.int .i64 0, .int .i64 0, .int .i64 0, .int .i64 0, .int .i64 0, .int .i64 0, .int .i64 0, .int .i64 0, .int .i64 0, .int .i64 0, .int .i64 0, .int .i64 0] 106) = W1 at *
 have hgW : w.heap.size < W1.heap.size := HB.out.lt
 have Hg := kp hgW
 obtain ⟨x1, x4⟩ : W1.cell? ⟨b.gb, 1, none⟩ = some (.slice b.Al b.rs.length b.cl) ∧ True := ⟨HB1.out.cell 1, trivial⟩
 have q1 : ((at_ : Int) == (b.rs.length : Int) - 1) = false := by simp; omega
 have hw : IntKind.i64.wrap ((b.rs.length : Int) - 1) = (b.rs.length : Int) - 1 := IntWalk.i64_in _ (by omega)
 have hw2 : IntKind.i64.wrap ((at_ : Int) + 1) = ((at_ + 1 : Nat) : Int) := by rw [IntWalk.i64_in _ (by omega)]; omega
 generalize b.rs.length = rl at *
 clear hrl hX16 hb hat hf hgW
 go_enter Tryz.func66, Tryz.ntmps66
 go_wp2_with fail
 refine HSk.out.mono ?_
 rintro e w2 ⟨i, An', cn', nds', st', err', rfl, hd2, hr1, hr2, hr3, hr4⟩
 have Hr := kp (And.intro hr1 (And.intro hr2 (And.intro hr3 hr4)))
 have Hd2 := kp hd2
 have HB2 := kp (show Box w2 w.heap.size 106 #[.int .i64 0, .int .i64 0, .int .i64 0, .int .i64 0, .int .i64 0, .int .i64 0, .int .i64 0, .int .i64 0, .int .i64 0, .int .i64 0, .int .i64 0, .int .i64 0] from (hd2.turn.block w.heap.size Hg.out (fun h => by have := Hflt.out _ h; omega)).trans HB.out)
 clear hd2 hr1 hr2 hr3 hr4 x1 x4 hW1 HSk
 obtain ⟨⟨r0, r1, r2, r3, r4, r5, r6, r7, r8, r9, r10, r11⟩, ⟨f0, f1, f2, f3, f4, f5, f6, f7, f8, f9, f10, f11⟩⟩ := Box.twelve HB2.out
 obtain ⟨Wf, hWf⟩ : ∃ Wf, setAll w2 w.heap.size 0 [.int .i64 (key : Nat), .int .i64 (i : Nat), .int .i64 0, .int .i64 0, .int .i64 0, .int .i64 0, .int .i64 0, .int .i64 0, .int .i64 0, .int .i64 0, .int .i64 0, .int .i64 0] = Wf := ⟨_, rfl⟩
 have Hbf := kp (show Box Wf w.heap.size 106 (clC ⟨key, i, agZero⟩) by rw [← hWf]; exact box_setAll0 HB2.out _ rfl)
 have Hdid := kp (show Did b F w Wf An' cn' nds' st' err' by
  rw [← hWf]
  exact Hd2.out.set Hbz.out Hline.out Hflt.out (Nat.le_refl _) Hg.out _ _)
 simp only [setAll, Nat.zero_add, Nat.reduceAdd] at hWf
 have Hfin := kp (HQ.out i An' cn' nds' st' err' Wf Hdid.out Hr.out)
 obtain ⟨z0, z1, z2, z3, z4, z5, z6, z7, z8, z9, z10, z11⟩ := (Box.twelve Hbf.out).1
 clear Hbf Hdid HQ HB HB2 Hbz Hr Hd2
 go_wp2_with fail
 refine bodyPost_ret (v := .agg (clC ⟨key, i, agZero⟩)) ?_ rfl Hfin.out
 simp [results, Tryz.results66, go_sem, z0, z1, z2, z3, z4, z5, z6, z7, z8, z9, z10, z11]
structure Mid (b : Bc) (F0 : Nat → Prop) (w w' : World) (F : Nat → Prop) (An : Option Addr) (cn : Nat) (nds : List Nd) (st : St) (err : Nat) : Prop where
 dy : b.Dy w' F An cn nds st err
 turn : Turn F0 w w'
 sub : ∀ k, F k → more F0 w w' k
section
variable {b : Bc} {F0 F F1 : Nat → Prop} {w w' w1 w2 : World} {An An1 : Option Addr} {cn cn1 : Nat} {nds nds1 : List Nd} {st st1 : St} {err err1 : Nat}
theorem Mid.start (h : b.Dy w F An cn nds st err) : Mid b F w w F An cn nds st err := ⟨h, Turn.refl _ _, fun k hk => .inl hk⟩
theorem Mid.below (h : Mid b F0 w w' F An cn nds st err) (hb : Below w'.heap.size w' w1) : Mid b F0 w w1 F An cn nds st err :=
 ⟨h.dy.keep (Kept.below hb), h.turn.trans (Turn.below hb), fun k hk => more_sub (Nat.le_refl _) hb.size (h.sub k hk)⟩
theorem Mid.trans (h : Mid b F0 w w' F An cn nds st err) (k : Mid b F w' w1 F1 An1 cn1 nds1 st1 err1) : Mid b F0 w w1 F1 An1 cn1 nds1 st1 err1 :=
 ⟨k.dy, ⟨k.turn.os.trans h.turn.os, k.turn.tape.trans h.turn.tape, k.turn.output.trans h.turn.output, Nat.le_trans h.turn.size k.turn.size, fun i hi hp => (k.turn.block i (Nat.lt_of_lt_of_le hi h.turn.size) (fun hf => by
  rcases h.sub i hf with h1 | ⟨h1, _⟩
  ·exact hp h1
  ·omega)).trans (h.turn.block i hi hp)⟩, fun i hi => by
  rcases k.sub i hi with h1 | ⟨h1, h2⟩
  ·exact more_sub (Nat.le_refl _) k.turn.size (h.sub i h1)
  ·exact .inr ⟨Nat.le_trans h.turn.size h1, h2⟩⟩
theorem Did.mid (h : Did b F w w1 An cn nds st err) : Mid b F w w1 (more F w w1) An cn nds st err := ⟨h.dy, h.turn, fun k hk => hk⟩
theorem Mid.did (h : Mid b F0 w w' F An cn nds st err) (h0 : ∀ k, F0 k → F k) (hB : b.B ≤ w.heap.size) : Did b F0 w w' An cn nds st err := by
 refine ⟨h.dy.wide h.sub (fun k hk => ?_) (fun k hk => ?_), h.turn⟩
 ·rcases hk with hk | ⟨hk, _⟩
  ·exact h.dy.fF k (h0 k hk)
  ·exact .inl (Nat.le_trans hB hk)
 ·rcases hk with hk | ⟨_, hk⟩
  ·exact h.dy.flt k (h0 k hk)
  ·exact hk
theorem Mid.app {v v' : Value} (h : Mid b F0 w w' F An cn nds st err) (ha : App w' w1 v v') (hv : ∀ k, v.ownBlock = some k → w.heap.size ≤ k ∧ ¬ F k) : Mid b F0 w w1 F An cn nds st err :=
 ⟨h.dy.keep (Kept.app ha (fun k hk => (hv k hk).2)), turn_app h.turn ha (fun k hk => (hv k hk).1), fun k hk => more_sub (Nat.le_refl _) ha.grown.size (h.sub k hk)⟩
theorem Mid.setAll (h : Mid b F0 w w' F An cn nds st err) {g : Nat} (hg : w.heap.size ≤ g) (hF : ¬ F g) (o : Nat) (vs : List Value) : Mid b F0 w (setAll w' g o vs) F An cn nds st err :=
 have k : Kept F w' (Tc.setAll w' g o vs) := kept_setAll hF vs w' o
 ⟨h.dy.keep k, turn_farAll hg _ _ _ h.turn, fun i hi => more_sub (Nat.le_refl _) k.size (h.sub i hi)⟩
theorem Mid.set (h : Mid b F0 w w' F An cn nds st err) {g o : Nat} (hg : w.heap.size ≤ g) (hF : ¬ F g) (v : Value) : Mid b F0 w (w'.setCell ⟨g, o, none⟩ v) F An cn nds st err := h.setAll hg hF o [v]
theorem Mid.still (h : Mid b F0 w w' F An cn nds st err) {k : Nat} (hk : k < w.heap.size) (hn : ¬ F0 k) : w'.heap[k]? = w.heap[k]? := h.turn.block k hk hn
theorem Mid.off (h : Mid b F0 w w' F An cn nds st err) {k : Nat} (hk : k < w.heap.size) (hn : ¬ F0 k) : ¬ F k := fun hf => by
 rcases h.sub k hf with h1 | ⟨h1, _⟩
 ·exact hn h1
 ·omega
theorem Mid.row (h : Mid b F0 w w' F An cn nds st err) {A : Option Addr} {vs : List Value} (hr : Row w w.heap.size A vs) (hn : ∀ k, Foot A vs k → ¬ F0 k) : Row w' w'.heap.size A vs ∧ ∀ k, Foot A vs k → ¬ F k :=
 ⟨(row_foot hr (fun k hk => h.still (Row.foot_lt hr hk) (hn k hk))).more h.turn.size, fun k hk => h.off (Row.foot_lt hr hk) (hn k hk)⟩
theorem Mid.box (h : Mid b F0 w w' F An cn nds st err) {g : Nat} {t : TypeId} {cs : Array Value} (hb : Box w g t cs) (hn : ¬ F0 g) : Box w' g t cs ∧ ¬ F g := ⟨(h.still hb.lt hn).trans hb, h.off hb.lt hn⟩
theorem Mid.start_ (hm : Mid b F0 w w' F An cn nds st err) (hro : b.Ro w) (hl : b.B ≤ w.heap.size) (h0 : ∀ k, F0 k → b.B ≤ k ∨ b.own k) {Ap : Option Addr} {part : List Nat} (hr : Row w' w'.heap.size Ap (natV part)) (hf : ∀ k, Foot Ap (natV part) k → ¬ F k) (hp : PtOk b.ps part) (he : err = 0 ∨ err = 7) (hg : err = 0 → Good b.ps b.lifts b.X.length st) : Start b F An cn nds st err Ap part w' :=
 ⟨hro.turn hm.turn hl h0, hm.dy, hr, hf, hp, he, hg⟩
end
structure LsLoc (w : World) (F : Nat → Prop) (B : Nat) (v : Value) (ls : List Ll) : Prop where
 own : LlsOwn w B v ls
 off : ∀ k, v.ownBlock = some k → ¬ F k
 each : ∀ l ∈ ls, ∀ k, Foot l.A (l.cs.flatMap clV) k → ¬ F k
theorem ap_lt {w : World} {v : Value} {A : Option Addr} {vs : List Value} (h : Ap w v A vs) {k : Nat} (hk : Foot A vs k) : k < w.heap.size := Row.foot_lt h.1 hk
theorem LsLoc.same {w w' : World} {F F' : Nat → Prop} {B : Nat} {v : Value} {ls : List Ll} (h : LsLoc w F B v ls) (hz : w.heap.size ≤ w'.heap.size) (hs : ∀ k, k < w.heap.size → ¬ F k → w'.heap[k]? = w.heap[k]?) (hF : ∀ k, k < w.heap.size → ¬ F k → ¬ F' k) : LsLoc w' F' B v ls :=
 ⟨⟨own_same h.own.1 (fun k hk => hs k (h.own.1.lt k hk).2 (h.off k hk)), fun l hl => ⟨ap_same (h.own.2 l hl).1 hz (fun k hk => hs k (ap_lt (h.own.2 l hl).1 hk) (h.each l hl k hk)), (h.own.2 l hl).2⟩⟩,
  fun k hk => hF k (h.own.1.lt k hk).2 (h.off k hk), fun l hl k hk => hF k (ap_lt (h.own.2 l hl).1 hk) (h.each l hl k hk)⟩
theorem LsLoc.mid {b : Bc} {w w' : World} {F0 F : Nat → Prop} {An : Option Addr} {cn : Nat} {nds : List Nd} {st : St} {err : Nat} (hm : Mid b F0 w w' F An cn nds st err) {B : Nat} {v : Value} {ls : List Ll} (h : LsLoc w F0 B v ls) : LsLoc w' F B v ls :=
 h.same hm.turn.size (fun k hk hn => hm.still hk hn) (fun k hk hn => hm.off hk hn)
theorem LsLoc.below {w w' : World} {F : Nat → Prop} {B : Nat} {v : Value} {ls : List Ll} (h : LsLoc w F B v ls) (hb : Below w.heap.size w w') : LsLoc w' F B v ls := h.same hb.size (fun k hk _ => hb.block k hk) (fun k _ hn => hn)
structure CsLoc (w : World) (F : Nat → Prop) (B : Nat) (v : Value) (cs : List Cl) : Prop where
 own : w.ownsRow B 106 12 v cs.length (cs.flatMap clV)
 off : ∀ k, v.ownBlock = some k → ¬ F k
theorem CsLoc.mid {b : Bc} {w w' : World} {F0 F : Nat → Prop} {An : Option Addr} {cn : Nat} {nds : List Nd} {st : St} {err : Nat} (hm : Mid b F0 w w' F An cn nds st err) {B : Nat} {v : Value} {cs : List Cl} (h : CsLoc w F0 B v cs) : CsLoc w' F B v cs :=
 ⟨own_same h.own (fun k hk => hm.still (h.own.lt k hk).2 (h.off k hk)), fun k hk => hm.off (h.own.lt k hk).2 (h.off k hk)⟩
theorem CsLoc.below {w w' : World} {F : Nat → Prop} {B : Nat} {v : Value} {cs : List Cl} (h : CsLoc w F B v cs) (hb : Below w.heap.size w w') : CsLoc w' F B v cs :=
 ⟨own_same h.own (fun k hk => hb.block k (h.own.lt k hk).2), h.off⟩
theorem CsLoc.nil (w : World) (F : Nat → Prop) (B : Nat) : CsLoc w F B (.slice none 0 0) [] := ⟨own_nil _ _ _ _, fun k hk => by cases hk⟩
section
variable {ps : List (List Nat × Ag)} {f : Option Rec} {err err' : Nat} {st st' : St} {c : Cl}
theorem row_step {gs : List (Nat × List Nat)} {j : Nat} {g : Nat × List Nat} (hg : gs[j]? = some g) {cs : List Cl} {tot : Option (St × List Cl)} (h0 : err = 0 → rowV ps f (gs.drop j) (st, cs) = tot) (h7 : err = 7 → tot = none) (he : err = 0 ∨ err = 7)
 (c1 : err = 0 → ∀ r, cellV ps f g.1 g.2 st = some r → err' = 0 ∧ st' = r.1 ∧ c = r.2) (c2 : err = 0 → cellV ps f g.1 g.2 st = none → err' = 7) (c3 : err = 7 → err' = 7) :
 (err' = 0 → err = 0 ∧ cellV ps f g.1 g.2 st = some (st', c) ∧ rowV ps f (gs.drop (j + 1)) (st', cs ++ [c]) = tot) ∧ (err' = 7 → tot = none) := by
 have hd : gs.drop j = g :: gs.drop (j + 1) := by
  obtain ⟨hj, e⟩ := List.getElem?_eq_some_iff.1 hg
  rw [List.drop_eq_getElem_cons hj, e]
 rcases he with he | he
 ·have h0' := h0 he
  rw [hd] at h0'
  unfold rowV at h0'
  rcases hc : cellV ps f g.1 g.2 st with _ | r
  ·rw [hc] at h0'
   have := c2 he hc
   exact ⟨fun h => by omega, fun _ => h0'.symm⟩
  ·obtain ⟨k1, k2, k3⟩ := c1 he r hc
   rw [hc] at h0'
   subst k2 k3
   exact ⟨fun _ => ⟨he, rfl, h0'⟩, fun h => by omega⟩
 ·exact ⟨fun h => by have := c3 he; omega, fun _ => h7 he⟩
theorem lists_step {at_ : Nat} {part : List Nat} {lifts : List (List Nat)} {k : Nat} {l : List Nat} (hl : lifts[k]? = some l) {ls : List (List Cl)} {tot2 : Option (St × List (List Cl))} (h0 : err = 0 → listsV ps f at_ part (lifts.drop k) (st, ls) = tot2) (h7 : err = 7 → tot2 = none) (he : err = 0 ∨ err = 7)
 {cs : List Cl} (c0 : err' = 0 → rowV ps f [] (st', cs) = if err = 0 then rowV ps f (groupsP (keyL ps l at_) part) (st, []) else none) (c7 : err' = 7 → (if err = 0 then rowV ps f (groupsP (keyL ps l at_) part) (st, []) else none) = none) :
 (err' = 0 → listsV ps f at_ part (lifts.drop (k + 1)) (st', ls ++ [cs]) = tot2) ∧ (err' = 7 → tot2 = none) := by
 have hd : lifts.drop k = l :: lifts.drop (k + 1) := by
  obtain ⟨hj, e⟩ := List.getElem?_eq_some_iff.1 hl
  rw [List.drop_eq_getElem_cons hj, e]
 rcases he with he | he
 ·have h0' := h0 he
  rw [hd] at h0'
  unfold listsV at h0'
  rw [if_pos he] at c0 c7
  refine ⟨fun h => ?_, fun h => ?_⟩
  ·rw [← c0 h] at h0'
   exact h0'
  ·rw [c7 h] at h0'
   exact h0'.symm
 ·rw [if_neg (by omega)] at c0 c7
  exact ⟨(fun h => by have := c0 h; cases this), fun _ => h7 he⟩
end
theorem grs_at {w : World} {B : Nat} {A : Option Addr} {l : List Gr} (h : Row w B A (l.flatMap grV)) (k : Nat) (hk : k < l.length) :
 ∃ b off, A = some ⟨b, off, none⟩ ∧ b < B ∧ w.cell? ⟨b, off + k * 2, none⟩ = some (.int .i64 (l[k].key : Nat)) ∧ w.cell? ⟨b, off + k * 2 + 1, none⟩ = some (.slice l[k].A l[k].part.length l[k].c) := by
 obtain ⟨b, off, e, hb, hc⟩ := Row.rec grV_len h (by omega) k hk
 exact ⟨b, off, e, hb, hc 0 _ rfl, hc 1 _ rfl⟩
end Go.Proofs.YthmbgbmcdbdecaaGreat.Tc
