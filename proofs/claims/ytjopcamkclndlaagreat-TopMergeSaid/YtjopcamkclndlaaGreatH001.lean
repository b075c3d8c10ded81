/- Parts of a proof. -/
import Derived.Test.YtjopcamkclndlaaGreatRows
import Derived.WalkKit
import Derived.ProofKit
import Derived.Outline
import Derived.Below
import Derived.Lib.Hide
import Derived.Laws.OwnMore
import Derived.Deep.Draws
import Derived.Laws.Rows
import Derived.Maps.AppendAt
import Derived.OwnWalk
import Derived.Carry
import Derived.OpenShut
import Derived.ChangeOld
import Derived.ShutString
import Derived.SliceStrings
import Derived.Lib.SmallJoins
import Derived.Deep.Grids
import Derived.Deep.Slices
import Derived.Deep.Fields
import Derived.ChangeSame
import Derived.WalkLawsBesides
import Derived.WalkSpells
import Derived.Deep.RegionHeld3
import Derived.Deep.QuietTactic
import Derived.BigQuiet
import Derived.Deep.Cut
import Derived.Lib.Strings
set_option linter.unusedVariables false
set_option linter.unusedSimpArgs false
set_option maxRecDepth 100000
set_option maxHeartbeats 8000000
namespace Go.Proofs.YtjopcamkclndlaaGreat.Base
open List Go.RowKit
def Row (w:World) (B:Nat) (A:Option Addr) (vs:List Value):Prop :=
 vs=[]\/∃b off,A=some ⟨b,off,none⟩/\b<B/\∀i v,vs[i]? = some v->w.cell? ⟨b,off+i,none⟩=some v
theorem Row.nil (w:World) (B:Nat) (A:Option Addr):Row w B A [] := .inl rfl
theorem Row.at_ {w:World} {B:Nat} {A:Option Addr} {vs:List Value} (h:Row w B A vs) {k:Nat} (hk:k<vs.length) :
 ∃b off,A=some ⟨b,off,none⟩/\b<B/\w.cell? ⟨b,off+k,none⟩=some vs[k]:=by
 rcases h with rfl | ⟨b,off,e,hb,hc⟩
 .simp at hk
 .exact ⟨b,off,e,hb,hc k _ (getElem?_eq_getElem hk)⟩
theorem Row.pO {w w':World} {B:Nat} {A:Option Addr} {vs:List Value} (h:Row w B A vs) (hk:∀p:Addr,p.block<B->w'.cell? p=w.cell? p):Row w' B A vs:=by
 rcases h with rfl | ⟨b,off,e,hb,hc⟩
 .exact .inl rfl
 .exact .inr ⟨b,off,e,hb,fun i v hv=>(hk _ hb).trans (hc i v hv)⟩
theorem Row.below {w w':World} {B:Nat} {A:Option Addr} {vs:List Value} (h:Row w B A vs) (hb:Below B w w'):Row w' B A vs:=h.pO fun _ hp=>hb.cell hp
theorem Row.more {w:World} {B B':Nat} {A:Option Addr} {vs:List Value} (h:Row w B A vs) (hB:B<=B'):Row w B' A vs:=by
 rcases h with rfl | ⟨b,off,e,hb,hc⟩
 .exact .inl rfl
 .exact .inr ⟨b,off,e,by omega,hc⟩
theorem Row.take {w:World} {B:Nat} {A:Option Addr} {vs:List Value} (h:Row w B A vs) (n:Nat):Row w B A (vs.take n):=by
 rcases h with rfl | ⟨b,off,e,hb,hc⟩
 .exact .inl (by simp)
 .refine .inr ⟨b,off,e,hb,fun i v hv=>hc i v ?_⟩;rw [getElem?_take] at hv;split at hv
  .exact hv
  .cases hv
def aa (w:World) (g:Nat) (t:TypeId) (cs:Array Value):Prop:=w.heap[g]? = some (.cells cs t (0,0))
theorem aa.lt {w:World} {g:Nat} {t:TypeId} {cs:Array Value} (h:aa w g t cs):g<w.heap.size:=by
 by_cases hg:g<w.heap.size
 .exact hg
 .unfold aa at h;rw [Array.getElem?_eq_none (by omega)] at h;cases h
theorem aa.cell {w:World} {g:Nat} {t:TypeId} {cs:Array Value} (h:aa w g t cs) (i:Nat):w.cell? ⟨g,i,none⟩=cs[i]? := cell_of_row w g i cs t (0,0) h
theorem aa.free {w:World} {g:Nat} {t:TypeId} {cs:Array Value} (h:aa w g t cs) (i:Nat):w.frozen? ⟨g,i,none⟩=false:=by
 unfold aa at h;simp [World.frozen?,h]
theorem aa.new (w:World) (t:TypeId) (cs:Array Value):aa (w.alloc (.cells cs t)) w.heap.size t cs:=heap_alloc_new w _
theorem aa.alloc {w:World} {g:Nat} {t:TypeId} {cs:Array Value} (h:aa w g t cs) (o:Obj):aa (w.alloc o) g t cs:=(Below.heap_alloc w o g h.lt).trans h
theorem aa.drew {w:World} {g:Nat} {t:TypeId} {cs:Array Value} (h:aa w g t cs):aa w.drew g t cs:=h
theorem aa.set {w:World} {g:Nat} {t:TypeId} {cs:Array Value} (h:aa w g t cs) (i:Nat) (u:Value):aa (w.setCell ⟨g,i,none⟩ u) g t (cs.setIfInBounds i u):=by
 unfold aa at h ⊢;simp [World.setCell,Array.getElem?_modify,h]
theorem aa.bX {w:World} {g:Nat} {t:TypeId} {cs:Array Value} (h:aa w g t cs) {p:Addr} (hp:g≠p.block) (u:Value):aa (w.setCell p u) g t cs:=(Below.heap_setCell w p u g hp).trans h
theorem aa.below {w w':World} {B g:Nat} {t:TypeId} {cs:Array Value} (h:aa w g t cs) (hb:Below B w w') (hg:g<B):aa w' g t cs:=(hb.block g hg).trans h
theorem aa.under {w w':World} {g:Nat} {t:TypeId} {cs:Array Value} (h:aa w g t cs) (hb:Below w.heap.size w w'):aa w' g t cs:=h.below hb h.lt
theorem aa.grown {w w':World} {g:Nat} {t:TypeId} {cs:Array Value} {row:Option Nat} (h:aa w g t cs) (hb:w.grownBy w' row) (hg:some g≠row):aa w' g t cs:=(hb.block g h.lt hg).trans h
theorem aa.one {w:World} {g:Nat} {t:TypeId} {x:Value} (h:aa w g t #[x]):w.cell? ⟨g,0,none⟩=some x/\w.frozen? ⟨g,0,none⟩=false:=⟨h.cell 0,h.free 0⟩
theorem aa.two {w:World} {g:Nat} {t:TypeId} {x y:Value} (h:aa w g t #[x,y]):w.cell? ⟨g,0,none⟩=some x/\w.cell? ⟨g,1,none⟩=some y/\w.frozen? ⟨g,0,none⟩=false/\w.frozen? ⟨g,1,none⟩=false :=
 ⟨h.cell 0,h.cell 1,h.free 0,h.free 1⟩
theorem lU {B:Nat} {w w1:World} (hb:Below B w w1) (b o:Nat) (h:b<B):w1.frozen? ⟨b,o,none⟩=w.frozen? ⟨b,o,none⟩:=hb.frozen (p:=⟨b,o,none⟩) h
theorem iq {w:World} {base:Nat} {e:TypeId} {v:Value} {n:Nat} {xs:List Value} (h:w.ownsRow base e 1 v n xs):∃A c,v = .slice A n c:=by
 rcases h.2 with ⟨rfl,rfl⟩ | ⟨g,cap,cur,rfl,_⟩
 .exact ⟨none,0,rfl⟩
 .exact ⟨_,_,rfl⟩
theorem a6' {w:World} {base:Nat} {e:TypeId} {v:Value} {n:Nat} {xs:List Value} (h:w.ownsRow base e 1 v n xs):xs.length=n:=by simpa using h.1
theorem aa1 {w:World} {base:Nat} {e:TypeId} {v:Value} {n:Nat} {xs:List Value} (h:w.ownsRow base e 1 v n xs) {k:Nat} (hk:v.ownBlock=some k):base<=k/\k<w.heap.size:=h.lt k hk
theorem aae {B:Nat} {a w w':World} {base:Nat} {e:TypeId} {v:Value} {n:Nat} {xs:List Value} (h:Below B a w) (aE:w.ownsRow base e 1 v n xs) (hB:B<=base) (hs:B<=w.heap.size) (hg:w.grownBy w' v.ownBlock):Below B a w' :=
 h.grown hg hs (fun _ hk=>Nat.le_trans hB (aa1 aE hk).1)
def Kp (p:Prop):Prop:=p
theorem Kp.o {p:Prop} (h:Kp p):p:=h
theorem Kp.out {p:Prop} (h:Kp p):p:=h
theorem kp {p:Prop} (h:p):Kp p:=h
abbrev zN:Array Value:=#[.int .i64 0,.slice none 0 0,.int .i64 0,.int .i64 0,.int .i64 0,.int .i64 0,.int .i64 0,.int .i64 0,.int .i64 0,.int .i64 0,.int .i64 0,.int .i64 0,.int .i64 0,.int .i64 0]
abbrev zC:Array Value:=#[.int .i64 0,.int .i64 0,.int .i64 0,.int .i64 0,.int .i64 0,.int .i64 0,.int .i64 0,.int .i64 0,.int .i64 0,.int .i64 0,.int .i64 0,.int .i64 0]
abbrev zA:Array Value:=#[.int .i64 0,.int .i64 0,.int .i64 0,.int .i64 0,.int .i64 0,.int .i64 0,.int .i64 0,.int .i64 0,.int .i64 0,.int .i64 0]
theorem gE {α:Type _} {l:List α} {i:Nat} (h:i<l.length):l[i]? = some l[i]:=getElem?_eq_getElem h
theorem bS {α:Type _} {l:List α} {i:Nat} {a:α} (h:l[i]? = some a):∃h:i<l.length,l[i]=a:=List.getElem?_eq_some_iff.1 h
theorem lM {α:Type _} {β:Type _} {l:List α} (f:α->β):(l.map f).length=l.length:=length_map f
theorem aS {α:Type _} {l m:List α}:(l++m).length=l.length+m.length:=length_append
theorem gM {α:Type _} {l:List α} {i:Nat} (h:i<l.length):l[i]∈l:=getElem_mem h
theorem aR {a b c:World} (h:Kp (Below a.heap.size a b)) (k:Below b.heap.size b c):Kp (Below a.heap.size a c):=kp (h.out.trans (k.mono h.out.size))
theorem bu {w w':World} {g:Nat} {t:TypeId} {c:Array Value} (h:Kp (aa w g t c)) (k:Below w.heap.size w w'):Kp (aa w' g t c):=kp (h.out.under k)
theorem nR {n:Nat}:n<=n:=Nat.le_refl n
theorem bR {B:Nat} {w:World}:Below B w w:=Below.refl B w
abbrev OA:=Option Addr
abbrev LN:=List Nat
abbrev LV:=List Value
abbrev AV:=Array Value
theorem aT {a b c:Nat} (h:a<=b) (k:b<=c):a<=c:=Nat.le_trans h k
theorem aZ (n:Nat):0<=n:=Nat.zero_le n
theorem ah (n:Nat):n<=n:=Nat.le_refl n
theorem dL {a b c:Nat} (h:a<b) (k:b<=c):a<c:=Nat.lt_of_lt_of_le h k
theorem aq (B:Nat) (w:World):Below B w w:=Below.refl B w
theorem cZ {w w':World} {a:Addr} (h:w'.heap[a.block]? = w.heap[a.block]?):w'.cell? a=w.cell? a:=World.cell?_of_block h
structure App (wr w':World) (v v':Value):Prop where
 grown:wr.grownBy w' v.ownBlock
 qH:v'.ownBlock=v.ownBlock\/∃k,v'.ownBlock=some k/\wr.heap.size<=k
section
variable {P:Program}
theorem tE {an:Array Oper} {rest:List Oper} {o:Oper} {a:Act} {Q:Exit->Act->World->Prop} (pU:o.guard=none) (s x:Operand) (t:TypeId)
 (ho:o.op = .call { callee := .builtin .append,args:=#[s,x],argTypes:=#[t,t] })
 (base:Nat) (e:TypeId) (i:TypeInfo) (z:Value) (bytes:Nat) (ht:P.underlying t=some (.slice e)) (hi:P.info? e=some i) (hz:i.zero=some z)
 (kL:i.size=1) (kj:i.bytes=bytes) (jY:z.cells.size=1)
 (wr:World) (u:Value) (hu:u.oneCell'=true) (v:Value) (n:Nat) (xs:List Value) (hs:a.eval s=v) (aE:wr.ownsRow base e 1 v n xs)
 (hx:a.eval x = .slice (some ⟨wr.heap.size,0,none⟩) 1 1)
 (hn:n<1048576*64) (hb:bytes<=256) (qQ:base<=wr.heap.size)
 (h:∀v' w',w'.ownsRow base e 1 v' (n+1) (xs++[u])->App wr w' v v'->wpList P an Q rest (a.put o.dst v') w') :
 wpList P an Q (o::rest) a (wr.alloc (.cells #[u] e)):=by
 refine wpList_append_own_at _ pU s x t ho base e i z 1 bytes ht hi hz kL kj jY (by decide) v n xs hs (aE.alloc _) ⟨wr.heap.size,0,none⟩ 1 1 [u] hx rfl (cell_one_new _ _ _) ?_ ?_ ?_ ?_ ?_
 .intro y hy;simp at hy;subst hy;exact hu
 .unfold maxLen;omega
 .have:(n+1)*bytes<=(1048576*64)*256:=Nat.mul_le_mul (by omega) hb;omega
 .simp;omega
 .intro v' w' h1 h2 _ h4;refine h v' w' h1 ⟨⟨h2.os,h2.tape,h2.output,Nat.le_trans (by simp) h2.size,fun k hk av=>(h2.block k (by simp;omega) av).trans (Below.heap_alloc _ _ _ hk)⟩,?_⟩;rcases h4 with h4 | h4
  .exact .inl h4
  .exact .inr ⟨_,h4,by simp⟩
theorem Yg {o:Oper} {a:Act} {K:Act->World->Prop} {Q:Exit->Act->World->Prop} (s x:Operand) (t:TypeId)
 (ho:o.op = .call { callee := .builtin .append,args:=#[s,x],argTypes:=#[t,t] })
 (base:Nat) (e:TypeId) (i:TypeInfo) (z:Value) (bytes:Nat) (ht:P.underlying t=some (.slice e)) (hi:P.info? e=some i) (hz:i.zero=some z)
 (kL:i.size=1) (kj:i.bytes=bytes) (jY:z.cells.size=1)
 (wr:World) (u:Value) (hu:u.oneCell'=true) (v:Value) (n:Nat) (xs:List Value) (hs:a.eval s=v) (aE:wr.ownsRow base e 1 v n xs)
 (hx:a.eval x = .slice (some ⟨wr.heap.size,0,none⟩) 1 1)
 (hn:n<1048576*64) (hb:bytes<=256) (qQ:base<=wr.heap.size)
 (h:∀v' w',w'.ownsRow base e 1 v' (n+1) (xs++[u])->App wr w' v v'->K (a.put o.dst v') w') :
 o.wp P a (wr.alloc (.cells #[u] e)) K Q:=by
 obtain ⟨v',w',hr,h2,h3,_,h5⟩:=run_append_own_at (P:=P) (wr.alloc (.cells #[u] e)) base t o.type e i z 1 bytes ht hi hz kL kj jY (by decide) v n xs (aE.alloc _) ⟨wr.heap.size,0,none⟩ 1 1 [u] rfl (cell_one_new _ _ _)
  (by intro y hy;simp at hy;subst hy;exact hu) (by unfold maxLen;omega) (by have:(n+1)*bytes<=(1048576*64)*256:=Nat.mul_le_mul (by omega) hb;omega) (by simp;omega)
 unfold Oper.wp execOp;simp only [ho,resolve,invoke,builtin,Sem.run_bind,Sem.run_pure,Result.andThen_ok,map_toArray,map_cons,map_nil,hs,hx,hr];refine h v' w' h2 ⟨⟨h3.os,h3.tape,h3.output,Nat.le_trans (by simp) h3.size,fun k hk av=>(h3.block k (by simp;omega) av).trans (Below.heap_alloc _ _ _ hk)⟩,?_⟩;rcases h5 with h5 | h5
 .exact .inl h5
 .exact .inr ⟨_,h5,by simp⟩
theorem xB {an:Array Oper} {o:Oper} {a:Act} {K:Act->World->Prop} {Q:Exit->Act->World->Prop} {E:Prop} (pU:o.guard=none) (s x:Operand) (t:TypeId)
 (ho:o.op = .call { callee := .builtin .append,args:=#[s,x],argTypes:=#[t,t] })
 (base:Nat) (e:TypeId) (i:TypeInfo) (z:Value) (bytes:Nat) (ht:P.underlying t=some (.slice e)) (hi:P.info? e=some i) (hz:i.zero=some z)
 (kL:i.size=1) (kj:i.bytes=bytes) (jY:z.cells.size=1)
 (wr:World) (u:Value) (hu:u.oneCell'=true) (v:Value) (n:Nat) (xs:List Value) (hs:a.eval s=v) (aE:wr.ownsRow base e 1 v n xs)
 (hx:a.eval x = .slice (some ⟨wr.heap.size,0,none⟩) 1 1)
 (hn:n<1048576*64) (hb:bytes<=256) (qQ:base<=wr.heap.size)
 (h:∀v' w',w'.ownsRow base e 1 v' (n+1) (xs++[u])->App wr w' v v'->K (a.put o.dst v') w') :
 if Region.wanted o (yielded an a.tmps)=true then o.wp P a (wr.alloc (.cells #[u] e)) K Q else E:=by
 have hw:Region.wanted o (yielded an a.tmps)=true:=by simp [Region.wanted,pU]
 rw [if_pos hw];exact Yg s x t ho base e i z bytes ht hi hz kL kj jY wr u hu v n xs hs aE hx hn hb qQ h
end
section
variable {wr w':World} {v v':Value}
theorem App.below {B:Nat} {a:World} {base:Nat} {e:TypeId} {n:Nat} {xs:List Value} (h:App wr w' v v') (hb:Below B a wr) (aE:wr.ownsRow base e 1 v n xs) (hB:B<=base) (hs:B<=wr.heap.size):Below B a w':=aae hb aE hB hs h.grown
end
structure bK (p:Nat->Prop) (w w':World):Prop where
 os:w'.os=w.os
 tape:w'.tape=w.tape
 output:w'.output=w.output
 size:w.heap.size<=w'.heap.size
 block:∀k,k<w.heap.size->¬p k->w'.heap[k]? = w.heap[k]?
section
variable {p:Nat->Prop} {a b c:World}
theorem bK.refl (p:Nat->Prop) (w:World):bK p w w:=⟨rfl,rfl,rfl,Nat.le_refl _,fun _ _ _=>rfl⟩
theorem bK.trans (h:bK p a b) (k:bK p b c):bK p a c :=
 ⟨k.os.trans h.os,k.tape.trans h.tape,k.output.trans h.output,Nat.le_trans h.size k.size,fun i hi hp=>(k.block i (Nat.lt_of_lt_of_le hi h.size) hp).trans (h.block i hi hp)⟩
theorem bK.below (h:Below a.heap.size a b):bK p a b:=⟨h.os,h.tape,h.output,h.size,fun i hi _=>h.block i hi⟩
theorem bK.set (w:World) (q:Addr) (v:Value) (hp:p q.block):bK p w (w.setCell q v) :=
 have h:=(Below.refl 0 w).setCell (p:=q) (Nat.zero_le _) v
 ⟨h.os,h.tape,h.output,h.size,fun i _ hi=>Below.heap_setCell w q v i (fun e=>hi (e▸hp))⟩
theorem bK.drew (h:bK p a b):bK p a b.drew:=⟨h.os,h.tape,h.output,h.size,h.block⟩
theorem bK.more {q:Nat->Prop} (h:bK p a b) (hq:∀k,p k->q k):bK q a b:=⟨h.os,h.tape,h.output,h.size,fun i hi hp=>h.block i hi (fun e=>hp (hq i e))⟩
theorem bK.toBelow {B:Nat} (h:bK p a b) (hp:∀k,p k->B<=k) (hB:B<=a.heap.size):Below B a b :=
 ⟨h.os,h.tape,h.output,h.size,fun i hi=>h.block i (by omega) (fun e=>by have:=hp i e;omega)⟩
end
theorem aa.three {w:World} {g:Nat} {t:TypeId} {x y z:Value} (h:aa w g t #[x,y,z]):w.cell? ⟨g,0,none⟩=some x/\w.cell? ⟨g,1,none⟩=some y/\w.cell? ⟨g,2,none⟩=some z/\w.frozen? ⟨g,0,none⟩=false/\w.frozen? ⟨g,1,none⟩=false/\w.frozen? ⟨g,2,none⟩=false :=
 ⟨h.cell 0,h.cell 1,h.cell 2,h.free 0,h.free 1,h.free 2⟩
end Go.Proofs.YtjopcamkclndlaaGreat.Base
namespace Go.Proofs.YtjopcamkclndlaaGreat.Base
open List Go.ChangeShapes Go.WideShapes Go.ChangeAt Go.RowKit Go.Joins Go.Deep
theorem aa.lay {w:World} {g:Nat} {t:TypeId} {cs:Array Value} (hg:w.heap.size=g):aa (w.alloc (.cells cs t)) g t cs:=hg▸aa.new w t cs
theorem LP {w:World} {a:Addr} {v:Value} (h:w.cell? a=some v):a.block<w.heap.size:=by
 by_cases hb:a.block<w.heap.size
 .exact hb
 .have e:w.heap[a.block]? = none:=Array.getElem?_eq_none (by omega);simp [World.cell?,e] at h
theorem aL {W w':World} (hb:Below W.heap.size W w') {b o:Nat} {v:Value} (h:W.cell? ⟨b,o,none⟩=some v):w'.cell? ⟨b,o,none⟩=some v:=(hb.cell (p:=⟨b,o,none⟩) (LP h)).trans h
theorem xO (b off i:Nat):(⟨b,off,none⟩:Addr).add i=⟨b,off+i,none⟩:=by
 unfold Addr.add;split
 .rename_i h;subst h;rfl
 .rfl
theorem I' {w:World} {a:Addr} {vs:List Value} (h:∀i v,vs[i]? = some v->w.cell? (a.add i)=some v):Row w w.heap.size (some a) vs:=by
 rcases vs with _ | ⟨v0,vs⟩
 .exact .inl rfl
 .obtain ⟨b,off,abT⟩:=a;have h0:=h 0 v0 rfl;have hs:abT=none:=by
   have:=World.cell?_spot h0;simpa [Addr.add] using this
  subst hs;rw [xO] at h0;refine .inr ⟨b,off,rfl,LP h0,fun i v hv => ?_⟩;rw [<-xO];exact h i v hv
section
variable {H:Type} {enc:TypeId×Value->H} {P:Program} {W:World} {base:Nat}
theorem abD {t e:TypeId} {k:IntKind} {v:Value} {d:DataW H} {p:List MemPlace} (ht:P.underlying t=some (.slice e)) (he:P.underlying e=some (.int k)) (hc:P.cellsOf e=1)
 (hv:Value.okWide P W .any base t v) (h:DataW.Trod enc P W 0 (fun _=>true) true t v d p) :
 ∃ (A:Option Addr) (l:List Int) (c:Nat),v = .slice A l.length c/\l.length<=c/\c<=maxLen/\Row W W.heap.size A (l.map (.int k))/\∀n∈l,(Lit.int k n).wf=true:=by
 obtain ⟨a0,RQ,abU,rfl⟩:=okWide_slice ht hv;obtain ⟨fuel,hf⟩:=h;rcases open_ints ht he hc hf with ⟨cE,_⟩ | ⟨x,l,c,zs,cE,_,hl,hm,hz,_,nZ,FH⟩
 .simp [Value.cells] at cE;obtain ⟨rfl,rfl,rfl⟩:=cE;exact ⟨none,[],0,rfl,Nat.le_refl _,Nat.zero_le _,.inl rfl,by simp⟩
 .simp [Value.cells] at cE;obtain ⟨rfl,rfl,rfl⟩:=cE;simp at hz;have aX:(zs.take RQ).length=RQ:=by rw [length_take,hz];omega
  refine ⟨_,zs.take RQ,abU,by rw [aX],by rw [aX];exact hl,hm,I' fun i v hv => ?_,fun n hn=>FH n (mem_of_mem_take hn)⟩;rw [getElem?_map,getElem?_take] at hv;split at hv
  .rename_i hi;have gP:i<zs.length:=by omega
   rw [getElem?_eq_getElem gP] at hv;simp at hv;rw [<-hv,nZ i gP];simp [gP]
  .cases hv
end
theorem a61 {α:Type} (Q:Nat->α->Prop) (n:Nat) (h:∀i,i<n->∃a,Q i a):∃l:List α,l.length=n/\∀i (hi:i<l.length),Q i l[i]:=by
 induction n with
 | zero=>exact ⟨[],rfl,fun i hi=>by simp at hi⟩
 | succ n ih =>
  obtain ⟨l,hl,hq⟩:=ih (fun i hi=>h i (by omega));obtain ⟨a,ha⟩:=h n (by omega);refine ⟨l++[a],by simp [hl],fun i hi => ?_⟩;by_cases lh:i<l.length
  .rw [getElem_append_left lh];exact hq i lh
  .have:i=l.length:=by simp at hi;omega
   subst this;rw [getElem_append_right nR];simp;rw [hl];exact ha
section
variable {H:Type} {enc:TypeId×Value->H} {P:Program} {W:World} {b0:Nat} {sp:Nat->Bool} {sK:Bool}
theorem Ru {t:TypeId} {fs:Array Field} {cs:List Value} {fuel:Nat} {x:DataW H×List MemPlace} (hs:P.underlying t=some (.struct fs)) (lj:oneCellFields P fs=true) (hC:P.cellsOf t=fs.size)
 (h:DataW.trod enc P W b0 sp sK fuel t cs=some x) (j:Nat) (f:Field) (hj:fs[j]? = some f):∃u n y,cs[j]? = some u/\DataW.trod enc P W b0 sp sK n f.type [u]=some y:=by
 obtain ⟨ys,n,_,_,hl,rP,hg⟩:=DataW.trod_struct hs h;obtain ⟨ho,hk⟩:=hone_of lj j f hj;have lu:j<fs.size:=(Array.getElem?_eq_some_iff.1 hj).1;have ae:j<cs.length:=by omega
 have h1:=hg j f hj;have e1:(cs.drop j).take 1=[cs[j]]:=by rw [drop_eq_getElem_cons ae];rfl
 rw [ho,hk,e1] at h1;exact ⟨cs[j],n,ys[j]'(by omega),getElem?_eq_getElem ae,h1.trans (getElem?_eq_getElem (by omega))⟩
theorem a9' {t e:TypeId} {fs:Array Field} {cs:List Value} {fuel:Nat} {x:DataW H×List MemPlace} (ht:P.underlying t=some (.slice e)) (he:P.underlying e=some (.struct fs)) (lj:oneCellFields P fs=true) (hC:P.cellsOf e=fs.size)
 (h:DataW.trod enc P W b0 sp sK fuel t cs=some x) :
 cs=[.slice none 0 0]\/∃a len cap,cs=[.slice (some a) len cap]/\len<=cap/\cap<=maxLen/\∀i,i<len->∀ (j:Nat) (f:Field),fs[j]? = some f->∃u n y,W.cell? (a.add (i*fs.size+j))=some u/\DataW.trod enc P W b0 sp sK n f.type [u]=some y:=by
 rcases open_slice ht h with ⟨h0,_⟩ | ⟨a,len,cap,m,n,D,Pl,cE,_,hl,hm,rQ,_,hi⟩
 .exact .inl h0
 .refine .inr ⟨a,len,cap,cE,hl,hm,fun i lv j f hj => ?_⟩;have D3:i<m:=by rw [rQ];split<;>omega
  obtain ⟨o6,hc,lY⟩:=hi i D3;rw [hC] at hc;obtain ⟨_,iS,br⟩:=World.cells?_some hc;obtain ⟨u,n',y,hu,hy⟩:=Ru he lj hC lY j f hj;have lu:j<fs.size:=(Array.getElem?_eq_some_iff.1 hj).1;refine ⟨u,n',y,?_,hy⟩;rw [<-Go.Deep.add_add,br j lu,hu]
theorem Ri {t e:TypeId} {v:Value} {fuel:Nat} {x:DataW H×List MemPlace} (ht:P.underlying t=some (.slice e)) (he:P.underlying e=some .string) (hc:P.cellsOf e=1) (h:DataW.trod enc P W b0 sp sK fuel t [v]=some x) :
 ∃ (A:Option Addr) (l:List ByteArray) (c:Nat),v = .slice A l.length c/\l.length<=c/\c<=maxLen/\Row W W.heap.size A (l.map .string)/\∀s∈l,s.size<=maxLen:=by
 rcases open_strings ht he hc h with ⟨cE,_⟩ | ⟨a,len,cap,zs,cE,_,hl,hm,hz,_,nZ,FH⟩
 .injection cE with cE _
  exact ⟨none,[],0,cE,Nat.le_refl _,Nat.zero_le _,.inl rfl,by simp⟩
 .injection cE with cE _
  have FI:len<=zs.length:=by rw [hz];split<;>omega
  have aX:(zs.take len).length=len:=by rw [length_take];omega
  refine ⟨some a,zs.take len,cap,by rw [aX];exact cE,by rw [aX];exact hl,hm,I' fun i u hu => ?_,fun s hs=>FH s (mem_of_mem_take hs)⟩;rw [getElem?_map,getElem?_take] at hu;split at hu
  .rename_i hi;have gP:i<zs.length:=by omega
   rw [getElem?_eq_getElem gP] at hu;simp at hu;rw [<-hu,nZ i gP];simp [gP]
  .cases hu
theorem aaz {t e:TypeId} {v:Value} {fuel:Nat} {x:DataW H×List MemPlace} (ht:P.underlying t=some (.slice e)) (he:P.underlying e=some (.int .i64)) (hc:P.cellsOf e=1) (h:DataW.trod enc P W b0 sp sK fuel t [v]=some x) :
 ∃ (A:Option Addr) (l:List Int) (c:Nat),v = .slice A l.length c/\l.length<=c/\c<=maxLen/\Row W W.heap.size A (l.map (.int .i64)):=by
 rcases open_ints ht he hc h with ⟨cE,_⟩ | ⟨a,len,cap,zs,cE,_,hl,hm,hz,_,nZ,FH⟩
 .injection cE with cE _
  exact ⟨none,[],0,cE,Nat.le_refl _,Nat.zero_le _,.inl rfl⟩
 .injection cE with cE _
  have FI:len<=zs.length:=by rw [hz];split<;>omega
  have aX:(zs.take len).length=len:=by rw [length_take];omega
  refine ⟨some a,zs.take len,cap,by rw [aX];exact cE,by rw [aX];exact hl,hm,I' fun i u hu => ?_⟩;rw [getElem?_map,getElem?_take] at hu;split at hu
  .rename_i hi;have gP:i<zs.length:=by omega
   rw [getElem?_eq_getElem gP] at hu;simp at hu;rw [<-hu,nZ i gP];simp [gP]
  .cases hu
end
end Go.Proofs.YtjopcamkclndlaaGreat.Base
namespace Go.Proofs.YtjopcamkclndlaaGreat.Tc
open List Go.ChangeShapes Go.WideShapes Go.ChangeAt Go.RowKit Go.Joins Go.Deep Base
section
variable {α:Type} {f:α->LV} {k:Nat} (hf:∀x,(f x).length=k)
include hf
theorem kI (l:List α):(l.flatMap f).length=l.length*k:=by
 induction l with
 | nil=>simp
 | cons a l ih=>rw [flatMap_cons,aS,ih,hf,length_cons,Nat.add_mul,Nat.one_mul,Nat.add_comm]
theorem MG (l:List α) (i:Nat) (h:i<l.length) (j:Nat) (hj:j<k):(l.flatMap f)[i*k+j]? = (f l[i])[j]? := by
 induction l generalizing i with
 | nil=>simp at h
 | cons a l ih =>
  rw [flatMap_cons];cases i with
  | zero=>rw [Nat.zero_mul,Nat.zero_add,getElem?_append_left (by rw [hf];exact hj)];rfl
  | succ i =>
   have h':i<l.length:=by simpa using h
   have e:(i+1)*k+j=k+(i*k+j):=by rw [Nat.add_mul,Nat.one_mul];omega
   rw [getElem?_append_right (by rw [hf,e];omega),hf,e,Nat.add_sub_cancel_left,ih i h'];rfl
theorem a09 (hk:0<k) {l:List α} {i:Nat} {v:Value} (h:(l.flatMap f)[i]? = some v):∃hi:i / k<l.length,(f l[i / k])[i % k]? = some v:=by
 have ae:i<(l.flatMap f).length:=(bS h).1;rw [kI hf] at ae;have hi:i / k<l.length:=(Nat.div_lt_iff_lt_mul hk).2 ae;refine ⟨hi,?_⟩;have e:=MG hf l (i / k) hi (i % k) (Nat.mod_lt _ hk);rw [Nat.mul_comm,Nat.div_add_mod,h] at e;exact e.symm
theorem Row.rec {w:World} {B:Nat} {A:OA} {l:List α} (h:Row w B A (l.flatMap f)) (hk:0<k) (i:Nat) (hi:i<l.length) :
 ∃b off,A=some ⟨b,off,none⟩/\b<B/\∀j v,(f l[i])[j]? = some v->w.cell? ⟨b,off+i*k+j,none⟩=some v:=by
 have hl:=kI hf l;rcases h with h | ⟨b,off,e,hb,hc⟩
 .rw [h] at hl;have h0:l.length*k=0:=by simpa using hl.symm
  rcases Nat.mul_eq_zero.1 h0 with h0 | h0<;>omega
 .refine ⟨b,off,e,hb,fun j v hv => ?_⟩;have hj:j<k:=by
   have:=(bS hv).1;rw [hf] at this;exact this
  rw [Nat.add_assoc];exact hc _ _ ((MG hf l i hi j hj).trans hv)
theorem Qh {H:Type} {enc:TypeId×Value->H} {P:Program} {W:World} {b0:Nat} {sp:Nat->Bool} {sK:Bool} {t e:TypeId} {fs:Array Field} {v:Value} {fuel:Nat} {x:DataW H×List MemPlace} (Q:α->Prop) (hk:0<k)
 (ht:P.underlying t=some (.slice e)) (he:P.underlying e=some (.struct fs)) (lj:oneCellFields P fs=true) (hC:P.cellsOf e=fs.size) (hs:fs.size=k)
 (abV:∀g:Nat->Option Value,(∀ (j:Nat) (fd:Field),fs[j]? = some fd->∃u n y,g j=some u/\DataW.trod enc P W b0 sp sK n fd.type [u]=some y)->∃y:α,(∀j u,(f y)[j]? = some u->g j=some u)/\Q y)
 (h:DataW.trod enc P W b0 sp sK fuel t [v]=some x):∃ (A:OA) (l:List α) (c:Nat),v = .slice A l.length c/\l.length<=c/\c<=maxLen/\Row W W.heap.size A (l.flatMap f)/\∀y∈l,Q y:=by
 rcases a9' ht he lj hC h with cE | ⟨a,len,cap,cE,hl,hm,hc⟩
 .injection cE with cE _
  exact ⟨none,[],0,cE,aZ _,aZ _,.inl rfl,by simp⟩
 .injection cE with cE _
  obtain ⟨l,cM,hq⟩:=a61 (fun i (p:α)=>(∀j u,(f p)[j]? = some u->W.cell? (a.add (i*k+j))=some u)/\Q p) len (fun i hi=>abV (fun j=>W.cell? (a.add (i*k+j))) (fun j fd hj=>by
   have:=hc i hi j fd hj;rw [hs] at this
   exact this))
  refine ⟨some a,l,cap,by rw [cM];exact cE,by rw [cM];exact hl,hm,I' fun i u hu => ?_,fun p hp => ?_⟩
  .obtain ⟨hi,hg⟩:=a09 hf hk hu;have:=(hq (i / k) hi).1 (i % k) u hg;rw [Nat.mul_comm,Nat.div_add_mod] at this;exact this
  .obtain ⟨i,hi,rfl⟩:=getElem_of_mem hp;exact (hq i hi).2
end
structure jv where
 name:ByteArray
 At:OA
 aQ:List ByteArray
 ct:Nat
 Au:OA
 up:List Int
 cu:Nat
def LZ (t:jv):LV:=[.string t.name,.slice t.At t.aQ.length t.ct,.slice t.Au t.up.length t.cu]
theorem a0C (t:jv):(LZ t).length=3:=rfl
structure rH (w:World) (B:Nat) (t:jv):Prop where
 name:t.name.size<=maxLen
 aQ:Row w B t.At (t.aQ.map .string)
 up:Row w B t.Au (t.up.map (.int .i64))
 nt:t.aQ.length<=maxLen
 nu:t.up.length<=maxLen
 sz:∀s∈t.aQ,s.size<=maxLen
structure cR where
 name:ByteArray
 A:OA
 aw:List jv
 c:Nat
def MT (d:cR):LV:=[.string d.name,.slice d.A d.aw.length d.c]
theorem Xz (d:cR):(MT d).length=2:=rfl
structure mJ (w:World) (B:Nat) (d:cR):Prop where
 name:d.name.size<=maxLen
 n:d.aw.length<=maxLen
 row:Row w B d.A (d.aw.flatMap LZ)
 aw:∀t∈d.aw,rH w B t
structure aW where
 A:OA
 ak:List cR
 c:Nat
 Am:OA
 aU:List ByteArray
 cm:Nat
def aby (s:aW):Value := .agg #[.slice s.A s.ak.length s.c,.slice s.Am s.aU.length s.cm]
structure gW (w:World) (B:Nat) (s:aW):Prop where
 n:s.ak.length<=maxLen
 row:Row w B s.A (s.ak.flatMap MT)
 ak:∀d∈s.ak,mJ w B d
 nm:s.aU.length<=maxLen
 aU:Row w B s.Am (s.aU.map .string)
 sz:∀x∈s.aU,x.size<=maxLen
section
variable {w w':World} {B:Nat}
theorem rH.below {t:jv} (h:rH w B t) (hb:Below B w w'):rH w' B t:=⟨h.name,h.aQ.below hb,h.up.below hb,h.nt,h.nu,h.sz⟩
theorem rH.more {t:jv} {B':Nat} (h:rH w B t) (hB:B<=B'):rH w B' t:=⟨h.name,h.aQ.more hB,h.up.more hB,h.nt,h.nu,h.sz⟩
theorem mJ.below {d:cR} (h:mJ w B d) (hb:Below B w w'):mJ w' B d:=⟨h.name,h.n,h.row.below hb,fun t ht=>(h.aw t ht).below hb⟩
theorem mJ.more {d:cR} {B':Nat} (h:mJ w B d) (hB:B<=B'):mJ w B' d:=⟨h.name,h.n,h.row.more hB,fun t ht=>(h.aw t ht).more hB⟩
theorem gW.below {s:aW} (h:gW w B s) (hb:Below B w w'):gW w' B s:=⟨h.n,h.row.below hb,fun d hd=>(h.ak d hd).below hb,h.nm,h.aU.below hb,h.sz⟩
theorem gW.more {s:aW} {B':Nat} (h:gW w B s) (hB:B<=B'):gW w B' s:=⟨h.n,h.row.more hB,fun d hd=>(h.ak d hd).more hB,h.nm,h.aU.more hB,h.sz⟩
end
theorem mJ.dm {w:World} {B:Nat} {d:cR} (h:mJ w B d) (k:Nat) (hk:k<d.aw.length) :
 ∃b off,d.A=some ⟨b,off,none⟩/\b<B/\w.cell? ⟨b,off+k*3,none⟩=some (.string d.aw[k].name)/\w.cell? ⟨b,off+k*3+1,none⟩=some (.slice d.aw[k].At d.aw[k].aQ.length d.aw[k].ct)/\w.cell? ⟨b,off+k*3+2,none⟩=some (.slice d.aw[k].Au d.aw[k].up.length d.aw[k].cu):=by
 obtain ⟨b,off,e,hb,hc⟩:=Row.rec a0C h.row (by omega) k hk;exact ⟨b,off,e,hb,hc 0 _ rfl,hc 1 _ rfl,hc 2 _ rfl⟩
theorem gW.aj {w:World} {B:Nat} {s:aW} (h:gW w B s) (k:Nat) (hk:k<s.ak.length) :
 ∃b off,s.A=some ⟨b,off,none⟩/\b<B/\w.cell? ⟨b,off+k*2,none⟩=some (.string s.ak[k].name)/\w.cell? ⟨b,off+k*2+1,none⟩=some (.slice s.ak[k].A s.ak[k].aw.length s.ak[k].c):=by
 obtain ⟨b,off,e,hb,hc⟩:=Row.rec Xz h.row (by omega) k hk;exact ⟨b,off,e,hb,hc 0 _ rfl,hc 1 _ rfl⟩
structure Rw where
 A:OA
 aQ:List ByteArray
 c:Nat
 Av:OA
 dP:List Int
 cv:Nat
def vK (r:Rw):LV:=[.slice r.A r.aQ.length r.c,.slice r.Av r.dP.length r.cv]
theorem Cx (r:Rw):(vK r).length=2:=rfl
structure vH (w:World) (B:Nat) (r:Rw):Prop where
 n:r.aQ.length<=maxLen
 aQ:Row w B r.A (r.aQ.map .string)
 sz:∀s∈r.aQ,s.size<=maxLen
 nv:r.dP.length<=maxLen
 dP:Row w B r.Av (r.dP.map (.int .i64))
 wf:∀n∈r.dP,(Lit.int .i64 n).wf=true
theorem vH.below {w w':World} {B:Nat} {r:Rw} (h:vH w B r) (hb:Below B w w'):vH w' B r:=⟨h.n,h.aQ.below hb,h.sz,h.nv,h.dP.below hb,h.wf⟩
theorem vH.more {w:World} {B B':Nat} {r:Rw} (h:vH w B r) (hB:B<=B'):vH w B' r:=⟨h.n,h.aQ.more hB,h.sz,h.nv,h.dP.more hB,h.wf⟩
structure Pos where
 dm:Int
 key:Int
def Fv (p:Pos):LV:=[.int .i64 p.dm,.int .i64 p.key]
theorem a7r (p:Pos):(Fv p).length=2:=rfl
section
variable {H:Type} {enc:TypeId×Value->H} {W:World} {b0:Nat} {sp:Nat->Bool} {sK:Bool} {fuel:Nat} {x:DataW H×List MemPlace} {v:Value}
theorem aaN (h:DataW.trod enc Tryz.prog W b0 sp sK fuel 126 [v]=some x) :
 ∃ (A:OA) (l:List jv) (c:Nat),v = .slice A l.length c/\l.length<=c/\c<=maxLen/\Row W W.heap.size A (l.flatMap LZ)/\∀t∈l,rH W W.heap.size t:=by
 refine Qh a0C (rH W W.heap.size) (by omega) Tryz.underlying126 Tryz.underlying130 (by kernel_rfl) (by kernel_rfl) rfl (fun g hg => ?_) h;obtain ⟨u0,n0,y0,c0,t0⟩:=hg 0 _ rfl;obtain ⟨z0,e0,_,mY⟩:=DataW.trod_string Tryz.underlying9 t0;obtain ⟨u1,n1,y1,c1,t1⟩:=hg 1 _ rfl;obtain ⟨A1,l1,k1,rfl,iT,dg,eC,gv⟩:=Ri Tryz.underlying23 Tryz.underlying9 (by kernel_rfl) t1;obtain ⟨u2,n2,y2,c2,t2⟩:=hg 2 _ rfl;obtain ⟨A2,l2,k2,rfl,mZ,qR,lZ⟩:=aaz Tryz.underlying27 Tryz.underlying3 (by kernel_rfl) t2;injection e0 with e0 _
 subst e0;refine ⟨⟨z0,A1,l1,k1,A2,l2,k2⟩,fun j u hj => ?_,mY,eC,lZ,aT iT dg,aT mZ qR,gv⟩
 match j,hj with
 | 0,hj=>injection hj with hj;subst hj;exact c0
 | 1,hj=>injection hj with hj;subst hj;exact c1
 | 2,hj=>injection hj with hj;subst hj;exact c2
 | j+3,hj=>simp [LZ] at hj
theorem a9U (h:DataW.trod enc Tryz.prog W b0 sp sK fuel 22 [v]=some x) :
 ∃ (A:OA) (l:List cR) (c:Nat),v = .slice A l.length c/\l.length<=c/\c<=maxLen/\Row W W.heap.size A (l.flatMap MT)/\∀t∈l,mJ W W.heap.size t:=by
 refine Qh Xz (mJ W W.heap.size) (by omega) Tryz.underlying22 Tryz.underlying128 (by kernel_rfl) (by kernel_rfl) rfl (fun g hg => ?_) h;obtain ⟨u0,n0,y0,c0,t0⟩:=hg 0 _ rfl;obtain ⟨z0,e0,_,mY⟩:=DataW.trod_string Tryz.underlying9 t0;obtain ⟨u1,n1,y1,c1,t1⟩:=hg 1 _ rfl;obtain ⟨A1,l1,k1,rfl,iT,dg,eC,gv⟩:=aaN t1;injection e0 with e0 _
 subst e0;refine ⟨⟨z0,A1,l1,k1⟩,fun j u hj => ?_,mY,aT iT dg,eC,gv⟩
 match j,hj with
 | 0,hj=>injection hj with hj;subst hj;exact c0
 | 1,hj=>injection hj with hj;subst hj;exact c1
 | j+2,hj=>simp [MT] at hj
theorem a9Y {t e:TypeId} (ht:Tryz.prog.underlying t=some (.slice e)) (he:Tryz.prog.underlying e=some (.int .i64)) (hc:Tryz.prog.cellsOf e=1) (h:DataW.trod enc Tryz.prog W b0 sp sK fuel t [v]=some x) :
 ∃ (A:OA) (l:List Int) (c:Nat),v = .slice A l.length c/\l.length<=c/\c<=maxLen/\Row W W.heap.size A (l.map (.int .i64))/\∀n∈l,(Lit.int .i64 n).wf=true:=by
 rcases open_ints ht he hc h with ⟨cE,_⟩ | ⟨a,len,cap,zs,cE,_,hl,hm,hz,_,nZ,FH⟩
 .injection cE with cE _
  exact ⟨none,[],0,cE,ah _,aZ _,.inl rfl,by simp⟩
 .injection cE with cE _
  have FI:len<=zs.length:=by rw [hz];split<;>omega
  have aX:(zs.take len).length=len:=by rw [length_take];omega
  refine ⟨some a,zs.take len,cap,by rw [aX];exact cE,by rw [aX];exact hl,hm,I' fun i u hu => ?_,fun n hn=>FH n (mem_of_mem_take hn)⟩;rw [getElem?_map,getElem?_take] at hu;split at hu
  .rename_i hi;have gP:i<zs.length:=by omega
   rw [gE gP] at hu;simp at hu;rw [<-hu,nZ i gP];simp [gP]
  .cases hu
theorem a8k (h:DataW.trod enc Tryz.prog W b0 sp sK fuel 26 [v]=some x) :
 ∃ (A:OA) (l:List Rw) (c:Nat),v = .slice A l.length c/\l.length<=c/\c<=maxLen/\Row W W.heap.size A (l.flatMap vK)/\∀t∈l,vH W W.heap.size t:=by
 refine Qh Cx (vH W W.heap.size) (by omega) Tryz.underlying26 Tryz.underlying60 (by kernel_rfl) (by kernel_rfl) rfl (fun g hg => ?_) h;obtain ⟨u0,n0,y0,c0,t0⟩:=hg 0 _ rfl;obtain ⟨A0,l0,k0,rfl,sL,zf,D4,mY⟩:=Ri Tryz.underlying23 Tryz.underlying9 (by kernel_rfl) t0;obtain ⟨u1,n1,y1,c1,t1⟩:=hg 1 _ rfl;obtain ⟨A1,l1,k1,rfl,iT,dg,eC,gv⟩:=a9Y Tryz.underlying58 Tryz.underlying2 (by kernel_rfl) t1;refine ⟨⟨A0,l0,k0,A1,l1,k1⟩,fun j u hj => ?_,aT sL zf,D4,mY,aT iT dg,eC,gv⟩
 match j,hj with
 | 0,hj=>injection hj with hj;subst hj;exact c0
 | 1,hj=>injection hj with hj;subst hj;exact c1
 | j+2,hj=>simp [vK] at hj
theorem aaf {base:Nat} {d:DataW H} {p:List MemPlace} (hv:Value.okWide Tryz.prog W .any base 25 v) (h:DataW.Trod enc Tryz.prog W 0 (fun _=>true) true 25 v d p):∃s,v=aby s/\gW W W.heap.size s:=by
 obtain ⟨cs,rfl,dv⟩:=okWide_struct Tryz.underlying25 hv;have hz:cs.size=2:=dv.trans (by kernel_rfl);obtain ⟨l⟩:=cs
 match l,hz with
 | [v0,v1],_ =>
  obtain ⟨fuel,hf⟩:=h;obtain ⟨u,n,y,hu,hy⟩:=Ru Tryz.underlying25 (by kernel_rfl) (by kernel_rfl) hf 0 _ rfl;obtain ⟨u',n',y',FJ,zg⟩:=Ru Tryz.underlying25 (by kernel_rfl) (by kernel_rfl) hf 1 _ rfl;simp [Value.cells] at hu FJ;subst hu FJ;obtain ⟨A,l,c,rfl,hl,hm,hr,hs⟩:=a9U hy;obtain ⟨A',l',c',rfl,ja,RR,jb,o7⟩:=Ri Tryz.underlying23 Tryz.underlying9 (by kernel_rfl) zg;exact ⟨⟨A,l,c,A',l',c'⟩,rfl,aT hl hm,hr,hs,aT ja RR,jb,o7⟩
end
end Go.Proofs.YtjopcamkclndlaaGreat.Tc
namespace Go.Proofs.YtjopcamkclndlaaGreat.Tc
open List Go.RowKit Base
theorem below_drewN {B:Nat} {a b:World} (h:Below B a b) (n:Nat):Below B a (b.drewN n):=⟨h.os,h.tape,h.output,h.size,h.block⟩
theorem Iv:∀x y:List UInt8,Op.bytesLess x y=true↔x<y
 | [],[]=>by simp [Op.bytesLess]
 | _::_,[]=>by simp [Op.bytesLess]
 | [],_::_=>by simp [Op.bytesLess]
 | a::x,b::y=>by
  rw [Op.bytesLess,cons_lt_cons_iff,<-Iv x y];by_cases h1:a<b<;>by_cases h2:a=b<;>simp [h1,h2]
theorem a6u {x y:List UInt8} (h1:Op.bytesLess x y=false) (h2:(x == y)=false):Op.bytesLess y x=true:=by
 rw [Iv];have jx:¬x<y:=by rw [<-Iv,h1];simp
 have ng:¬x=y:=by simpa using h2
 have h3:y<=x:=List.not_lt.1 jx;exact Std.lt_of_le_of_ne h3 (fun e=>ng e.symm)
theorem Yc {x y z:List UInt8} (h1:Op.bytesLess x y=true) (h2:Op.bytesLess y z=true):Op.bytesLess x z=true:=by
 rw [Iv] at *;exact List.lt_trans h1 h2
theorem Na (x:List UInt8):Op.bytesLess x x=false:=by
 rcases h:Op.bytesLess x x with _ | _
 .rfl
 .rw [Iv] at h;exact absurd h (List.lt_irrefl x)
def fT (P:Int->Prop) (w:World) (e:Ending) (w':World):Prop:=∃r:Int,e = .returned (.int .i64 r)/\P r/\Below w.heap.size w w'
def eW (P:Bool->Prop) (w:World) (e:Ending) (w':World):Prop:=∃r:Bool,e = .returned (.bool r)/\P r/\Below w.heap.size w w'
def zb (s:ByteArray):Prop:=1<=s.size/\s.size<=16
theorem a99 (s:ByteArray) (w:World) (hs:s.size<=maxLen):Calls Tryz.prog 182 #[.string s] w (eW (fun r=>r=true->zb s) w):=by
 unfold maxLen at hs;have HR:=kp (show ∀r w',(r=true->1<=(s.size:Int)/\(s.size:Int)<=16)->Below w.heap.size w w'->eW (fun r=>r=true->zb s) w (.returned (.bool r)) w' from fun r w' h hb=>⟨_,rfl,(fun e=>by have:=h e;unfold zb;omega),hb⟩);generalize hQ:eW (fun r=>r=true->zb s) w=Q at *;clear hQ;go_enter Tryz.func182,Tryz.ntmps182;go_wp2_with fail
 all_goals exact HR.o _ _ (by simp;try omega) (aq _ _)
def lW (c:UInt8):Prop:=(97<=(c.toNat:Int)/\(c.toNat:Int)<=122)\/(48<=(c.toNat:Int)/\(c.toNat:Int)<=57)\/(c.toNat:Int)=95
def pS (s:ByteArray):Prop:=1<=s.size/\s.size<=12/\∀i (h:i<s.size),lW s[i]
theorem Q7 (s:ByteArray) (w:World) (hs:s.size<=maxLen):Calls Tryz.prog 103 #[.string s] w (eW (fun r=>r=true->pS s) w):=by
 unfold maxLen at hs;have HR:=kp (show ∀r w',(r=true->pS s)->Below w.heap.size w w'->eW (fun r=>r=true->pS s) w (.returned (.bool r)) w' from fun r w' h hb=>⟨_,rfl,h,hb⟩);generalize hQ:eW (fun r=>r=true->pS s) w=Q at *;clear hQ;go_enter Tryz.func103,Tryz.ntmps103;by_cases h1:1<=s.size/\s.size<=12
 .have D5:¬ ((s.size:Nat):Int)<1:=by omega
  have RS:¬ (12:Int)<((s.size:Nat):Int):=by omega
  go_wp2_with fail;clear D5 RS
  go_loopw [3] (fun i wr=>∃k:Nat,k<=s.size/\i = .int .i64 k/\(∀i (h:i<s.size),i<k->lW s[i])/\Below w.heap.size w wr) (fun i _=>s.size-(intOf i).toNat)
  case atStart=>exact ⟨0,aZ _,rfl,fun i h h'=>by omega,aq _ _⟩
  case round =>
   obtain ⟨k,hk,rfl,db,aC⟩:=hrel;have eP:=kp db;have ai:=kp aC;clear db aC;by_cases ae:k<s.size
   .have xQ:=kp (show lW s[k]->∀i (h:i<s.size),i<k+1->lW s[i] from fun h i hi oR=>by
     by_cases e:i=k
     .subst e;exact h
     .exact eP.o i hi (by omega))
    go_wp2_with fail
    all_goals first
     | exact HR.o _ _ (fun h=>by cases h) ai.o
     | (have ho:lW s[k]:=by
         unfold lW
         first
          | omega
          | (rename_i hx;simp at hx;omega)
        exact ⟨⟨k+1,by omega,by go_num,xQ.o ho,ai.o⟩,by simp [intOf];omega⟩)
   .go_wp2_with fail;exact HR.o _ _ (fun _=>⟨h1.1,h1.2,fun i hi=>eP.o i hi (by omega)⟩) ai.o
 .go_wp2_with fail
  all_goals first
   | exact HR.o _ _ (fun h=>by cases h) (aq _ _)
   | (exfalso;omega)
def mT (l:List ByteArray):Prop:=(∀s∈l,zb s)/\∀i (h:i+1<l.length),Op.bytesLess l[i].toList l[i+1].toList=true
theorem a5k (A:OA) (l:List ByteArray) (c:Nat) (w:World) (hl:l.length<=maxLen) (hz:∀s∈l,s.size<=maxLen) (hr:Row w w.heap.size A (l.map .string)) :
 Calls Tryz.prog 161 #[.slice A l.length c] w (fT (fun r=>r=0->mT l) w):=by
 unfold maxLen at hl;have HR:=kp (show ∀r w',(r=0->mT l)->Below w.heap.size w w'->fT (fun r=>r=0->mT l) w (.returned (.int .i64 r)) w' from fun r w' h hb=>⟨_,rfl,h,hb⟩);generalize hQ:fT (fun r=>r=0->mT l) w=Q at *;have HI:=kp a99;have Hz:=kp hz;have Hr:=kp hr;clear hQ hz hr;generalize hN:l.length=n at *;have Hn:=kp hN;clear hN;go_enter Tryz.func161,Tryz.ntmps161;go_wp2_with fail
 go_loopw [3] (fun i wr=>∃k:Nat,k<=n/\i = .int .i64 k/\((∀s∈l.take k,zb s)/\∀i (h:i+1<l.length),i+1<k->Op.bytesLess l[i].toList l[i+1].toList=true)/\Below w.heap.size w wr) (fun i _=>n-(intOf i).toNat)
 case atStart=>exact ⟨0,aZ _,rfl,⟨by simp,fun i h h'=>by omega⟩,aq _ _⟩
 case round =>
  obtain ⟨k,hk,rfl,db,aC⟩:=hrel;have eP:=kp db;have ai:=kp aC;clear db aC;by_cases ae:k<n
  .have aA:k<l.length:=by rw [Hn.o];exact ae
   obtain ⟨b,off,rfl,hb,c0⟩:=Row.at_ ((Hr.o.below ai.o).more ai.o.size) (k:=k) (by rw [lM];exact aA);rw [getElem_map] at c0;have Nc:=kp (HI.o (l[k]'aA) wr (Hz.o _ (gM aA)));generalize hx:(l[k]'aA)=x at *;have Hx:=kp hx;clear hx;go_wp2_with fail;refine Nc.o.mono ?_;rintro e w1 ⟨r,rfl,hr,ax⟩;have aM:=aR ai ax;have c1:=aL ax c0;clear ax Nc c0;rcases r with _ | _
   .clear hr;go_wp2_with fail;exact HR.o _ _ (fun h=>by cases h) aM.o
   .have pW:=hr rfl
    have Hs:=kp (show ∀s∈l.take (k+1),zb s from fun s hs=>by
     rw [take_succ_eq_append_getElem aA] at hs;rcases mem_append.1 hs with hs | hs
     .exact eP.o.1 s hs
     .rw [mem_singleton.1 hs,Hx.o];exact pW)
    clear hr pW;rcases k with _ | k
    .have xR:¬ (0:Int)<((0:Nat):Int):=by omega
     go_wp2_with fail
     go_quiet (fail)
     go_wp2_with fail;exact ⟨⟨1,by omega,by go_num,⟨Hs.o,fun i h h'=>by omega⟩,below_drewN aM.o _⟩,by simp [intOf];omega⟩
    .have J9:k<l.length:=by omega
     obtain ⟨b',jy,e',jc,c2⟩:=Row.at_ ((Hr.o.below aM.o).more aM.o.size) (k:=k) (by rw [lM];exact J9);rw [getElem_map] at c2;injection e' with e'
     injection e' with e1 e2 _
     subst e1 e2;generalize hy:(l[k]'J9)=y at *;have Hy:=kp hy;clear hy;have xR:(0:Int)<((k:Nat):Int)+1:=by omega
     go_wp2_with fail
     go_quiet (fail)
     go_wp2_with fail
     .exact HR.o _ _ (fun h=>by cases h) (below_drewN aM.o _)
     .rename_i hc;refine ⟨⟨k+2,by omega,by go_num,⟨Hs.o,fun i hi oR => ?_⟩,below_drewN aM.o _⟩,by simp [intOf];omega⟩;by_cases e:i=k
      .subst e;rw [Hx.o,Hy.o];exact a6u hc.1 hc.2
      .exact eP.o.2 i hi (by omega)
  .go_wp2_with fail;exact HR.o _ _ (fun _=>⟨fun s hs=>eP.o.1 s (by rw [take_of_length_le (by rw [Hn.o];omega)];exact hs),fun i hi=>eP.o.2 i hi (by rw [Hn.o] at hi;omega)⟩) ai.o
theorem aa3 (s:ByteArray):s.toList.length=s.size:=by rw [Lib.toList_data];simp
theorem a0e {s:ByteArray} (h:1<=s.size):s.toList.isEmpty=false/\(s.toList == [])=false/\¬s.toList=[]:=by
 have e:=aa3 s;rcases hl:s.toList with _ | ⟨a,l⟩
 .rw [hl] at e;simp at e;omega
 .simp
theorem a6q {x y:ByteArray} (h:(x.toList == y.toList)=true):x=y:=by
 have h:=eq_of_beq h;rw [Lib.toList_data,Lib.toList_data] at h;cases x with
 | mk xd=>cases y with
  | mk yd=>exact congrArg ByteArray.mk (Array.toList_inj.1 h)
theorem a81 (s:ByteArray) (w:World) (h:zb s):Calls Tryz.prog 170 #[.string s] w fun e w'=>e = .returned (.int .i64 0)/\w=w':=by
 obtain ⟨h1,h2⟩:=h;obtain ⟨e1,e2,e3⟩:=a0e h1;have h3:¬ (16:Int)<(s.size:Int):=by omega
 go_enter Tryz.func170,Tryz.ntmps170;go_wp2_with fail;go_ret;exact ⟨rfl,rfl⟩
theorem Qk (s:ByteArray) (w:World) (h:pS s):Calls Tryz.prog 113 #[.string s] w fun e w'=>e = .returned (.int .i64 0)/\w=w':=by
 obtain ⟨h1,h2,h3⟩:=h;obtain ⟨e1,e2,e3⟩:=a0e h1;have h4:¬ (12:Int)<(s.size:Int):=by omega
 have H3:=kp h3;clear h3;go_enter Tryz.func113,Tryz.ntmps113;go_wp2_with fail;clear e1 e2 e3 h4
 go_loop [14] (fun i=>∃k:Nat,k<=s.size/\i = .int .i64 k) (fun i=>s.size-(intOf i).toNat)
 case atStart=>exact ⟨0,aZ _,rfl⟩
 case round =>
  obtain ⟨k,hk,rfl⟩:=hrel;by_cases ae:k<s.size
  .have ho:=H3.o k ae;unfold lW at ho;go_wp2_with fail
   all_goals first
    | (exfalso;omega)
    | (exfalso;simp at *;omega)
    | (go_round
       case rel=>exact ⟨k+1,by omega,by go_num⟩
       case measure=>simp [intOf];omega)
  .go_wp2_with fail;go_ret;exact ⟨rfl,rfl⟩
theorem a9a (A:OA) (l:List ByteArray) (c:Nat) (w:World) (hl:l.length<=maxLen) (hr:Row w w.heap.size A (l.map .string)) (ho:mT l) :
 Calls Tryz.prog 148 #[.slice A l.length c] w fun e w'=>e = .returned (.int .i64 0)/\w=w':=by
 unfold maxLen at hl;have HC:=kp a81;have Hr:=kp hr;have Ho:=kp ho;clear hr ho;generalize hN:l.length=n at *;have Hn:=kp hN;clear hN;go_enter Tryz.func148,Tryz.ntmps148;go_wp2_with fail
 go_loop [8] (fun i=>∃k:Nat,k<=n/\i = .int .i64 k) (fun i=>n-(intOf i).toNat)
 case atStart=>exact ⟨0,aZ _,rfl⟩
 case round =>
  obtain ⟨k,hk,rfl⟩:=hrel;by_cases ae:k<n
  .have aA:k<l.length:=by rw [Hn.o];exact ae
   obtain ⟨b,off,rfl,hb,c0⟩:=Row.at_ Hr.o (k:=k) (by rw [lM];exact aA);rw [getElem_map] at c0;have ee:=kp (HC.o (l[k]'aA) w (Ho.o.1 _ (gM aA)));rcases k with _ | k
   .rw [Nat.add_zero] at c0;generalize (l[0]'aA)=x at *;have xR:¬ (0:Int)<((0:Nat):Int):=by omega
    go_wp2_with fail;refine ee.o.mono ?_;rintro e w' ⟨rfl,rfl⟩;go_wp2_with fail
    go_round
    case rel=>exact ⟨1,by omega,by go_num⟩
    case measure=>simp [intOf];omega
   .have J9:k<l.length:=by omega
    obtain ⟨b',jy,e',jc,c2⟩:=Row.at_ Hr.o (k:=k) (by rw [lM];exact J9);rw [getElem_map] at c2;injection e' with e'
    injection e' with e1 e2 _
    subst e1 e2;have iE:=Ho.o.2 k aA;generalize (l[k]'J9)=y at *;generalize (l[k+1]'aA)=x at *;have xR:(0:Int)<((k:Nat):Int)+1:=by omega
    go_wp2_with fail;refine ee.o.mono ?_;rintro e w' ⟨rfl,rfl⟩;go_wp2_with fail
    go_round
    case rel=>exact ⟨k+2,by omega,by go_num⟩
    case measure=>simp [intOf];omega
  .go_wp2_with fail;go_ret;exact ⟨rfl,rfl⟩
def Iu (l:List ByteArray) (x:ByteArray) (r:Int):Prop:=(0<=r->∃i:Nat,r=(i:Int)/\l[i]? = some x)/\(r<0->∀i:Nat,l[i]? ≠ some x)
theorem a9M (A:OA) (l:List ByteArray) (c:Nat) (x:ByteArray) (w:World) (hl:l.length<=maxLen) (hr:Row w w.heap.size A (l.map .string)) :
 Calls Tryz.prog 55 #[.slice A l.length c,.string x] w (fT (Iu l x) w):=by
 unfold maxLen at hl;have HR:=kp (show ∀ (r:Int) w',Iu l x r->Below w.heap.size w w'->fT (Iu l x) w (.returned (.int .i64 r)) w' from fun r w' h hb=>⟨_,rfl,h,hb⟩);generalize hQ:fT (Iu l x) w=Q at *;clear hQ;have Hr:=kp hr;clear hr;generalize hN:l.length=n at *;have Hn:=kp hN;clear hN;go_enter Tryz.func55,Tryz.ntmps55;go_wp2_with fail
 go_loop [5] (fun i=>∃k:Nat,k<=n/\i = .int .i64 k/\∀j,j<k->l[j]? ≠ some x) (fun i=>n-(intOf i).toNat)
 case atStart=>exact ⟨0,aZ _,rfl,fun j h=>by omega⟩
 case round =>
  obtain ⟨k,hk,rfl,eG⟩:=hrel;have kn:=kp eG;clear eG;by_cases ae:k<n
  .have aA:k<l.length:=by rw [Hn.o];exact ae
   obtain ⟨b,off,rfl,hb,c0⟩:=Row.at_ Hr.o (k:=k) (by rw [lM];exact aA);rw [getElem_map] at c0;have Hy:=kp (gE aA);generalize (l[k]'aA)=y at *;rcases he:(y.toList == x.toList) with _ | _
   .have dw:=kp (show ∀j,j<k+1->l[j]? ≠ some x from fun j hj=>by
     by_cases e:j=k
     .subst e;rw [Hy.o];intro hh;injection hh with hh
      rw [hh] at he;simp at he
     .exact kn.o j (by omega))
    go_wp2_with fail
    go_round
    case rel=>exact ⟨k+1,by omega,by go_num,dw.o⟩
    case measure=>simp [intOf];omega
   .have Hyx:=kp (a6q he);go_wp2_with fail;exact HR.o _ _ ⟨fun _=>⟨k,rfl,by rw [Hy.o,Hyx.o]⟩,fun h=>by omega⟩ (aq _ _)
  .go_wp2_with fail;exact HR.o _ _ ⟨fun h=>by omega,fun _ j hj=>kn.o j (by have:=(bS hj).1;rw [Hn.o] at this;omega) hj⟩ (aq _ _)
theorem a8f (x:ByteArray) (w:World):Calls Tryz.prog 184 #[.string x] w fun e w'=>e = .returned (.bool false)/\w=w':=by
 go_enter Tryz.func184,Tryz.ntmps184;go_wp2_with fail;go_ret;exact ⟨by simp,rfl⟩
theorem a6Y (x y:ByteArray) (w:World):Calls Tryz.prog 165 #[.string x,.string y] w fun e w'=>e = .returned (.bool (Op.bytesLess x.toList y.toList))/\w=w':=by
 have HN:=kp a8f;go_enter Tryz.func165,Tryz.ntmps165
 go_wp2_with (go_at_call 184;refine (HN.o _ _).mono ?_;rintro e w' ⟨rfl,rfl⟩)
 go_ret;exact ⟨rfl,rfl⟩
theorem mT.lt {l:List ByteArray} (h:mT l) {i j:Nat} (hij:i<j) (hj:j<l.length):Op.bytesLess (l[i]'(by omega)).toList l[j].toList=true:=by
 induction j with
 | zero=>omega
 | succ j ih =>
  by_cases e:i=j
  .subst e;exact h.2 i hj
  .exact Yc (ih (by omega) (by omega)) (h.2 j hj)
theorem mT.less {l:List ByteArray} (h:mT l) {i j:Nat} (hi:i<l.length) (hj:j<l.length):Op.bytesLess l[i].toList l[j].toList=decide (i<j):=by
 by_cases hij:i<j
 .rw [h.lt hij hj,decide_eq_true hij]
 .rw [decide_eq_false hij];by_cases e:i=j
  .subst e;exact Na _
  .rcases hb:Op.bytesLess l[i].toList l[j].toList with _ | _
   .rfl
   .have:=Yc hb (h.lt (show j<i by omega) hi);rw [Na] at this;cases this
theorem a5R (A:OA) (l:List ByteArray) (c:Nat) (i:Nat) (x:ByteArray) (w:World) (hl:l.length<=1000000) (hr:Row w w.heap.size A (l.map .string)) (ho:mT l) (hi:l[i]? = some x) :
 Calls Tryz.prog 141 #[.slice A l.length c,.string x] w fun e w'=>e = .returned (.tuple #[.int .i64 i,.bool true])/\Below w.heap.size w w':=by
 have HL:=kp a6Y;have lv:i<l.length:=(bS hi).1;have Bh:l[i]=x:=(bS hi).2;have Hr:=kp hr
 have xS:=kp (show ∀j y,l[j]? = some y->Op.bytesLess y.toList x.toList=decide (j<i) from fun j y hj=>by
  obtain ⟨vW,rfl⟩:=bS hj
  rw [<-Bh];exact ho.less vW lv)
 have Hi:=kp hi;clear hr ho hi Bh;generalize hN:l.length=n at *;have Hn:=kp hN;clear hN;go_enter Tryz.func141,Tryz.ntmps141;go_wp2_with fail
 go_loopw [7,8] (fun s7 s8 wr=>∃lo hi:Nat,s7 = .int .i64 lo/\s8 = .int .i64 hi/\lo<=i/\i<=hi/\hi<=n/\Below w.heap.size w wr) (fun s7 s8 _=>(intOf s8).toNat-(intOf s7).toNat)
 case atStart=>exact ⟨0,n,rfl,rfl,aZ _,by omega,ah _,aq _ _⟩
 case round =>
  obtain ⟨lo,hi,rfl,rfl,h1,h2,h3,aC⟩:=hrel;have ai:=kp aC;clear aC;by_cases ae:lo<hi
  .have nh:(lo+hi) / 2<l.length:=by rw [Hn.o];omega
   obtain ⟨b,off,rfl,hb,c0⟩:=Row.at_ ((Hr.o.below ai.o).more ai.o.size) (k:=(lo+hi) / 2) (by rw [lM];exact nh);rw [getElem_map] at c0;have fZ:=xS.o _ _ (gE nh);generalize (l[(lo+hi) / 2]'nh)=y at *;have D6:=kp (HL.o y x);rw [fZ] at D6;clear fZ;have zf:(0:Int)<=((lo:Int)+(hi:Int)) / 2:=by omega
   have dg:((lo:Int)+(hi:Int)) / 2<(n:Int):=by omega
   by_cases Nf:(lo+hi) / 2<i
   .rw [decide_eq_true Nf] at D6;go_wp2_with fail;refine (D6.o _).mono ?_;rintro e w' ⟨rfl,rfl⟩;go_wp2_with fail;refine ⟨⟨(lo+hi) / 2+1,hi,by go_num,rfl,by omega,by omega,by omega,ai.o⟩,by simp [intOf];omega⟩
   .rw [decide_eq_false Nf] at D6;go_wp2_with fail;refine (D6.o _).mono ?_;rintro e w' ⟨rfl,rfl⟩;go_wp2_with fail;refine ⟨⟨lo,(lo+hi) / 2,rfl,by go_num,by omega,by omega,by omega,ai.o⟩,by simp [intOf];omega⟩
  .obtain rfl:i=lo:=by omega
   have a1m:i<l.length:=by rw [Hn.o];exact lv
   obtain ⟨b,off,rfl,hb,c0⟩:=Row.at_ ((Hr.o.below ai.o).more ai.o.size) (k:=i) (by rw [lM];exact a1m);rw [getElem_map] at c0;have hxe:(l[i]'a1m)=x:=(bS Hi.o).2;rw [hxe] at c0;have FK:(x.toList == x.toList)=true:=by simp
   clear hxe;go_wp2_with fail;go_ret2;exact ⟨rfl,ai.o⟩
theorem a7Q (A:OA) (l:List ByteArray) (c:Nat) (i:Nat) (x:ByteArray) (w:World) (hl:l.length<=1000000) (hr:Row w w.heap.size A (l.map .string)) (ho:mT l) (hi:l[i]? = some x) :
 Calls Tryz.prog 105 #[.slice A l.length c,.string x] w fun e w'=>e = .returned (.tuple #[.int .i64 i,.bool true])/\Below w.heap.size w w':=by
 have HS:=kp (a5R A l c i x w hl hr ho hi);clear hl hr ho hi;generalize l.length=n at *;go_enter Tryz.func105,Tryz.ntmps105;go_wp2_with fail;refine HS.o.mono ?_;rintro e w' ⟨rfl,hb⟩;have Hb:=kp hb;clear hb;go_wp2_with fail;go_ret2;exact ⟨rfl,Hb.o⟩
theorem eW.mono {P:Bool->Prop} {w:World} {r:Bool} {w':World} (h:P r) (hb:Below w.heap.size w w'):eW P w (.returned (.bool r)) w':=⟨r,rfl,h,hb⟩
theorem fT.mono {P:Int->Prop} {w:World} {r:Int} {w':World} (h:P r) (hb:Below w.heap.size w w'):fT P w (.returned (.int .i64 r)) w':=⟨r,rfl,h,hb⟩
abbrev iz (t:jv):AV:=#[.string t.name,.slice t.At t.aQ.length t.ct,.slice t.Au t.up.length t.cu]
abbrev ew (d:cR):AV:=#[.string d.name,.slice d.A d.aw.length d.c]
theorem a8V (t:jv) (w:World) (h:rH w w.heap.size t):Calls Tryz.prog 101 #[.agg (iz t)] w (eW (fun _=>True) w):=by
 unfold iz;have HR:=kp (fun r w' hb=>eW.mono (P:=fun _=>True) (w:=w) (r:=r) (w':=w') trivial hb);have Hr:=kp h.aQ;have hn:=h.nt;have hu:=h.nu;have ma:=h.name;have Hz:=kp h.sz;unfold maxLen at hn hu ma;clear h;generalize hQ:eW (fun _=>True) w=Q at *;clear hQ;generalize hL:t.aQ=l at *;clear hL;generalize t.name=nm at *;generalize t.At=A at *;generalize t.ct=ct at *;generalize t.Au=Au at *;generalize t.up.length=nu at *;generalize t.cu=cu at *;generalize hN:l.length=n at *;have Hn:=kp hN;clear hN;by_cases h5:(nm.size:Int)<=5000
 all_goals
  go_enter Tryz.func101,Tryz.ntmps101;go_wp2_with fail
  go_loopw [3,4] (fun v3 v4 wr=>∃ (k:Nat) (x:Int),k<=n/\k<=221/\v3 = .int .i64 x/\v4 = .int .i64 k/\aa wr w.heap.size 130 #[.string nm,.slice A n ct,.slice Au nu cu]/\Below w.heap.size w wr) (fun _ v4 _=>n-(intOf v4).toNat)
  case atStart=>exact ⟨0,_,aZ _,by omega,rfl,rfl,aa.new _ _ _,(aq _ _).alloc (ah _) _⟩
  case round =>
   obtain ⟨k,x,hk,Bi,rfl,rfl,aJ,aC⟩:=hrel;obtain ⟨b0,b1,b2,_,_,_⟩:=aJ.three;have bO:=kp aJ;have ai:=kp aC;clear aJ aC;by_cases ae:k<n
   .by_cases aey:k<=220
    .have aA:k<l.length:=by rw [Hn.o];exact ae
     obtain ⟨b,off,rfl,hb,c0⟩:=Row.at_ ((Hr.o.below ai.o).more ai.o.size) (k:=k) (by rw [lM];exact aA);rw [getElem_map] at c0;have dv:=Hz.o _ (gM aA);unfold maxLen at dv;generalize (l[k]'aA)=s at *;go_wp2_with fail
     all_goals exact ⟨⟨k+1,_,by omega,by omega,rfl,by go_num,bO.o,ai.o⟩,by simp [intOf];omega⟩
    .have aez:¬ ((k:Nat):Int)<=220:=by omega
     go_wp2_with fail
     all_goals exact HR.o _ _ ai.o
   .have abW:¬ ((k:Nat):Int)<(n:Int):=by omega
    go_wp2_with fail
    all_goals exact HR.o _ _ ai.o
theorem a7b (d:cR) (w:World) (h:mJ w w.heap.size d):Calls Tryz.prog 53 #[.agg (ew d)] w (eW (fun _=>True) w):=by
 have HR:=kp (fun r w' hb=>eW.mono (P:=fun _=>True) (w:=w) (r:=r) (w':=w') trivial hb);have Hd:=kp h;have hn:=h.n;have ma:=h.name;have HF:=kp a8V;unfold maxLen at hn ma;clear h;generalize hQ:eW (fun _=>True) w=Q at *;clear hQ;go_enter Tryz.func53,Tryz.ntmps53;go_wp2_with fail
 go_loopw [3] (fun v3 wr=>∃ (k:Nat),k<=d.aw.length/\k<=7/\v3 = .int .i64 k/\aa wr w.heap.size 128 (ew d)/\Below w.heap.size w wr) (fun v3 _=>d.aw.length-(intOf v3).toNat)
 case atStart=>exact ⟨0,aZ _,by omega,rfl,aa.new _ _ _,(aq _ _).alloc (ah _) _⟩
 case round =>
  obtain ⟨k,hk,Bi,rfl,aJ,aC⟩:=hrel;obtain ⟨b0,b1,_,_⟩:=aJ.two;have bO:=kp aJ;have ai:=kp aC;clear aJ aC;by_cases ae:k<d.aw.length
  .by_cases h6:k<=6
   .have pX:=(Hd.o.below ai.o).more ai.o.size;obtain ⟨b,off,hA,hb,c0,c1,c2⟩:=pX.dm k ae;rw [hA] at b1;have sM:=kp (HF.o (d.aw[k]'ae) wr (pX.aw _ (gM ae)));unfold iz at sM;clear pX hA;generalize (d.aw[k]'ae).name=x0 at *;generalize (d.aw[k]'ae).At=x1 at *;generalize (d.aw[k]'ae).aQ.length=x2 at *;generalize (d.aw[k]'ae).ct=x3 at *;generalize (d.aw[k]'ae).Au=x4 at *;generalize (d.aw[k]'ae).up.length=x5 at *;generalize (d.aw[k]'ae).cu=x6 at *;go_wp2_with fail;refine sM.o.mono ?_;rintro e w1 ⟨r,rfl,_,ax⟩;have aM:=aR ai ax;have abX:=bu bO ax;clear ax sM;rcases r with _ | _
    .go_wp2_with fail;exact HR.o _ _ aM.o
    .go_wp2_with fail;exact ⟨⟨k+1,by omega,by omega,by go_num,abX.o,aM.o⟩,by simp [intOf];omega⟩
   .have h6':¬ ((k:Nat):Int)<=6:=by omega
    go_wp2_with fail
    all_goals exact HR.o _ _ ai.o
  .have abW:¬ ((k:Nat):Int)<(d.aw.length:Int):=by omega
   go_wp2_with fail
   all_goals exact HR.o _ _ ai.o
theorem a6r (A:OA) (l:List Int) (c:Nat) (n:Int) (w:World) (hl:l.length<=maxLen) (hr:Row w w.heap.size A (l.map (.int .i64))) :
 Calls Tryz.prog 183 #[.slice A l.length c,.int .i64 n] w fun e w'=>e = .returned (.bool (decide (n∈l)))/\w=w':=by
 unfold maxLen at hl;have Hr:=kp hr;have HY:=kp (show ∀k,l[k]? = some n->decide (n∈l)=true from fun k h=>by simp;exact mem_of_getElem? h)
 have HN:=kp (show (∀k y,l[k]? = some y->y≠n)->decide (n∈l)=false from fun h=>by
  rw [decide_eq_false_iff_not];intro hm;obtain ⟨k,hk,e⟩:=getElem_of_mem hm
  exact h k _ (gE hk) e)
 generalize decide (n∈l)=V at *;clear hr;generalize hN:l.length=m at *;have Hm:=kp hN;clear hN;go_enter Tryz.func183,Tryz.ntmps183;go_wp2_with fail
 go_loop [9] (fun i=>∃k:Nat,k<=m/\i = .int .i64 k/\∀j y,j<k->l[j]? = some y->y≠n) (fun i=>m-(intOf i).toNat)
 case atStart=>exact ⟨0,aZ _,rfl,fun j y h=>by omega⟩
 case round =>
  obtain ⟨k,hk,rfl,eG⟩:=hrel;have kn:=kp eG;clear eG;by_cases ae:k<m
  .have aA:k<l.length:=by rw [Hm.o];exact ae
   obtain ⟨b,off,rfl,hb,c0⟩:=Row.at_ Hr.o (k:=k) (by rw [lM];exact aA);rw [getElem_map] at c0;have Hy:=kp (gE aA);generalize (l[k]'aA)=y at *;by_cases he:y=n
   .subst he;have hyy:(y == y)=true:=by simp
    have HV:=kp (HY.o k Hy.o);go_wp2_with fail;go_ret;exact ⟨by rw [HV.o];rfl,rfl⟩
   .have hyn:(y == n)=false:=by simpa using he
    have dw:=kp (show ∀j z,j<k+1->l[j]? = some z->z≠n from fun j z hj hz=>by
     by_cases e:j=k
     .subst e;rw [Hy.o] at hz;injection hz with hz
      rw [<-hz];exact he
     .exact kn.o j z (by omega) hz)
    clear he;go_wp2_with fail
    go_round
    case rel=>exact ⟨k+1,by omega,by go_num,dw.o⟩
    case measure=>simp [intOf];omega
  .have HV:=kp (HN.o (fun j y hj=>kn.o j y (by have:=(bS hj).1;rw [Hm.o] at this;omega) hj));go_wp2_with fail;go_ret;exact ⟨by rw [HV.o];rfl,rfl⟩
structure tM (t:jv) (dM:Int):Prop where
 top:dM<=0->t.up=[]
 len:0<dM->t.up.length=t.aQ.length
 most:dM<=200
 up:∀n∈t.up,0<=n/\n<dM
 all:∀i:Nat,(i:Int)<dM->(i:Int)∈t.up
theorem a8x (t:jv) (dM:Int) (w:World) (h:rH w w.heap.size t) (ha:dM<=9223372036854775807):Calls Tryz.prog 162 #[.agg (iz t),.int .i64 dM] w (eW (fun r=>r=true->tM t dM) w):=by
 unfold iz;have HR:=kp (fun r w' h hb=>eW.mono (P:=fun r=>r=true->tM t dM) (w:=w) (r:=r) (w':=w') h hb);have Hr:=kp h.up;have hn:=h.nt;have hu:=h.nu;have HT:=kp (show t.up=t.up from rfl);unfold maxLen at hn hu;clear h;generalize hQ:eW (fun r=>r=true->tM t dM) w=Q at *;clear hQ;have lz:=kp (show t.up.length=t.up.length/\t.aQ.length=t.aQ.length from ⟨rfl,rfl⟩);have FL:=kp a6r;by_cases ha0:dM<=0
 .by_cases sL:t.up.length=0
  .have hz:((t.up.length:Int) == 0)=true:=by rw [beq_iff_eq];omega
   have eP:=kp (show tM t dM from ⟨fun _=>length_eq_zero_iff.1 sL,fun h=>by omega,by omega,fun n hn=>by rw [length_eq_zero_iff.1 sL] at hn;simp at hn,fun i h=>by omega⟩);clear sL;go_enter Tryz.func162,Tryz.ntmps162;go_wp2_with fail;exact HR.o _ _ (fun _=>eP.o) ((aq _ _).alloc (ah _) _)
  .have hz:((t.up.length:Int) == 0)=false:=by rw [beq_eq_false_iff_ne];omega
   clear sL;go_enter Tryz.func162,Tryz.ntmps162;go_wp2_with fail;exact HR.o _ _ (fun h=>by cases h) ((aq _ _).alloc (ah _) _)
 .have aeA:¬dM<=0:=ha0;by_cases dR:t.up.length=t.aQ.length
  .by_cases Bj:dM<=200
   .have av:((t.up.length:Int) != (t.aQ.length:Int))=false:=by simp;omega
    have ng:¬ (200:Int)<dM:=by omega
    have au:=(aq w.heap.size w).alloc (ah _) (.cells (iz t) 130);have ay:=kp au;have Ng:=kp ((Hr.o.below au).more au.size);have abY:=kp (fun i=>FL.o t.Au t.up t.cu i _ (by unfold maxLen;omega) Ng.o);have pY:=kp (show (∀j n,t.up[j]? = some n->0<=n/\n<dM)->(∀i:Nat,(i:Int)<dM->(i:Int)∈t.up)->tM t dM from fun g1 g2=>⟨fun h=>by omega,fun _=>dR,Bj,fun n hn=>by obtain ⟨j,hj,e⟩:=getElem_of_mem hn;exact g1 j n (by rw [gE hj,e]),g2⟩);clear au dR HT lz;unfold iz at *;generalize t.name=x0 at *;generalize t.At=x1 at *;generalize t.aQ.length=x2 at *;generalize t.ct=x3 at *;generalize t.Au=x4 at *;generalize t.up=up at *;generalize t.cu=x6 at *;generalize hN:up.length=n at *;have Hn:=kp hN;clear hN;go_enter Tryz.func162,Tryz.ntmps162;go_wp2_with fail;clear av;obtain ⟨b0,b1,b2,_,_,_⟩:=(aa.new w 130 #[.string x0,.slice x1 x2 x3,.slice x4 n x6]).three;generalize w.alloc (.cells #[.string x0,.slice x1 x2 x3,.slice x4 n x6] 130)=W0 at *
    go_loop [28] (fun i=>∃k:Nat,k<=n/\i = .int .i64 k/\∀j y,j<k->up[j]? = some y->0<=y/\y<dM) (fun i=>n-(intOf i).toNat)
    case atStart=>exact ⟨0,aZ _,rfl,fun j y h=>by omega⟩
    case round =>
     obtain ⟨k,hk,rfl,db⟩:=hrel;have eP:=kp db;clear db;by_cases ae:k<n
     .have aA:k<up.length:=by rw [Hn.o];exact ae
      obtain ⟨b,off,rfl,hb,c0⟩:=Row.at_ Ng.o (k:=k) (by rw [lM];exact aA);rw [getElem_map] at c0;have Hy:=kp (gE aA);generalize (up[k]'aA)=y at *;by_cases hy:0<=y/\y<dM
      .obtain ⟨D8,vX⟩:=hy;have aeB:¬y<0:=by omega
       have aeC:¬dM<=y:=by omega
       have dw:=kp (show ∀j z,j<k+1->up[j]? = some z->0<=z/\z<dM from fun j z hj hz=>by
        by_cases e:j=k
        .subst e;rw [Hy.o] at hz;injection hz with hz
         rw [<-hz];exact ⟨D8,vX⟩
        .exact eP.o j z (by omega) hz)
       go_wp2_with fail
       go_round
       case rel=>exact ⟨k+1,by omega,by go_num,dw.o⟩
       case measure=>simp [intOf];omega
      .go_wp2_with fail
       all_goals first
        | exact HR.o _ _ (fun h=>by cases h) ay.o
        | (exfalso;omega)
     .have RT:=kp (show ∀j y,up[j]? = some y->0<=y/\y<dM from fun j y hj=>eP.o j y (by have:=(bS hj).1;rw [Hn.o] at this;omega) hj);go_wp2_with fail
      go_loop [7] (fun i=>∃k:Nat,(k:Int)<=dM/\i = .int .i64 k/\∀j:Nat,j<k->(j:Int)∈up) (fun i=>(dM-intOf i).toNat)
      case atStart=>exact ⟨0,by omega,rfl,fun j h=>by omega⟩
      case round =>
       obtain ⟨q,hq,rfl,lh⟩:=hrel;have Bk:=kp lh;clear lh;by_cases hqa:(q:Int)<dM
       .have HI:=kp (abY.o (q:Int));by_cases hm:(q:Int)∈up
        .rw [decide_eq_true hm] at HI
         have dw:=kp (show ∀j:Nat,j<q+1->(j:Int)∈up from fun j hj=>by
          by_cases e:j=q
          .subst e;exact hm
          .exact Bk.o j (by omega))
         clear hm;go_wp2_with fail;refine HI.o.mono ?_;rintro e w' ⟨rfl,rfl⟩;go_wp2_with fail
         go_round
         case rel=>exact ⟨q+1,by omega,by go_num,dw.o⟩
         case measure=>simp [intOf];omega
        .rw [decide_eq_false hm] at HI;clear hm;go_wp2_with fail;refine HI.o.mono ?_;rintro e w' ⟨rfl,rfl⟩;go_wp2_with fail;exact HR.o _ _ (fun h=>by cases h) ay.o
       .go_wp2_with fail;exact HR.o _ _ (fun _=>pY.o RT.o (fun i hi=>Bk.o i (by omega))) ay.o
   .have av:((t.up.length:Int) != (t.aQ.length:Int))=false:=by simp;omega
    have ng:(200:Int)<dM:=by omega
    go_enter Tryz.func162,Tryz.ntmps162;go_wp2_with fail;exact HR.o _ _ (fun h=>by cases h) ((aq _ _).alloc (ah _) _)
  .have av:((t.up.length:Int) != (t.aQ.length:Int))=true:=by simp;omega
   go_enter Tryz.func162,Tryz.ntmps162;go_wp2_with fail;exact HR.o _ _ (fun h=>by cases h) ((aq _ _).alloc (ah _) _)
structure vC (t:jv) (dM:Int):Prop where
 name:pS t.name
 n1:1<=t.aQ.length
 n2:t.aQ.length<=200
 row:mT t.aQ
 tree:tM t dM
theorem a6K (t:jv) (dM:Int) (w:World) (h:rH w w.heap.size t) (ha:dM<=9223372036854775807):Calls Tryz.prog 138 #[.agg (iz t),.int .i64 dM] w (fT (fun r=>r=0->vC t dM) w):=by
 have HR:=kp (fun r w' h hb=>fT.mono (P:=fun r=>r=0->vC t dM) (w:=w) (r:=r) (w':=w') h hb);have au:=(aq w.heap.size w).alloc (ah _) (.cells (iz t) 130);have ay:=kp au;have h0:=(h.below au).more au.size;have HB:=kp (aa.new w 130 (iz t));have hn:=h.nt;have HN:=kp (Q7 t.name (w.alloc (.cells (iz t) 130)) h.name);have rR:=kp (show ∀W,Below (w.alloc (.cells (iz t) 130)).heap.size (w.alloc (.cells (iz t) 130)) W->Calls Tryz.prog 161 #[.slice t.At t.aQ.length t.ct] W (fT (fun r=>r=0->mT t.aQ) W) from fun W hW=>a5k t.At t.aQ t.ct W h.nt h.sz ((h0.aQ.below hW).more hW.size));have HTr:=kp (show ∀W,Below (w.alloc (.cells (iz t) 130)).heap.size (w.alloc (.cells (iz t) 130)) W->Calls Tryz.prog 162 #[.agg (iz t),.int .i64 dM] W (eW (fun r=>r=true->tM t dM) W) from fun W hW=>a8x t dM W ((h0.below hW).more hW.size) ha);have pY:=kp (show pS t.name->1<=t.aQ.length->t.aQ.length<=200->mT t.aQ->tM t dM->vC t dM from fun a b c d e=>⟨a,b,c,d,e⟩);unfold maxLen at hn;unfold iz at *;clear h au h0 ha;generalize hQ:fT (fun r=>r=0->vC t dM) w=Q at *;clear hQ;generalize pS t.name=P1 at *;generalize mT t.aQ=P2 at *;generalize tM t dM=P3 at *;generalize vC t dM=P4 at *;generalize t.name=x0 at *;generalize t.At=x1 at *;generalize t.aQ.length=n at *;generalize t.ct=x3 at *;generalize t.Au=x4 at *;generalize t.up.length=x5 at *;generalize t.cu=x6 at *;go_enter Tryz.func138,Tryz.ntmps138;go_wp2_with fail;generalize w.alloc (.cells #[.string x0,.slice x1 n x3,.slice x4 x5 x6] 130)=W0 at *;refine HN.o.mono ?_;rintro e w1 ⟨r,rfl,hr,ax⟩;have aM:=kp ax;have bL:=bu HB ax;obtain ⟨b0,b1,b2,_,_,_⟩:=bL.o.three;clear ax HN;have Hr:=kp hr;clear hr;rcases r with _ | _
 .go_wp2_with fail;exact HR.o _ _ (fun h=>by cases h) (ay.o.trans (aM.o.mono ay.o.size))
 .by_cases h1:1<=n/\n<=200
  .obtain ⟨h1,h2⟩:=h1;have jx:¬ ((n:Nat):Int)<1:=by omega
   have ng:¬ (200:Int)<((n:Nat):Int):=by omega
   go_wp2_with fail;refine (rR.o _ aM.o).mono ?_;rintro e w2 ⟨r2,rfl,lZ,aH⟩;have aF:=aR aM aH;have aV:=bu bL aH;have Nh:=kp lZ;clear aH lZ b0 b1 b2;obtain ⟨b0,b1,b2,_,_,_⟩:=aV.o.three;by_cases he:r2=0
   .subst he;have xR:((0:Int) != 0)=false:=by simp
    go_wp2_with fail;refine (HTr.o _ aF.o).mono ?_;rintro e w3 ⟨r3,rfl,uZ,aN⟩;have bC:=aR aF aN;have Hr3:=kp uZ;clear aN uZ;rcases r3 with _ | _
    .go_wp2_with fail;exact HR.o _ _ (fun h=>by cases h) (ay.o.trans (bC.o.mono ay.o.size))
    .go_wp2_with fail;exact HR.o _ _ (fun _=>pY.o (Hr.o (by trivial)) h1 h2 (Nh.o (by trivial)) (Hr3.o (by trivial))) (ay.o.trans (bC.o.mono ay.o.size))
   .have av:(r2 != 0)=true:=by simpa using he
    go_wp2_with fail;exact HR.o _ _ (fun h=>absurd h he) (ay.o.trans (aF.o.mono ay.o.size))
  .go_wp2_with fail
   all_goals first
    | exact HR.o _ _ (fun h=>by cases h) (ay.o.trans (aM.o.mono ay.o.size))
    | (exfalso;omega)
def ij (d:cR) (k:Nat):Int:=match d.aw[k+1]? with
 | some t=>(t.aQ.length:Nat)
 | none=>0
theorem abu {w:World} {B:Nat} {d:cR} (h:mJ w B d) (k:Nat):ij d k<=9223372036854775807:=by
 unfold ij;split
 .next t ht =>
  have:=(h.aw t (mem_of_getElem? ht)).nt;unfold maxLen at this;omega
 .omega
theorem a5A (d:cR) (k:Nat) (w:World) (h:mJ w w.heap.size d) (hk:k<d.aw.length):Calls Tryz.prog 139 #[.agg (ew d),.int .i64 k] w fun e w'=>e = .returned (.int .i64 (ij d k))/\Below w.heap.size w w':=by
 have hn:=h.n;unfold maxLen at hn;have au:=(aq w.heap.size w).alloc (ah _) (.cells (ew d) 128);by_cases cz:k+1<d.aw.length
 .have h0:=(h.below au).more au.size;obtain ⟨b,off,hA,hb,c0,c1,c2⟩:=h0.dm (k+1) cz;have HV:=kp (show ij d k=((d.aw[k+1]'cz).aQ.length:Nat) by unfold ij;rw [gE cz]);generalize ij d k=V at *;have RU:¬ (d.aw.length:Int)<=(k:Int)+1:=by omega
  have dz:(0:Int)<=(k:Int)+1:=by omega
  have df:(k:Int)+1<(d.aw.length:Int):=by omega
  have ay:=kp au;unfold ew at *;rw [hA] at *;clear h h0 au c0 c2 hA;generalize (d.aw[k+1]'cz).At=x1 at *;generalize (d.aw[k+1]'cz).aQ.length=x2 at *;generalize (d.aw[k+1]'cz).ct=x3 at *;go_enter Tryz.func139,Tryz.ntmps139;go_wp2_with fail;go_ret;exact ⟨by rw [HV.o];rfl,ay.o⟩
 .have HV:=kp (show ij d k=0 by unfold ij;rw [getElem?_eq_none (by omega)]);generalize ij d k=V at *;have RU:(d.aw.length:Int)<=(k:Int)+1:=by omega
  have ay:=kp au;unfold ew at *;clear h au;go_enter Tryz.func139,Tryz.ntmps139;go_wp2_with fail;go_ret;exact ⟨by rw [HV.o];rfl,ay.o⟩
structure nT (d:cR):Prop where
 name:pS d.name
 n1:1<=d.aw.length
 n2:d.aw.length<=4
 aw:∀k (h:k<d.aw.length),vC d.aw[k] (ij d k)
 names:∀i k (hk:k<d.aw.length) (hi:i<k),d.aw[i].name≠d.aw[k].name
def IA (d:cR) (k:Nat):Prop:=(∀j (h:j<d.aw.length),j<k->vC d.aw[j] (ij d j))/\∀i j (hj:j<d.aw.length) (hi:i<j),j<k->d.aw[i].name≠d.aw[j].name
theorem IA.next {d:cR} {k:Nat} (h:IA d k) (hk:k<d.aw.length) (ht:vC d.aw[k] (ij d k)) (hn:∀i (hi:i<k),d.aw[i].name≠d.aw[k].name):IA d (k+1):=by
 refine ⟨fun j hj pZ => ?_,fun i j hj hi pZ => ?_⟩
 .by_cases e:j=k
  .subst e;exact ht
  .exact h.1 j hj (by omega)
 .by_cases e:j=k
  .subst e;exact hn i hi
  .exact h.2 i j hj hi (by omega)
theorem a5' {a b c:Value} {gD:Nat} {x0 x1:Value} {W0 v w':World} {bt ot:Nat} (hb:Below v.heap.size v w')
 (h:v.cell? ⟨gD,0,none⟩=some x0/\v.cell? ⟨gD,1,none⟩=some x1/\v.cell? ⟨bt,ot,none⟩=some a/\v.cell? ⟨bt,ot+1,none⟩=some b/\v.cell? ⟨bt,ot+2,none⟩=some c/\Below W0.heap.size W0 v) :
 w'.cell? ⟨gD,0,none⟩=some x0/\w'.cell? ⟨gD,1,none⟩=some x1/\w'.cell? ⟨bt,ot,none⟩=some a/\w'.cell? ⟨bt,ot+1,none⟩=some b/\w'.cell? ⟨bt,ot+2,none⟩=some c/\Below W0.heap.size W0 w':=by
 obtain ⟨h0,h1,h2,h3,h4,h5⟩:=h;exact ⟨aL hb h0,aL hb h1,aL hb h2,aL hb h3,aL hb h4,h5.trans (hb.mono h5.size)⟩
theorem a7N (d:cR) (w:World) (h:mJ w w.heap.size d):Calls Tryz.prog 102 #[.agg (ew d)] w (fT (fun r=>r=0->nT d) w):=by
 have HR:=kp (fun r w' h hb=>fT.mono (P:=fun r=>r=0->nT d) (w:=w) (r:=r) (w':=w') h hb);have au:=(aq w.heap.size w).alloc (ah _) (.cells (ew d) 128);have ay:=kp au;have H0:=kp ((h.below au).more au.size);have HB:=kp (aa.new w 128 (ew d));have hn:=h.n;have HN:=kp (Q7 d.name (w.alloc (.cells (ew d) 128)) h.name);have HA:=kp a5A;have HW:=kp a6K;have pY:=kp (show pS d.name->1<=d.aw.length->d.aw.length<=4->IA d d.aw.length->nT d from fun a b c e=>⟨a,b,c,fun k hk=>e.1 k hk hk,fun i k hk hi=>e.2 i k hk hi hk⟩);unfold maxLen at hn;clear h au;generalize hQ:fT (fun r=>r=0->nT d) w=Q at *;clear hQ;unfold ew at HB HN ay H0 ⊢;go_enter Tryz.func102,Tryz.ntmps102;go_wp2_with fail;generalize w.alloc (.cells #[.string d.name,.slice d.A d.aw.length d.c] 128)=W0 at *;refine HN.o.mono ?_;rintro e w1 ⟨r,rfl,hr,ax⟩;have aM:=kp ax;have bL:=bu HB ax;obtain ⟨b0,b1,_,_⟩:=bL.o.two;have Hr:=kp hr;clear ax HN hr;rcases r with _ | _
 .go_wp2_with fail;exact HR.o _ _ (fun h=>by cases h) (ay.o.trans (aM.o.mono ay.o.size))
 .by_cases h1:1<=d.aw.length/\d.aw.length<=4
  .obtain ⟨h1,h2⟩:=h1;have jx:¬ ((d.aw.length:Nat):Int)<1:=by omega
   have ng:¬ (4:Int)<((d.aw.length:Nat):Int):=by omega
   go_wp2_with fail;clear jx ng b0 b1
   go_loopw [23] (fun RV wr=>∃k:Nat,k<=d.aw.length/\RV = .int .i64 k/\IA d k/\Below W0.heap.size W0 wr) (fun RV _=>d.aw.length-(intOf RV).toNat)
   case atStart=>exact ⟨0,aZ _,rfl,⟨fun j _ h=>by omega,fun i j _ _ h=>by omega⟩,aM.o⟩
   case round =>
    obtain ⟨k,hk,rfl,fH,aC⟩:=hrel;have fU:=kp fH;have ai:=kp aC;obtain ⟨b0,b1,_,_⟩:=(HB.o.under aC).two;clear fH aC;by_cases ae:k<d.aw.length
    .have hd:=(H0.o.below ai.o).more ai.o.size;have xT:=kp (show ∀W,Below wr.heap.size wr W->Calls Tryz.prog 139 #[.agg #[.string d.name,.slice d.A d.aw.length d.c],.int .i64 k] W fun e w'=>e = .returned (.int .i64 (ij d k))/\Below W.heap.size W w' from fun W hW=>HA.o d k W ((hd.below hW).more hW.size) ae);have tW:=kp (show ∀W,Below wr.heap.size wr W->Calls Tryz.prog 138 #[.agg #[.string (d.aw[k]'ae).name,.slice (d.aw[k]'ae).At (d.aw[k]'ae).aQ.length (d.aw[k]'ae).ct,.slice (d.aw[k]'ae).Au (d.aw[k]'ae).up.length (d.aw[k]'ae).cu],.int .i64 (ij d k)] W (fT (fun r=>r=0->vC (d.aw[k]'ae) (ij d k)) W) from fun W hW=>HW.o (d.aw[k]'ae) (ij d k) W (((hd.aw _ (gM ae)).below hW).more hW.size) (abu hd k));obtain ⟨b,off,hA,hb,c0,c1,c2⟩:=hd.dm k ae;have Hd:=kp hd;rw [hA] at b1 xT;have dz:(0:Int)<=(k:Int):=by omega
     have df:(k:Int)<(d.aw.length:Int):=by omega
     have dw:=kp (fun a b=>fU.o.next ae a b);have tX:=kp hA;clear hd hA;generalize vC (d.aw[k]'ae) (ij d k)=PT at *;generalize ij d k=ab at *;go_wp2_with fail
     go_region_held3 (fun w'=>w'.cell? ⟨w.heap.size,0,none⟩=some (.string d.name)/\w'.cell? ⟨w.heap.size,1,none⟩=some (.slice (some ⟨b,off,none⟩) d.aw.length d.c)/\w'.cell? ⟨b,off+k*3,none⟩=some (.string (d.aw[k]'ae).name)/\w'.cell? ⟨b,off+k*3+1,none⟩=some (.slice (d.aw[k]'ae).At (d.aw[k]'ae).aQ.length (d.aw[k]'ae).ct)/\w'.cell? ⟨b,off+k*3+2,none⟩=some (.slice (d.aw[k]'ae).Au (d.aw[k]'ae).up.length (d.aw[k]'ae).cu)/\Below wr.heap.size wr w')
      (first
        | exact ⟨b0,b1,c0,c1,c2,(aq _ _).drew⟩
        | (go_split_ands;with_reducible exact a5' aJ ⟨by assumption,by assumption,by assumption,by assumption,by assumption,by assumption⟩))
      (first
        | (go_at_call 139;go_split_ands;refine (xT.o _ (by assumption)).mono ?_;rintro e wx ⟨rfl,aJ⟩)
        | (go_at_call 138;go_split_ands;refine (tW.o _ (by assumption)).mono ?_;rintro e wx ⟨r1,rfl,eC,aJ⟩))
     rename_i ad;have zh:=kp eC;have aF:=kp (ai.o.trans (ad.2.2.2.2.2.mono ai.o.size));clear ad eC c0 c1 c2 b0 b1 xT tW;obtain ⟨b0,b1,_,_⟩:=(HB.o.under aF.o).two;rw [tX.o] at b1;by_cases he:r1=0
     .subst he;have xR:((0:Int) != 0)=false:=by simp
      go_wp2_with fail
      go_loopw [5] (fun v5 wr=>∃q:Nat,q<=k/\v5 = .int .i64 q/\(∀i (hi:i<k),i<q->d.aw[i].name≠(d.aw[k]'ae).name)/\Below W0.heap.size W0 wr) (fun v5 _=>k-(intOf v5).toNat)
      case atStart=>exact ⟨0,aZ _,rfl,fun i _ h=>by omega,aF.o⟩
      case round =>
       clear b0 b1;obtain ⟨q,hq,rfl,eG,mb⟩:=hrel;have kn:=kp eG;have ec:=kp mb;obtain ⟨b0,b1,_,_⟩:=(HB.o.under mb).two;rw [tX.o] at b1;clear eG mb;by_cases hqk:q<k
       .have hd:=(H0.o.below ec.o).more ec.o.size;have gY:q<d.aw.length:=by omega
        obtain ⟨b',jy,gd,jc,c0,_,_⟩:=hd.dm k ae;obtain ⟨b'',a1n,sN,a1o,d0,_,_⟩:=hd.dm q gY;rw [tX.o] at gd sN;injection gd with gd
        injection gd with e1 e2 _
        subst e1 e2;injection sN with sN
        injection sN with e1 e2 _
        subst e1 e2;clear hd;have D9:=kp (show (d.aw[q]'gY).name=(d.aw[q]'gY).name/\(d.aw[k]'ae).name=(d.aw[k]'ae).name from ⟨rfl,rfl⟩)
        have Ja:=kp (show ((d.aw[q]'gY).name.toList == (d.aw[k]'ae).name.toList)=false->∀i (hi:i<k),i<q+1->d.aw[i].name≠(d.aw[k]'ae).name from fun h i hi hiq=>by
         by_cases e:i=q
         .subst e;intro hh;rw [hh] at h;simp at h
         .exact kn.o i hi (by omega))
        clear D9;have jd:(0:Int)<=(q:Int):=by omega
        have tY:(q:Int)<(d.aw.length:Int):=by omega
        have va:(q:Int)<(k:Int):=by omega
        generalize (d.aw[q]'gY).name=y at *;generalize (d.aw[k]'ae).name=x at *;rcases Jb:(y.toList == x.toList) with _ | _
        .have Jc:=kp (Ja.o Jb);go_wp2_with fail
         go_quiet (fail)
         go_wp2_with fail;exact ⟨⟨q+1,by omega,by go_num,Jc.o,below_drewN ec.o _⟩,by simp [intOf];omega⟩
        .go_wp2_with fail
         go_quiet (fail)
         go_wp2_with fail;exact HR.o _ _ (fun h=>by cases h) (ay.o.trans ((below_drewN ec.o _).mono ay.o.size))
       .have Da:=kp (dw.o (zh.o (by trivial)) (fun i hi=>kn.o i hi (by omega)));go_wp2_with fail;exact ⟨⟨k+1,by omega,by go_num,Da.o,ec.o⟩,by simp [intOf];omega⟩
     .have av:(r1 != 0)=true:=by simpa using he
      go_wp2_with fail;exact HR.o _ _ (fun h=>absurd h he) (ay.o.trans (aF.o.mono ay.o.size))
    .obtain rfl:k=d.aw.length:=by omega
     go_wp2_with fail;exact HR.o _ _ (fun _=>pY.o (Hr.o (by trivial)) h1 h2 fU.o) (ay.o.trans (ai.o.mono ay.o.size))
  .go_wp2_with fail
   all_goals first
    | exact HR.o _ _ (fun h=>by cases h) (ay.o.trans (aM.o.mono ay.o.size))
    | (exfalso;omega)
abbrev cj (s:aW):AV:=#[.slice s.A s.ak.length s.c,.slice s.Am s.aU.length s.cm]
theorem a9z (s:aW) (w:World) (h:gW w w.heap.size s):Calls Tryz.prog 16 #[.agg (cj s)] w (eW (fun _=>True) w):=by
 have HR:=kp (fun r w' hb=>eW.mono (P:=fun _=>True) (w:=w) (r:=r) (w':=w') trivial hb);have au:=(aq w.heap.size w).alloc (ah _) (.cells (cj s) 25);have ay:=kp au;have H0:=kp ((h.below au).more au.size);have HB:=kp (aa.new w 25 (cj s));have hn:=h.n;have ma:=h.nm;have HF:=kp a7b;unfold maxLen at hn ma;clear h au;generalize hQ:eW (fun _=>True) w=Q at *;clear hQ;unfold cj at HB ay H0 ⊢;go_enter Tryz.func16,Tryz.ntmps16;go_wp2_with fail;generalize w.alloc (.cells #[.slice s.A s.ak.length s.c,.slice s.Am s.aU.length s.cm] 25)=W0 at *
 go_loopw [3,4] (fun v3 v4 wr=>∃ (k:Nat) (x:Int),k<=s.ak.length/\k<=21/\v3 = .int .i64 x/\v4 = .int .i64 k/\Below W0.heap.size W0 wr) (fun _ v4 _=>s.ak.length-(intOf v4).toNat)
 case atStart=>exact ⟨0,0,aZ _,by omega,rfl,rfl,aq _ _⟩
 case round =>
  obtain ⟨k,x,hk,Bi,rfl,rfl,aC⟩:=hrel;have ai:=kp aC;obtain ⟨b0,b1,_,_⟩:=(HB.o.under aC).two;clear aC;by_cases lB:k<s.ak.length/\k<=20
  .obtain ⟨ae,h20⟩:=lB;have hs:=(H0.o.below ai.o).more ai.o.size;obtain ⟨b,off,hA,hb,c0,c1⟩:=hs.aj k ae;rw [hA] at b0;have sM:=kp (HF.o (s.ak[k]'ae) wr (hs.ak _ (gM ae)));have Hda:=kp (hs.ak _ (gM ae));have Db:=(hs.ak _ (gM ae)).n;unfold maxLen at Db;have tX:=kp hA;unfold ew at sM;clear hs hA;generalize (s.ak[k]'ae)=d at *;have dz:(0:Int)<=(k:Int):=by omega
   have df:(k:Int)<(s.ak.length:Int):=by omega
   have jd:(k:Int)<=20:=by omega
   go_wp2_with fail;refine sM.o.mono ?_;rintro e w1 ⟨r,rfl,_,ax⟩;have aM:=aR ai ax;have abZ:=kp ((Hda.o.below ax).more ax.size);have Jd:=aL ax c1;clear c0 c1 b0 b1 ax sM;obtain ⟨b0,b1,_,_⟩:=(HB.o.under aM.o).two;rw [tX.o] at b0;rcases r with _ | _
   .go_wp2_with fail;exact HR.o _ _ (ay.o.trans (aM.o.mono ay.o.size))
   .go_wp2_with fail;clear b0 b1 Jd
    go_loopw [3,34] (fun v3 RW wr=>∃ (q:Nat) (y:Int),q<=d.aw.length/\v3 = .int .i64 y/\RW = .int .i64 q/\Below w1.heap.size w1 wr) (fun _ RW _=>d.aw.length-(intOf RW).toNat)
    case atStart=>exact ⟨0,x,aZ _,rfl,rfl,aq _ _⟩
    case round =>
     obtain ⟨q,y,hq,rfl,rfl,mb⟩:=hrel;have ec:=kp mb;clear mb;by_cases vb:q<d.aw.length
     .obtain ⟨b',jy,gd,jc,t0,t1,t2⟩:=((abZ.o.below ec.o).more ec.o.size).dm q vb;have tY:(0:Int)<=(q:Int):=by omega
      have va:(q:Int)<(d.aw.length:Int):=by omega
      rw [gd];generalize (d.aw[q]'vb).name=z0 at *;generalize (d.aw[q]'vb).At=z1 at *;generalize (d.aw[q]'vb).aQ.length=z2 at *;generalize (d.aw[q]'vb).ct=z3 at *;generalize (d.aw[q]'vb).Au=z4 at *;generalize (d.aw[q]'vb).up.length=z5 at *;generalize (d.aw[q]'vb).cu=z6 at *;have dw:=kp (ec.o.alloc ec.o.size (.cells #[.string z0,.slice z1 z2 z3,.slice z4 z5 z6] 130));clear gd;go_wp2_with fail
      first
       | exact ⟨⟨q+1,_,by omega,rfl,by go_num,dw.o⟩,by simp [intOf];omega⟩
       | (refine ⟨?_,by simp [intOf];omega⟩;(repeat apply Exists.intro);refine And.intro ?_ rfl;exact ⟨q+1,_,by omega,rfl,by go_num,dw.o⟩)
     .go_wp2_with fail;exact ⟨⟨k+1,y,by omega,by omega,rfl,by go_num,aM.o.trans (ec.o.mono aM.o.size)⟩,by simp [intOf];omega⟩
  .have aeD:¬ ((k:Int)<(s.ak.length:Int)/\(k:Int)<=20):=by omega
   have Hm:=kp H0.o.aU;have RX:=kp H0.o.sz;by_cases ae:(k:Int)<(s.ak.length:Int)
   all_goals
    go_wp2_with fail
    all_goals first
     | (exfalso;omega)
     | skip
    clear b0 b1
    go_loopw [7,8] (fun v7 v8 wr=>∃ (q:Nat) (y:Int),q<=s.aU.length/\q<=6/\v7 = .int .i64 y/\v8 = .int .i64 q/\Below W0.heap.size W0 wr) (fun _ v8 _=>s.aU.length-(intOf v8).toNat)
    case atStart=>exact ⟨0,0,aZ _,by omega,rfl,rfl,ai.o⟩
    case round =>
     obtain ⟨q,y,hq,Ni,rfl,rfl,mb⟩:=hrel;have ec:=kp mb;obtain ⟨b0,b1,_,_⟩:=(HB.o.under mb).two;clear mb;by_cases ab':q<s.aU.length/\q<=5
     .obtain ⟨vY,h5⟩:=ab';obtain ⟨b',jy,gd,jc,t0⟩:=Row.at_ ((Hm.o.below ec.o).more ec.o.size) (k:=q) (by rw [lM];exact vY);rw [getElem_map] at t0;rw [gd] at b1;have zi:=RX.o _ (gM vY);unfold maxLen at zi;generalize (s.aU[q]'vY)=z at *;have tY:(0:Int)<=(q:Int):=by omega
      have va:(q:Int)<(s.aU.length:Int):=by omega
      have Nj:(q:Int)<=5:=by omega
      clear gd;go_wp2_with fail
      all_goals exact ⟨⟨q+1,_,by omega,by omega,rfl,by go_num,ec.o⟩,by simp [intOf];omega⟩
     .go_wp2_with fail
      all_goals first
       | exact HR.o _ _ (ay.o.trans (ec.o.mono ay.o.size))
       | (exfalso;omega)
structure dO (s:aW):Prop where
 n1:1<=s.ak.length
 n2:s.ak.length<=16
 ak:∀k (h:k<s.ak.length),nT s.ak[k]
 names:∀i k (hk:k<s.ak.length) (hi:i<k),s.ak[i].name≠s.ak[k].name
 m1:1<=s.aU.length
 m2:s.aU.length<=3
 aU:∀k (h:k<s.aU.length),pS s.aU[k]
 a6k:∀i k (hk:k<s.aU.length) (hi:i<k),s.aU[i]≠s.aU[k]
def IS (s:aW) (k:Nat):Prop:=(∀j (h:j<s.ak.length),j<k->nT s.ak[j])/\∀i j (hj:j<s.ak.length) (hi:i<j),j<k->s.ak[i].name≠s.ak[j].name
theorem IS.next {d:aW} {k:Nat} (h:IS d k) (hk:k<d.ak.length) (ht:nT d.ak[k]) (hn:∀i (hi:i<k),d.ak[i].name≠d.ak[k].name):IS d (k+1):=by
 refine ⟨fun j hj pZ => ?_,fun i j hj hi pZ => ?_⟩
 .by_cases e:j=k
  .subst e;exact ht
  .exact h.1 j hj (by omega)
 .by_cases e:j=k
  .subst e;exact hn i hi
  .exact h.2 i j hj hi (by omega)
def IH (l:List ByteArray) (k:Nat):Prop:=(∀j (h:j<l.length),j<k->pS l[j])/\∀i j (hj:j<l.length) (hi:i<j),j<k->l[i]≠l[j]
theorem IH.next {l:List ByteArray} {k:Nat} (h:IH l k) (hk:k<l.length) (ht:pS l[k]) (hn:∀i (hi:i<k),l[i]≠l[k]):IH l (k+1):=by
 refine ⟨fun j hj pZ => ?_,fun i j hj hi pZ => ?_⟩
 .by_cases e:j=k
  .subst e;exact ht
  .exact h.1 j hj (by omega)
 .by_cases e:j=k
  .subst e;exact hn i hi
  .exact h.2 i j hj hi (by omega)
theorem a7B (s:aW) (w:World) (h:gW w w.heap.size s):Calls Tryz.prog 54 #[.agg (cj s)] w (fT (fun r=>r=0->dO s) w):=by
 have HR:=kp (fun r w' h hb=>fT.mono (P:=fun r=>r=0->dO s) (w:=w) (r:=r) (w':=w') h hb);have au:=(aq w.heap.size w).alloc (ah _) (.cells (cj s) 25);have ay:=kp au;have H0:=kp ((h.below au).more au.size);have HB:=kp (aa.new w 25 (cj s));have hn:=h.n;have ma:=h.nm;have HW:=kp a7N;have HN:=kp Q7;have pY:=kp (show 1<=s.ak.length->s.ak.length<=16->IS s s.ak.length->1<=s.aU.length->s.aU.length<=3->IH s.aU s.aU.length->dO s from fun a b c d e f=>⟨a,b,fun k hk=>c.1 k hk hk,fun i k hk hi=>c.2 i k hk hi hk,d,e,fun k hk=>f.1 k hk hk,fun i k hk hi=>f.2 i k hk hi hk⟩);unfold maxLen at hn ma;clear h au;generalize hQ:fT (fun r=>r=0->dO s) w=Q at *;clear hQ;unfold cj at HB ay H0 ⊢;have ni:=kp (show ∀W,Below (w.alloc (.cells #[.slice s.A s.ak.length s.c,.slice s.Am s.aU.length s.cm] 25)).heap.size (w.alloc (.cells #[.slice s.A s.ak.length s.c,.slice s.Am s.aU.length s.cm] 25)) W->Below w.heap.size w W from fun W hW=>ay.o.trans (hW.mono ay.o.size));go_enter Tryz.func54,Tryz.ntmps54;by_cases h1:1<=s.ak.length/\s.ak.length<=16
 .obtain ⟨h1,h2⟩:=h1;have jx:¬ ((s.ak.length:Nat):Int)<1:=by omega
  have ng:¬ (16:Int)<((s.ak.length:Nat):Int):=by omega
  go_wp2_with fail;clear jx ng;generalize w.alloc (.cells #[.slice s.A s.ak.length s.c,.slice s.Am s.aU.length s.cm] 25)=W0 at *
  go_loopw [21] (fun vZ wr=>∃k:Nat,k<=s.ak.length/\vZ = .int .i64 k/\IS s k/\Below W0.heap.size W0 wr) (fun vZ _=>s.ak.length-(intOf vZ).toNat)
  case atStart=>exact ⟨0,aZ _,rfl,⟨fun j _ h=>by omega,fun i j _ _ h=>by omega⟩,aq _ _⟩
  case round =>
   obtain ⟨k,hk,rfl,fH,aC⟩:=hrel;have fU:=kp fH;have ai:=kp aC;obtain ⟨b0,b1,_,_⟩:=(HB.o.under aC).two;clear fH aC;by_cases ae:k<s.ak.length
   .have hs:=(H0.o.below ai.o).more ai.o.size;have tW:=kp (HW.o (s.ak[k]'ae) wr (hs.ak _ (gM ae)));unfold ew at tW;obtain ⟨b,off,hA,hb,c0,c1⟩:=hs.aj k ae;rw [hA] at b0;have tX:=kp hA;have dz:(0:Int)<=(k:Int):=by omega
    have df:(k:Int)<(s.ak.length:Int):=by omega
    have dw:=kp (fun a b=>fU.o.next ae a b);clear hs hA;generalize nT (s.ak[k]'ae)=PD at *;go_wp2_with fail;refine tW.o.mono ?_;rintro e w1 ⟨r1,rfl,eC,ax⟩;have zh:=kp eC;have aF:=aR ai ax;clear eC ax c0 c1 b0 b1 tW;by_cases he:r1=0
    .subst he;have xR:((0:Int) != 0)=false:=by simp
     go_wp2_with fail
     go_loopw [5] (fun v5 wr=>∃q:Nat,q<=k/\v5 = .int .i64 q/\(∀i (hi:i<k),i<q->s.ak[i].name≠(s.ak[k]'ae).name)/\Below W0.heap.size W0 wr) (fun v5 _=>k-(intOf v5).toNat)
     case atStart=>exact ⟨0,aZ _,rfl,fun i _ h=>by omega,aF.o⟩
     case round =>
      obtain ⟨q,hq,rfl,eG,mb⟩:=hrel;have kn:=kp eG;have ec:=kp mb;obtain ⟨b0,b1,_,_⟩:=(HB.o.under mb).two;rw [tX.o] at b0;clear eG mb;by_cases hqk:q<k
      .have hs:=(H0.o.below ec.o).more ec.o.size;have gY:q<s.ak.length:=by omega
       obtain ⟨b',jy,gd,jc,c0,_⟩:=hs.aj k ae;obtain ⟨b'',a1n,sN,a1o,d0,_⟩:=hs.aj q gY;rw [tX.o] at gd sN;injection gd with gd
       injection gd with e1 e2 _
       subst e1 e2;injection sN with sN
       injection sN with e1 e2 _
       subst e1 e2;clear hs
       have Ja:=kp (show ((s.ak[q]'gY).name.toList == (s.ak[k]'ae).name.toList)=false->∀i (hi:i<k),i<q+1->s.ak[i].name≠(s.ak[k]'ae).name from fun h i hi hiq=>by
        by_cases e:i=q
        .subst e;intro hh;rw [hh] at h;simp at h
        .exact kn.o i hi (by omega))
       have jd:(0:Int)<=(q:Int):=by omega
       have tY:(q:Int)<(s.ak.length:Int):=by omega
       have va:(q:Int)<(k:Int):=by omega
       generalize (s.ak[q]'gY).name=y at *;generalize (s.ak[k]'ae).name=x at *;rcases Jb:(y.toList == x.toList) with _ | _
       .have Jc:=kp (Ja.o Jb);go_wp2_with fail
        go_quiet (fail)
        go_wp2_with fail;exact ⟨⟨q+1,by omega,by go_num,Jc.o,below_drewN ec.o _⟩,by simp [intOf];omega⟩
       .go_wp2_with fail
        go_quiet (fail)
        go_wp2_with fail;exact HR.o _ _ (fun h=>by cases h) (ni.o _ (below_drewN ec.o _))
      .have Da:=kp (dw.o (zh.o (by trivial)) (fun i hi=>kn.o i hi (by omega)));go_wp2_with fail;exact ⟨⟨k+1,by omega,by go_num,Da.o,ec.o⟩,by simp [intOf];omega⟩
    .have av:(r1 != 0)=true:=by simpa using he
     go_wp2_with fail;exact HR.o _ _ (fun h=>absurd h he) (ni.o _ aF.o)
   .obtain rfl:k=s.ak.length:=by omega
    have RY:=kp H0.o.aU;have RX:=kp H0.o.sz;clear HW H0;generalize s.aU=l at *;by_cases hm:1<=l.length/\l.length<=3
    .obtain ⟨dg,qR⟩:=hm;have jx:¬ ((l.length:Nat):Int)<1:=by omega
     have ng:¬ (3:Int)<((l.length:Nat):Int):=by omega
     go_wp2_with fail;clear jx ng b0 b1
     go_loopw [65] (fun RZ wr=>∃k:Nat,k<=l.length/\RZ = .int .i64 k/\IH l k/\Below W0.heap.size W0 wr) (fun RZ _=>l.length-(intOf RZ).toNat)
     case atStart=>exact ⟨0,aZ _,rfl,⟨fun j _ h=>by omega,fun i j _ _ h=>by omega⟩,ai.o⟩
     case round =>
      obtain ⟨j,hj,rfl,hmt,S0⟩:=hrel;have Hmt:=kp hmt;have qS:=kp S0;obtain ⟨b0,b1,_,_⟩:=(HB.o.under S0).two;clear hmt S0;by_cases ae:j<l.length
      .obtain ⟨b,off,hA,hb,c0⟩:=Row.at_ ((RY.o.below qS.o).more qS.o.size) (k:=j) (by rw [lM];exact ae);rw [getElem_map] at c0;rw [hA] at b1;have HN1:=kp (fun W=>HN.o (l[j]'ae) W (RX.o _ (gM ae)));have tX:=kp hA;have dz:(0:Int)<=(j:Int):=by omega
       have df:(j:Int)<(l.length:Int):=by omega
       have dw:=kp (fun a b=>Hmt.o.next ae a b);clear hA;generalize pS (l[j]'ae)=PD at *;go_wp2_with fail;refine (HN1.o _).mono ?_;rintro e w1 ⟨r1,rfl,eC,ax⟩;have zh:=kp eC;have aF:=aR qS ax;clear eC ax c0 b0 b1 HN1;rcases r1 with _ | _
       .go_wp2_with fail;exact HR.o _ _ (fun h=>by cases h) (ni.o _ aF.o)
       .go_wp2_with fail
        go_loopw [7] (fun v7 wr=>∃q:Nat,q<=j/\v7 = .int .i64 q/\(∀i (hi:i<j),i<q->l[i]≠(l[j]'ae))/\Below W0.heap.size W0 wr) (fun v7 _=>j-(intOf v7).toNat)
        case atStart=>exact ⟨0,aZ _,rfl,fun i _ h=>by omega,aF.o⟩
        case round =>
         obtain ⟨q,hq,rfl,eG,mb⟩:=hrel;have kn:=kp eG;have ec:=kp mb;obtain ⟨b0,b1,_,_⟩:=(HB.o.under mb).two;rw [tX.o] at b1;clear eG mb;by_cases hqk:q<j
         .have gY:q<l.length:=by omega
          obtain ⟨b',jy,gd,jc,c0⟩:=Row.at_ ((RY.o.below ec.o).more ec.o.size) (k:=j) (by rw [lM];exact ae);obtain ⟨b'',a1n,sN,a1o,d0⟩:=Row.at_ ((RY.o.below ec.o).more ec.o.size) (k:=q) (by rw [lM];exact gY);rw [getElem_map] at c0 d0;rw [tX.o] at gd sN;injection gd with gd
          injection gd with e1 e2 _
          subst e1 e2;injection sN with sN
          injection sN with e1 e2 _
          subst e1 e2
          have Ja:=kp (show ((l[q]'gY).toList == (l[j]'ae).toList)=false->∀i (hi:i<j),i<q+1->l[i]≠(l[j]'ae) from fun h i hi hiq=>by
           by_cases e:i=q
           .subst e;intro hh;rw [hh] at h;simp at h
           .exact kn.o i hi (by omega))
          have jd:(0:Int)<=(q:Int):=by omega
          have tY:(q:Int)<(l.length:Int):=by omega
          have va:(q:Int)<(j:Int):=by omega
          generalize (l[q]'gY)=y at *;generalize (l[j]'ae)=x at *;rcases Jb:(y.toList == x.toList) with _ | _
          .have Jc:=kp (Ja.o Jb);go_wp2_with fail
           go_quiet (fail)
           go_wp2_with fail;exact ⟨⟨q+1,by omega,by go_num,Jc.o,below_drewN ec.o _⟩,by simp [intOf];omega⟩
          .go_wp2_with fail
           go_quiet (fail)
           go_wp2_with fail;exact HR.o _ _ (fun h=>by cases h) (ni.o _ (below_drewN ec.o _))
         .have Da:=kp (dw.o (zh.o (by trivial)) (fun i hi=>kn.o i hi (by omega)));go_wp2_with fail;exact ⟨⟨j+1,by omega,by go_num,Da.o,ec.o⟩,by simp [intOf];omega⟩
      .obtain rfl:j=l.length:=by omega
       go_wp2_with fail;exact HR.o _ _ (fun _=>pY.o h1 h2 fU.o dg qR Hmt.o) (ni.o _ qS.o)
    .go_wp2_with fail
     all_goals first
      | exact HR.o _ _ (fun h=>by cases h) (ni.o _ ai.o)
      | (exfalso;omega)
 .go_wp2_with fail
  all_goals first
   | exact HR.o _ _ (fun h=>by cases h) ay.o
   | (exfalso;omega)
structure j6 (w:World) (B:Nat) (A:OA) (l:List Rw):Prop where
 n:l.length<=maxLen
 row:Row w B A (l.flatMap vK)
 each:∀r∈l,vH w B r
theorem j6.below {w w':World} {B:Nat} {A:OA} {l:List Rw} (h:j6 w B A l) (hb:Below B w w'):j6 w' B A l:=⟨h.n,h.row.below hb,fun r hr=>(h.each r hr).below hb⟩
theorem j6.more {w:World} {B B':Nat} {A:OA} {l:List Rw} (h:j6 w B A l) (hB:B<=B'):j6 w B' A l:=⟨h.n,h.row.more hB,fun r hr=>(h.each r hr).more hB⟩
theorem j6.J6 {w:World} {B:Nat} {A:OA} {l:List Rw} (h:j6 w B A l) (k:Nat) (hk:k<l.length) :
 ∃b off,A=some ⟨b,off,none⟩/\b<B/\w.cell? ⟨b,off+k*2,none⟩=some (.slice l[k].A l[k].aQ.length l[k].c)/\w.cell? ⟨b,off+k*2+1,none⟩=some (.slice l[k].Av l[k].dP.length l[k].cv):=by
 obtain ⟨b,off,e,hb,hc⟩:=Row.rec Cx h.row (by omega) k hk;exact ⟨b,off,e,hb,hc 0 _ rfl,hc 1 _ rfl⟩
theorem aaZ (A:OA) (l:List Rw) (c:Nat) (w:World) (h:j6 w w.heap.size A l):Calls Tryz.prog 17 #[.slice A l.length c] w (eW (fun _=>True) w):=by
 have HR:=kp (fun r w' hb=>eW.mono (P:=fun _=>True) (w:=w) (r:=r) (w':=w') trivial hb);have H:=kp h;have hn:=h.n;unfold maxLen at hn;clear h;generalize hQ:eW (fun _=>True) w=Q at *;clear hQ;go_enter Tryz.func17,Tryz.ntmps17;go_wp2_with fail
 go_loopw [3,4] (fun v3 v4 wr=>∃ (k:Nat) (x:Int),k<=l.length/\k<=311/\v3 = .int .i64 x/\v4 = .int .i64 k/\Below w.heap.size w wr) (fun _ v4 _=>l.length-(intOf v4).toNat)
 case atStart=>exact ⟨0,0,aZ _,by omega,rfl,rfl,aq _ _⟩
 case round =>
  obtain ⟨k,x,hk,Bi,rfl,rfl,aC⟩:=hrel;have ai:=kp aC;clear aC;by_cases lB:k<l.length/\k<=310
  .obtain ⟨ae,aeE⟩:=lB;have hs:=(H.o.below ai.o).more ai.o.size;obtain ⟨b,off,rfl,hb,c0,c1⟩:=hs.J6 k ae;have Hr:=kp (hs.each _ (gM ae));have vc:=(hs.each _ (gM ae)).n;have hrv:=(hs.each _ (gM ae)).nv;unfold maxLen at vc hrv;clear hs;generalize (l[k]'ae)=r at *;have dz:(0:Int)<=(k:Int):=by omega
   have df:(k:Int)<(l.length:Int):=by omega
   have jd:(k:Int)<=310:=by omega
   by_cases h20:r.aQ.length<=20/\r.dP.length<=20
   .obtain ⟨aeF,aeG⟩:=h20;have lY:¬ (20:Int)<(r.aQ.length:Int):=by omega
    have zj:¬ (20:Int)<(r.dP.length:Int):=by omega
    go_wp2_with fail
    go_loop [3,39] (fun v3 v39=>∃ (q:Nat) (y:Int),q<=r.aQ.length/\v3 = .int .i64 y/\v39 = .int .i64 q) (fun _ v39=>r.aQ.length-(intOf v39).toNat)
    case atStart=>exact ⟨0,x,aZ _,rfl,rfl⟩
    case round =>
     obtain ⟨q,y,hq,rfl,rfl⟩:=hrel;by_cases vb:q<r.aQ.length
     .obtain ⟨b',jy,gd,jc,t0⟩:=Row.at_ Hr.o.aQ (k:=q) (by rw [lM];exact vb);rw [getElem_map] at t0;have zi:=Hr.o.sz _ (gM vb);unfold maxLen at zi;rw [gd];clear gd;generalize (r.aQ[q]'vb)=z at *;have tY:(0:Int)<=(q:Int):=by omega
      have va:(q:Int)<(r.aQ.length:Int):=by omega
      go_wp2_with fail
      all_goals
       go_round
       case rel=>exact ⟨q+1,_,by omega,rfl,by go_num⟩
       case measure=>simp [intOf];omega
     .go_wp2_with fail;exact ⟨⟨k+1,y,by omega,by omega,rfl,by go_num,ai.o⟩,by simp [intOf];omega⟩
   .go_wp2_with fail
    all_goals first
     | exact HR.o _ _ ai.o
     | (exfalso;omega)
  .go_wp2_with fail
   all_goals first
    | exact HR.o _ _ ai.o
    | (exfalso;omega)
def fin (d:cR):List ByteArray:=match d.aw with
 | t::_=>t.aQ
 | []=>[]
structure ju (s:aW) (r:Rw) (keys:LN):Prop where
 n:keys.length=s.ak.length
 nt:r.aQ.length=s.ak.length
 nv:r.dP.length=s.aU.length
 at_:∀ (i:Nat) (d:cR) (t:ByteArray) (k:Nat),s.ak[i]? = some d->r.aQ[i]? = some t->keys[i]? = some k->(fin d)[k]? = some t
theorem nT.Py {d:cR} (h:nT d):mT (fin d)/\∃t,d.aw[0]? = some t/\fin d=t.aQ:=by
 have h1:=h.n1;unfold fin;rcases hd:d.aw with _ | ⟨t,ts⟩
 .rw [hd] at h1;simp at h1
 .have:=(h.aw 0 (by rw [hd];simp)).row;simp [hd] at this;exact ⟨this,t,rfl,rfl⟩
theorem mT.inj {l:List ByteArray} (h:mT l) {i j:Nat} {x:ByteArray} (hi:l[i]? = some x) (hj:l[j]? = some x):i=j:=by
 obtain ⟨h1,e1⟩:=bS hi;obtain ⟨h2,e2⟩:=bS hj;rcases Nat.lt_trichotomy i j with hij | hij | hij
 .have:=h.lt hij h2;rw [e1,e2,Na] at this;cases this
 .exact hij
 .have:=h.lt hij h1;rw [e1,e2,Na] at this;cases this
theorem ju.eq {s:aW} {r:Rw} {k1 k2:LN} (hs:dO s) (h1:ju s r k1) (h2:ju s r k2):k1=k2:=by
 apply ext_getElem (by rw [h1.n,h2.n]);intro i hi hj;have hd:i<s.ak.length:=by rw [<-h1.n];exact hi
 have ht:i<r.aQ.length:=by rw [h1.nt];exact hd
 exact (hs.ak i hd).Py.1.inj (h1.at_ i _ _ _ (gE hd) (gE ht) (gE hi)) (h2.at_ i _ _ _ (gE hd) (gE ht) (gE hj))
end Go.Proofs.YtjopcamkclndlaaGreat.Tc
