/- Parts of a proof. -/
import Derived.Test.YtjopcamkclndlaaGreatH002
import Derived.Maps.Own
import Derived.Maps.OwnOps
import Derived.Maps.OwnSet
import Derived.Maps.Views
import Derived.Lib.SliceRun
import Derived.Deep.LoopGhost
set_option linter.unusedVariables false
set_option linter.unusedSimpArgs false
set_option maxRecDepth 100000
set_option maxHeartbeats 8000000
namespace Go.Proofs.YtjopcamkclndlaaGreat.Base
open List Go.RowKit
section
variable {P:Program}
theorem a6m (w:World) (base:Nat) (t ty e:TypeId) (i:TypeInfo) (size c:Nat) (ht:P.underlying t=some (.slice e)) (hi:P.info? e=some i)
 (v:Value) (n:Nat) (xs:List Value) (aE:w.ownsRow base e size v n xs) :
 (Builtin.append_ #[t,t] ty #[v,.slice none 0 c]).run P w = .ok v w:=by
 rcases aE.2 with ⟨rfl,rfl⟩ | ⟨g,cap,cur,rfl,_,_,j7,_⟩
 .simp [Builtin.append_,run_underlying ht,sizeOf,typeInfo,hi,Builtin.lenOf,Builtin.firstCells]
 .simp [Builtin.append_,run_underlying ht,sizeOf,typeInfo,hi,Builtin.lenOf,Builtin.firstCells,j7,storeCells]
theorem a8p (w:World) (base:Nat) (t ty e:TypeId) (i:TypeInfo) (z:Value) (size bytes:Nat) (ht:P.underlying t=some (.slice e)) (hi:P.info? e=some i) (hz:i.zero=some z)
 (kL:i.size=size) (kj:i.bytes=bytes) (jY:z.cells.size=size) (dv:0<size)
 (v:Value) (n:Nat) (xs:List Value) (aE:w.ownsRow base e size v n xs) (A:Option Addr) (m c B:Nat) (oh:List Value) (hl:oh.length=m*size) (hr:Row w B A oh) (h1:∀u∈oh,u.oneCell'=true)
 (hn:n+m<1048576*64) (hb:bytes<=256) (qQ:base<=w.heap.size) :
 ∃v' w',(Builtin.append_ #[t,t] ty #[v,.slice A m c]).run P w = .ok v' w'/\w'.ownsRow base e size v' (n+m) (xs++oh)/\App w w' v v':=by
 rcases A with _ | ⟨b,off,p⟩
 .have FR:oh=[]:=by
   rcases hr with hr | ⟨b,off,hh,_⟩
   .exact hr
   .cases hh
  subst FR;obtain rfl:m=0:=by
   have h0:m*size=0:=by simpa using hl.symm
   rcases Nat.mul_eq_zero.1 h0 with h | h
   .exact h
   .omega
  refine ⟨v,w,a6m w base t ty e i size c ht hi v n xs aE,by simpa using aE,⟨World.grownBy.refl w _,.inl rfl⟩⟩
 .have nZ:∀j u,oh[j]? = some u->w.cell? ((⟨b,off,p⟩:Addr).add j)=some u:=by
   intro j u hj;rcases hr with rfl | ⟨b',jy,hh,_,hc⟩
   .simp at hj
   .simp only [Option.some.injEq,Addr.mk.injEq] at hh;obtain ⟨rfl,rfl,rfl⟩:=hh;rw [xO];exact hc j u hj
  obtain ⟨v',w',hr,h2,h3,_,h5⟩:=run_append_own_at (P:=P) w base t ty e i z size bytes ht hi hz kL kj jY dv v n xs aE ⟨b,off,p⟩ m c oh hl nZ h1 (by unfold maxLen;omega)
   (by have:(n+m)*bytes<=(1048576*64)*256:=Nat.mul_le_mul (by omega) hb;omega) qQ
  refine ⟨v',w',hr,h2,h3,?_⟩;rcases h5 with h5 | h5
  .exact .inl h5
  .exact .inr ⟨_,h5,Nat.le_refl _⟩
theorem a05 {o:Oper} {a:Act} {K:Act->World->Prop} {Q:Exit->Act->World->Prop} (s x:Operand) (t:TypeId)
 (ho:o.op = .call { callee := .builtin .append,args:=#[s,x],argTypes:=#[t,t] })
 (base:Nat) (e:TypeId) (i:TypeInfo) (z:Value) (size bytes:Nat) (ht:P.underlying t=some (.slice e)) (hi:P.info? e=some i) (hz:i.zero=some z)
 (kL:i.size=size) (kj:i.bytes=bytes) (jY:z.cells.size=size) (dv:0<size)
 (w:World) (v:Value) (n:Nat) (xs:List Value) (hs:a.eval s=v) (aE:w.ownsRow base e size v n xs)
 (A:Option Addr) (m c B:Nat) (oh:List Value) (hx:a.eval x = .slice A m c) (hl:oh.length=m*size) (hr:Row w B A oh) (h1:∀u∈oh,u.oneCell'=true)
 (hn:n+m<1048576*64) (hb:bytes<=256) (qQ:base<=w.heap.size)
 (h:∀v' w',w'.ownsRow base e size v' (n+m) (xs++oh)->App w w' v v'->K (a.put o.dst v') w') :
 o.wp P a w K Q:=by
 obtain ⟨v',w',jM,h2,h3⟩:=a8p (P:=P) w base t o.type e i z size bytes ht hi hz kL kj jY dv v n xs aE A m c B oh hl hr h1 hn hb qQ;unfold Oper.wp execOp;simp only [ho,resolve,invoke,builtin,Sem.run_bind,Sem.run_pure,Result.andThen_ok,map_toArray,map_cons,map_nil,hs,hx,jM];exact h v' w' h2 h3
theorem Rk {an:Array Oper} {rest:List Oper} {o:Oper} {a:Act} {Q:Exit->Act->World->Prop} (pU:o.guard=none) (s x:Operand) (t:TypeId)
 (ho:o.op = .call { callee := .builtin .append,args:=#[s,x],argTypes:=#[t,t] })
 (base:Nat) (e:TypeId) (i:TypeInfo) (z:Value) (size bytes:Nat) (ht:P.underlying t=some (.slice e)) (hi:P.info? e=some i) (hz:i.zero=some z)
 (kL:i.size=size) (kj:i.bytes=bytes) (jY:z.cells.size=size) (dv:0<size)
 (w:World) (v:Value) (n:Nat) (xs:List Value) (hs:a.eval s=v) (aE:w.ownsRow base e size v n xs)
 (A:Option Addr) (m c B:Nat) (oh:List Value) (hx:a.eval x = .slice A m c) (hl:oh.length=m*size) (hr:Row w B A oh) (h1:∀u∈oh,u.oneCell'=true)
 (hn:n+m<1048576*64) (hb:bytes<=256) (qQ:base<=w.heap.size)
 (h:∀v' w',w'.ownsRow base e size v' (n+m) (xs++oh)->App w w' v v'->wpList P an Q rest (a.put o.dst v') w') :
 wpList P an Q (o::rest) a w:=by
 refine wpList_plain pU fun K hK => ?_
 exact a05 s x t ho base e i z size bytes ht hi hz kL kj jY dv w v n xs hs aE A m c B oh hx hl hr h1 hn hb qQ fun v' w' h2 h3=>hK _ _ (h v' w' h2 h3)
end
section
variable {P:Program}
theorem Y6 {wr w':World} {o:Obj} {v v':Value} (h:App (wr.alloc o) w' v v'):App wr w' v v':=by
 have h2:=h.grown;refine ⟨⟨h2.os,h2.tape,h2.output,Nat.le_trans (by simp) h2.size,fun k hk av=>(h2.block k (by simp;omega) av).trans (Below.heap_alloc _ _ _ hk)⟩,?_⟩;rcases h.qH with h4 | ⟨k,h4,h5⟩
 .exact .inl h4
 .exact .inr ⟨k,h4,Nat.le_trans (by simp) h5⟩
theorem Yy (wr:World) (cs:Array Value) (e:TypeId):Row (wr.alloc (.cells cs e)) (wr.alloc (.cells cs e)).heap.size (some ⟨wr.heap.size,0,none⟩) cs.toList:=by
 refine .inr ⟨_,0,rfl,by simp,fun i v hv => ?_⟩;rw [(aa.new wr e cs).cell (0+i),Nat.zero_add];simpa using hv
theorem a0a {o:Oper} {a:Act} {K:Act->World->Prop} {Q:Exit->Act->World->Prop} (s x:Operand) (t:TypeId)
 (ho:o.op = .call { callee := .builtin .append,args:=#[s,x],argTypes:=#[t,t] })
 (base:Nat) (e:TypeId) (i:TypeInfo) (z:Value) (size bytes:Nat) (ht:P.underlying t=some (.slice e)) (hi:P.info? e=some i) (hz:i.zero=some z)
 (kL:i.size=size) (kj:i.bytes=bytes) (jY:z.cells.size=size) (dv:0<size)
 (wr:World) (cs:Array Value) (cE:cs.size=size) (iv:∀u∈cs.toList,u.oneCell'=true) (v:Value) (n:Nat) (xs:List Value) (hs:a.eval s=v) (aE:wr.ownsRow base e size v n xs)
 (hx:a.eval x = .slice (some ⟨wr.heap.size,0,none⟩) 1 1)
 (hn:n+1<1048576*64) (hb:bytes<=256) (qQ:base<=wr.heap.size)
 (h:∀v' w',w'.ownsRow base e size v' (n+1) (xs++cs.toList)->App wr w' v v'->K (a.put o.dst v') w') :
 o.wp P a (wr.alloc (.cells cs e)) K Q :=
 a05 s x t ho base e i z size bytes ht hi hz kL kj jY dv _ v n xs hs (aE.alloc _) _ 1 1 _ cs.toList hx (by simp [cE]) (Yy wr cs e) iv hn hb (by simp;omega) fun v' w' h2 h3=>h v' w' h2 (Y6 h3)
theorem vG {an:Array Oper} {rest:List Oper} {o:Oper} {a:Act} {Q:Exit->Act->World->Prop} (pU:o.guard=none) (s x:Operand) (t:TypeId)
 (ho:o.op = .call { callee := .builtin .append,args:=#[s,x],argTypes:=#[t,t] })
 (base:Nat) (e:TypeId) (i:TypeInfo) (z:Value) (size bytes:Nat) (ht:P.underlying t=some (.slice e)) (hi:P.info? e=some i) (hz:i.zero=some z)
 (kL:i.size=size) (kj:i.bytes=bytes) (jY:z.cells.size=size) (dv:0<size)
 (wr:World) (cs:Array Value) (cE:cs.size=size) (iv:∀u∈cs.toList,u.oneCell'=true) (v:Value) (n:Nat) (xs:List Value) (hs:a.eval s=v) (aE:wr.ownsRow base e size v n xs)
 (hx:a.eval x = .slice (some ⟨wr.heap.size,0,none⟩) 1 1)
 (hn:n+1<1048576*64) (hb:bytes<=256) (qQ:base<=wr.heap.size)
 (h:∀v' w',w'.ownsRow base e size v' (n+1) (xs++cs.toList)->App wr w' v v'->wpList P an Q rest (a.put o.dst v') w') :
 wpList P an Q (o::rest) a (wr.alloc (.cells cs e)):=by
 refine wpList_plain pU fun K hK => ?_
 exact a0a s x t ho base e i z size bytes ht hi hz kL kj jY dv wr cs cE iv v n xs hs aE hx hn hb qQ fun v' w' h2 h3=>hK _ _ (h v' w' h2 h3)
theorem M9 {an:Array Oper} {o:Oper} {a:Act} {K:Act->World->Prop} {Q:Exit->Act->World->Prop} {E:Prop} (pU:o.guard=none) (s x:Operand) (t:TypeId)
 (ho:o.op = .call { callee := .builtin .append,args:=#[s,x],argTypes:=#[t,t] })
 (base:Nat) (e:TypeId) (i:TypeInfo) (z:Value) (size bytes:Nat) (ht:P.underlying t=some (.slice e)) (hi:P.info? e=some i) (hz:i.zero=some z)
 (kL:i.size=size) (kj:i.bytes=bytes) (jY:z.cells.size=size) (dv:0<size)
 (wr:World) (cs:Array Value) (cE:cs.size=size) (iv:∀u∈cs.toList,u.oneCell'=true) (v:Value) (n:Nat) (xs:List Value) (hs:a.eval s=v) (aE:wr.ownsRow base e size v n xs)
 (hx:a.eval x = .slice (some ⟨wr.heap.size,0,none⟩) 1 1)
 (hn:n+1<1048576*64) (hb:bytes<=256) (qQ:base<=wr.heap.size)
 (h:∀v' w',w'.ownsRow base e size v' (n+1) (xs++cs.toList)->App wr w' v v'->K (a.put o.dst v') w') :
 if Region.wanted o (yielded an a.tmps)=true then o.wp P a (wr.alloc (.cells cs e)) K Q else E:=by
 have hw:Region.wanted o (yielded an a.tmps)=true:=by simp [Region.wanted,pU]
 rw [if_pos hw];exact a0a s x t ho base e i z size bytes ht hi hz kL kj jY dv wr cs cE iv v n xs hs aE hx hn hb qQ h
end
section
variable {wr w':World} {v v':Value} {base:Nat} {e:TypeId} {size n:Nat} {xs:List Value}
theorem App.mO {B:Nat} {a:World} (h:App wr w' v v') (hb:Below B a wr) (aE:wr.ownsRow base e size v n xs) (hB:B<=base) (hs:B<=wr.heap.size):Below B a w' :=
 hb.grown h.grown hs (fun k hk=>Nat.le_trans hB (aE.lt k hk).1)
theorem App.de {k:Nat} (h:App wr w' v v') (hk:k<wr.heap.size) (av:v.ownBlock≠some k):w'.heap[k]? = wr.heap[k]? := h.grown.block k hk (fun e=>av e.symm)
theorem eM (h:wr.ownsRow base e size v n xs):∃A c,v = .slice A n c:=by
 rcases h.2 with ⟨rfl,rfl⟩ | ⟨g,cap,cur,rfl,_⟩
 .exact ⟨none,0,rfl⟩
 .exact ⟨_,_,rfl⟩
theorem gV {A:Option Addr} {c:Nat} (h:wr.ownsRow base e size (.slice A n c) n xs):Row wr wr.heap.size A xs:=by
 rcases h.2 with ⟨h1,h0⟩ | ⟨g,cap,cur,hv,_,hh,_⟩
 .left
  have:=h.1;rw [h0] at this;simpa using this
 .injection hv with hA _ _
  subst hA;have hl:=(h.lt g rfl).2;refine .inr ⟨g,0,rfl,hl,fun i v hv => ?_⟩;have:=h.cells (g:=g) rfl i v hv;rw [xO] at this;exact this
theorem Row.app {B:Nat} {A:Option Addr} {vs:List Value} (hr:Row wr B A vs) (h:App wr w' v v') (hB:B<=wr.heap.size) (av:∀b off,A=some ⟨b,off,none⟩->vs≠[]->v.ownBlock≠some b):Row w' B A vs:=by
 rcases hr with hr | ⟨b,off,e,hb,hc⟩
 .exact .inl hr
 .by_cases h0:vs=[]
  .exact .inl h0
  .refine .inr ⟨b,off,e,hb,fun i u hu => ?_⟩;have:=hc i u hu;have zl:=h.de (by omega:b<wr.heap.size) (av b off e h0);unfold World.cell? at this ⊢;rw [zl];exact this
end
end Go.Proofs.YtjopcamkclndlaaGreat.Base
namespace Go.Proofs.YtjopcamkclndlaaGreat.Tc
open List Go.RowKit Base
structure Fa where
 A:OA
 keys:LN
 c:Nat
 ag:Ag
abbrev cF (w:World) (b o:Nat) (x:Fa):Prop:=w.cell? ⟨b,o,none⟩=some (.slice x.A x.keys.length x.c)/\w.cell? ⟨b,o+1,none⟩=some (.int .i64 x.ag.c)/\w.cell? ⟨b,o+2,none⟩=some (.int .i64 x.ag.s0)/\w.cell? ⟨b,o+3,none⟩=some (.int .i64 x.ag.n0)/\w.cell? ⟨b,o+4,none⟩=some (.int .i64 x.ag.x0)/\w.cell? ⟨b,o+5,none⟩=some (.int .i64 x.ag.s1)/\w.cell? ⟨b,o+6,none⟩=some (.int .i64 x.ag.n1)/\w.cell? ⟨b,o+7,none⟩=some (.int .i64 x.ag.x1)/\w.cell? ⟨b,o+8,none⟩=some (.int .i64 x.ag.s2)/\w.cell? ⟨b,o+9,none⟩=some (.int .i64 x.ag.n2)/\w.cell? ⟨b,o+10,none⟩=some (.int .i64 x.ag.x2)
abbrev kF (w:World) (b:Nat) (x:Fa):Prop:=w.cell? ⟨b,0,none⟩=some (.slice x.A x.keys.length x.c)/\w.cell? ⟨b,1,none⟩=some (.int .i64 x.ag.c)/\w.cell? ⟨b,2,none⟩=some (.int .i64 x.ag.s0)/\w.cell? ⟨b,3,none⟩=some (.int .i64 x.ag.n0)/\w.cell? ⟨b,4,none⟩=some (.int .i64 x.ag.x0)/\w.cell? ⟨b,5,none⟩=some (.int .i64 x.ag.s1)/\w.cell? ⟨b,6,none⟩=some (.int .i64 x.ag.n1)/\w.cell? ⟨b,7,none⟩=some (.int .i64 x.ag.x1)/\w.cell? ⟨b,8,none⟩=some (.int .i64 x.ag.s2)/\w.cell? ⟨b,9,none⟩=some (.int .i64 x.ag.n2)/\w.cell? ⟨b,10,none⟩=some (.int .i64 x.ag.x2)
abbrev fG (f:Fa):LV:=[.slice f.A f.keys.length f.c,.int .i64 f.ag.c,.int .i64 f.ag.s0,.int .i64 f.ag.n0,.int .i64 f.ag.x0,.int .i64 f.ag.s1,.int .i64 f.ag.n1,.int .i64 f.ag.x1,.int .i64 f.ag.s2,.int .i64 f.ag.n2,.int .i64 f.ag.x2]
abbrev eB (f:Fa):AV:=#[.slice f.A f.keys.length f.c,.int .i64 f.ag.c,.int .i64 f.ag.s0,.int .i64 f.ag.n0,.int .i64 f.ag.x0,.int .i64 f.ag.s1,.int .i64 f.ag.n1,.int .i64 f.ag.x1,.int .i64 f.ag.s2,.int .i64 f.ag.n2,.int .i64 f.ag.x2]
theorem xr (f:Fa):(fG f).length=11:=rfl
theorem CA (f:Fa):∀u∈(eB f).toList,u.oneCell'=true:=by
 intro u hu;simp only [eB,mem_cons,not_mem_nil,or_false] at hu;rcases hu with rfl | rfl | rfl | rfl | rfl | rfl | rfl | rfl | rfl | rfl | rfl<;>rfl
theorem EO:(Tryz.prog.info? 56).map (fun i=>(i.zero,i.size,i.bytes))=some (some (.agg #[.slice none 0 0,.int .i64 0,.int .i64 0,.int .i64 0,.int .i64 0,.int .i64 0,.int .i64 0,.int .i64 0,.int .i64 0,.int .i64 0,.int .i64 0]),11,104):=by kernel_rfl
structure dG (w:World) (B:Nat) (A:OA) (l:List Fa):Prop where
 row:Row w B A (l.flatMap fG)
 keys:∀f∈l,Row w B f.A (aP f.keys)
theorem dG.below {w w':World} {B:Nat} {A:OA} {l:List Fa} (h:dG w B A l) (hb:Below B w w'):dG w' B A l:=⟨h.row.below hb,fun f hf=>(h.keys f hf).below hb⟩
theorem dG.more {w:World} {B B':Nat} {A:OA} {l:List Fa} (h:dG w B A l) (hB:B<=B'):dG w B' A l:=⟨h.row.more hB,fun f hf=>(h.keys f hf).more hB⟩
def dx (w:World) (v:Value) (f:Fa):Prop:=Row w w.heap.size f.A (aP f.keys)/\∀b off,f.A=some ⟨b,off,none⟩->aP f.keys≠[]->v.ownBlock≠some b
theorem dx.app {wr w':World} {v v':Value} {f:Fa} (h:dx wr v f) (ha:App wr w' v v'):dx w' v' f:=by
 refine ⟨(Row.app h.1 ha (ah _) h.2).more ha.grown.size,fun b off e av => ?_⟩;rcases ha.qH with hl | ⟨k,hl,hk⟩
 .rw [hl];exact h.2 b off e av
 .rw [hl];intro hh;injection hh with hh
  rcases h.1 with h0 | ⟨b',jy,e',jc,_⟩
  .exact av h0
  .rw [e] at e';injection e' with e'
   injection e' with e1 _ _
   omega
theorem dx.below {w w':World} {v:Value} {f:Fa} (h:dx w v f) (hb:Below w.heap.size w w'):dx w' v f:=⟨(h.1.below hb).more hb.size,h.2⟩
theorem dx.new {w:World} {v:Value} {f:Fa} {B:Nat} (aE:w.ownsRow B 3 1 (.slice f.A f.keys.length f.c) f.keys.length (aP f.keys)) (hv:∀k,v.ownBlock=some k->k<B):dx w v f:=by
 refine ⟨gV aE,fun b off e av hh => ?_⟩;have h1:=hv b hh;rw [e] at aE;have h2:=(aE.lt b rfl).1;omega
def uI (s:aW) (rows:List Rw) (k:Nat) (l:List Fa):Prop:=l.length=k/\∀ (i:Nat) (r:Rw) (f:Fa),rows[i]? = some r->l[i]? = some f->ju s r f.keys/\f.ag=iD r.dP
theorem uI.next {s:aW} {rows:List Rw} {k:Nat} {l:List Fa} (h:uI s rows k l) {r:Rw} (hr:rows[k]? = some r) {f:Fa} (hk:ju s r f.keys) (ha:f.ag=iD r.dP):uI s rows (k+1) (l++[f]):=by
 refine ⟨by rw [aS,h.1];rfl,fun i r' f' jb gZ => ?_⟩;by_cases hi:i<l.length
 .rw [getElem?_append_left hi] at gZ;exact h.2 i r' f' jb gZ
 .rw [getElem?_append_right (by omega)] at gZ;have oR:i=k:=by
   rcases Nat.lt_or_ge (i-l.length) 1 with h1 | h1
   .have:=h.1;omega
   .rw [getElem?_eq_none (by simpa using h1)] at gZ;cases gZ
  subst oR;rw [hr] at jb;injection jb with jb
  subst jb;rw [h.1,Nat.sub_self] at gZ;injection gZ with gZ
  subst gZ;exact ⟨hk,ha⟩
def PU (s:aW) (rows:List Rw) (w:World) (e:Ending) (w':World):Prop:=∃ (A:OA) (c:Nat) (l:List Fa),e = .returned (.slice A l.length c)/\dG w' w'.heap.size A l/\uI s rows rows.length l/\Below w.heap.size w w'
theorem a6C (s:aW) (A:OA) (rows:List Rw) (c:Nat) (w:World) (h:gW w w.heap.size s) (hr:j6 w w.heap.size A rows) (ho:qI s rows):Calls Tryz.prog 6 #[.agg (cj s),.slice A rows.length c] w (PU s rows w):=by
 have gQ:=kp (show ∀A' c' l w',dG w' w'.heap.size A' l->uI s rows rows.length l->Below w.heap.size w w'->PU s rows w (.returned (.slice A' l.length c')) w' from fun A' c' l w' h1 h2 hb=>⟨A',c',l,rfl,h1,h2,hb⟩);have au:=(aq w.heap.size w).alloc (ah _) (.cells (cj s) 25);have ay:=kp au;have HB:=kp (aa.new w 25 (cj s));have H0:=kp ((h.below au).more au.size);have ib:=kp ((hr.below au).more au.size);have hn:=ho.n;have Ho:=kp ho;have rR:=kp a00;have Sa:=kp a7d;obtain ⟨i0,cG,cI,cH,cJ⟩:=info_parts EO;clear h hr ho au;generalize hQ:PU s rows w=Q at *;clear hQ;unfold cj at HB ay H0 ib ⊢;go_enter Tryz.func6,Tryz.ntmps6;go_wp2_with fail;generalize w.alloc (.cells #[.slice s.A s.ak.length s.c,.slice s.Am s.aU.length s.cm] 25)=W0 at *
 go_loopw [5,12] (fun v5 kq wr=>∃ (k:Nat) (l:List Fa) (A':OA) (c':Nat),k<=rows.length/\kq = .int .i64 k/\v5 = .slice A' k c'/\uI s rows k l/\wr.ownsRow W0.heap.size 56 11 (.slice A' k c') k (l.flatMap fG)/\(∀f∈l,dx wr (.slice A' k c') f)/\Below W0.heap.size W0 wr) (fun _ kq _=>rows.length-(intOf kq).toNat)
 case atStart=>exact ⟨0,[],none,0,aZ _,rfl,rfl,⟨rfl,fun i _ _ _ h=>by simp at h⟩,gL _ _ _ _,(fun f hf=>by cases hf),aq _ _⟩
 case round =>
  obtain ⟨k,l,A',c',hk,rfl,rfl,fH,aE,fv,aC⟩:=hrel;have fU:=kp fH;have bF:=kp aE;have kN:=kp fv;have ai:=kp aC;clear fH aE fv aC;by_cases ae:k<rows.length
  .have oW:=(ib.o.below ai.o).more ai.o.size;have wv:=(H0.o.below ai.o).more ai.o.size;obtain ⟨b,off,rfl,hb,c0,c1⟩:=oW.J6 k ae;have nB:=oW.each _ (gM ae);have eQ:=(aq wr.heap.size wr).alloc (ah _) (.cells (kK (rows[k]'ae)) 60);have mc:=kp (rR.o s (rows[k]'ae) _ ((wv.below eQ).more eQ.size) ((nB.below eQ).more eQ.size) Ho.o.eF);have FT:=kp ((nB.below eQ).more eQ.size);have rT:=kp eQ;have me:=kp ((HB.o.under ai.o).under eQ);have jz:=kp (aa.new wr 60 (kK (rows[k]'ae)));have Hex:=kp (Ho.o.rows _ (gM ae));have Sb:=kp (gE ae);unfold kK at mc rT me jz FT;unfold cj at mc;have dz:(0:Int)<=(k:Int):=by omega
   have df:(k:Int)<(rows.length:Int):=by omega
   clear oW wv nB eQ;generalize (rows[k]'ae)=r at *;go_upto_region 5 with fail
   clear c0 c1;generalize wr.alloc (.cells #[.slice r.A r.aQ.length r.c,.slice r.Av r.dP.length r.cv] 60)=W2 at *;obtain ⟨b0,b1,_,_⟩:=me.o.two;obtain ⟨q0,q1,_,_⟩:=jz.o.two;go_wp2_with fail;refine mc.o.mono ?_;rintro e w2 ⟨v,n,rfl,eZ,Jw,aH⟩;obtain ⟨keys,om,rU⟩:=eZ (Jw Hex.o);obtain ⟨Ak,ck,rfl⟩:=eM rU;have rS:=kp om;have zm:=kp rU;have aF:=kp aH;have vd:=bu jz aH;have Jy:r.dP.length<=3:=by rw [om.nv];exact Ho.o.eF.m2
   have Jz:=kp (Sa.o r.Av r.dP r.cv w2 Jy ((FT.o.dP.below aH).more aH.size));clear eZ Jw aH b0 b1 q0 q1 mc om rU Jy;obtain ⟨q0,q1,_,_⟩:=vd.o.two;go_wp2_with fail;refine Jz.o.mono ?_;rintro e w3 ⟨rfl,aN⟩;have bC:=kp (rT.o.trans ((aF.o.trans (aN.mono aF.o.size)).mono rT.o.size));have Sc:=kp (eV zm.o aN);clear aN q0 q1 Jz;have jN:=kp (eV bF.o bC.o);have Bp:=kp (fun f hf=>(kN.o f hf).below bC.o);have qS:=kp (ai.o.trans (bC.o.mono ai.o.size));have wy:=kp (show dx w3 (.slice A' k c') ⟨Ak,keys,ck,iD r.dP⟩ from dx.new (B:=W2.heap.size) Sc.o (fun j hj=>dL (bF.o.lt j hj).2 rT.o.size));have dw:=kp (fU.o.next (f:=⟨Ak,keys,ck,iD r.dP⟩) Sb.o rS.o rfl);have cz:k+1<1048576*64:=by omega
   have Bq:=kp qS.o.size;generalize iD r.dP=ag at *
   go_wp2_with (at_builtin;refine vG rfl (.tmp 22) (.tmp 28) 30 rfl W0.heap.size 56 i0 _ 11 104 Tryz.underlying30 cG cI cH cJ rfl (by decide) w3 (eB ⟨Ak,keys,ck,ag⟩) rfl (CA _) (.slice A' k c') k (l.flatMap fG) rfl jN.o rfl cz (by decide) Bq.o ?_;intro v5 w5 aY bV;obtain ⟨A5,c5,h5⟩:=eM aY;subst h5;have cP:=kp aY;have bZ:=kp (bV.mO qS.o jN.o (ah _) Bq.o);have iU:=kp (show ∀f∈l++[⟨Ak,keys,ck,ag⟩],dx w5 (.slice A5 (k+1) c5) f from fun f hf=>by (rcases mem_append.1 hf with hf | hf;exact (Bp.o f hf).app bV;rw [mem_singleton.1 hf];exact wy.o.app bV));clear aY bV)
   refine ⟨⟨k+1,l++[⟨Ak,keys,ck,ag⟩],A5,c5,by omega,by go_num,rfl,dw.o,?_,iU.o,bZ.o⟩,by simp [intOf];omega⟩;rw [flatMap_append];exact cP.o
  .obtain rfl:k=rows.length:=by omega
   have jO:=kp fU.o.1;have bN:=kp (show dG wr wr.heap.size A' l from ⟨gV bF.o,fun f hf=>(kN.o f hf).1⟩);go_wp2_with fail;have:=gQ.o A' c' l _ bN.o fU.o (ay.o.trans (ai.o.mono ay.o.size));rw [jO.o] at this;exact this
end Go.Proofs.YtjopcamkclndlaaGreat.Tc
namespace Go.Proofs.YtjopcamkclndlaaGreat.Tc
open List Go.RowKit Base Go.Maps Go.WideMaps
theorem FE:Keyed Tryz.prog 3:=int_keyed Tryz.underlying3
theorem xv:Keyed Tryz.prog 9:=string_keyed Tryz.underlying9
theorem tN (w:World):(zeroValue 3).run Tryz.prog w = .ok (.int .i64 0) w:=by kernel_rfl
def lits (l:List Int):List Lit:=l.map (.int .i64)
theorem a5m (l:List Int):∀x∈lits l,WideAt.IsKeyLit x:=by
 intro x hx;unfold lits at hx;obtain ⟨y,_,rfl⟩:=mem_map.1 hx
 trivial
theorem aaj (l:List Int):∀ (rV:List Int),rV.Nodup->∃r:List Int,(lits l).foldl addKey (lits rV)=lits r/\r.Nodup/\∀x,x∈r↔x∈rV\/x∈l:=by
 induction l with
 | nil=>intro rV h;exact ⟨rV,rfl,h,by simp⟩
 | cons a l ih =>
  intro rV h;have a1s:(lits rV).any (fun y=>y.sameKey (.int .i64 a))=decide (a∈rV):=by
   rw [Bool.eq_iff_iff];unfold lits;simp only [any_map,any_eq_true,decide_eq_true_eq,Function.comp];constructor
   .rintro ⟨y,hy,e⟩;by_cases hya:y=a
    .rw [<-hya];exact hy
    .rw [sameKey_ne (by intro hh;injection hh with _ hh;exact hya hh)] at e;cases e
   .intro ha;exact ⟨a,ha,by simp [Lit.sameKey]⟩
  by_cases ha:a∈rV
  .obtain ⟨r,h1,h2,h3⟩:=ih rV h;refine ⟨r,?_,h2,fun x => ?_⟩
   .rw [<-h1];show (lits l).foldl addKey (addKey (lits rV) (.int .i64 a))=_;unfold addKey at *;rw [a1s,decide_eq_true ha,if_pos rfl]
   .rw [h3,mem_cons];constructor
    .rintro (h | h)
     .exact .inl h
     .exact .inr (.inr h)
    .rintro (h | rfl | h)
     .exact .inl h
     .exact .inl ha
     .exact .inr h
  .obtain ⟨r,h1,h2,h3⟩:=ih (rV++[a]) (by
    rw [nodup_append];refine ⟨h,by simp,?_⟩;intro x hx y hy;rw [mem_singleton.1 hy];intro e;rw [e] at hx
    exact ha hx)
   refine ⟨r,?_,h2,fun x => ?_⟩
   .rw [<-h1];show (lits l).foldl addKey (addKey (lits rV) (.int .i64 a))=_;have e:addKey (lits rV) (.int .i64 a)=lits (rV++[a]):=by
     unfold addKey;rw [a1s,decide_eq_false ha,if_neg (by simp)];simp [lits]
    rw [e]
   .rw [h3];simp only [mem_append,mem_cons,not_mem_nil,or_false];constructor
    .rintro ((h | h) | h)
     .exact .inl h
     .exact .inr (.inl h)
     .exact .inr (.inr h)
    .rintro (h | h | h)
     .exact .inl (.inl h)
     .exact .inl (.inr h)
     .exact .inr h
theorem a6h {r:List Int} {m:Nat} (h1:r.Nodup) (h2:∀x,x∈r↔∃i:Nat,i<m/\x=(i:Int)):r.length=m:=by
 have hp:r.Perm ((range m).map fun i:Nat=>(i:Int)):=by
  rw [perm_ext_iff_of_nodup h1]
  .intro a;rw [h2,mem_map];constructor
   .rintro ⟨i,hi,rfl⟩;exact ⟨i,mem_range.2 hi,rfl⟩
   .rintro ⟨i,hi,rfl⟩;exact ⟨i,mem_range.1 hi,rfl⟩
  .rw [nodup_iff_pairwise_ne,pairwise_map];have hd:(range m).Nodup:=nodup_range;rw [nodup_iff_pairwise_ne] at hd;exact hd.imp fun h e=>h (by omega)
 have:=hp.length_eq;simpa using this
def AP (l:List Int):DataW Unit:=setOf (.lit (.int .i64 1)) (lits l)
theorem a8E (l:List Int) (x:Int):AP (l++[x])=(AP l).put (.int .i64 x) (.lit (.int .i64 1)):=by
 unfold AP lits;rw [map_append];exact setOf_snoc _ _ _
theorem a6L {t:jv} {m:Nat} (h:tM t (m:Int)):Maps.size (AP t.up)=m:=by
 unfold AP;rw [size_setOf _ _ (a5m _)];obtain ⟨r,h1,h2,h3⟩:=aaj t.up [] nodup_nil;have e:(lits t.up).foldl addKey []=lits r:=h1;rw [e];unfold lits;rw [lM];refine a6h h2 fun x => ?_
 rw [h3];constructor
 .rintro (hx | hx)
  .cases hx
  .obtain ⟨a,b⟩:=h.up x hx;exact ⟨x.toNat,by omega,by omega⟩
 .rintro ⟨i,hi,rfl⟩;exact .inr (h.all i (by omega))
theorem abf (t:jv) (dM:Int) (w:World) (h:rH w w.heap.size t) (ho:tM t dM):Calls Tryz.prog 149 #[.slice t.Au t.up.length t.cu,.int .i64 t.aQ.length,.int .i64 dM] w (eW (fun r=>r=true) w):=by
 have HR:=kp (fun r w' h hb=>eW.mono (P:=fun r=>r=true) (w:=w) (r:=r) (w':=w') h hb);have Hr:=kp h.up;have hn:=h.nt;have hu:=h.nu;unfold maxLen at hn hu;have Bj:=ho.most;clear h;generalize hQ:eW (fun r=>r=true) w=Q at *;clear hQ;by_cases ha:dM<=0
 .have Hl:t.up=[]:=ho.top ha;rw [Hl];clear Hl ho Hr hu;go_enter Tryz.func149,Tryz.ntmps149;go_wp2_with fail;exact HR.o _ _ (by simp) (aq _ _)
 .obtain ⟨m,rfl⟩:∃m:Nat,dM=(m:Int):=⟨dM.toNat,by omega⟩
  have hl:=ho.len (by omega);have ac4:=kp (a6L ho);have RT:=kp ho.up;have Dj:¬ (m:Int)<=0:=ha;have av:((t.up.length:Int) != (t.aQ.length:Int))=false:=by simp;omega
  have rQ:=@run_makeMap Tryz.prog;clear ho;generalize t.aQ.length=nt at *;generalize t.up=l at *;generalize t.Au=Au at *;generalize t.cu=cu at *;generalize hN:l.length=n at *;have Hn:=kp hN;clear hN hl;go_enter Tryz.func149,Tryz.ntmps149;go_wp2_with fail
  go_loopw [22] (fun v22 wr=>∃k:Nat,k<=n/\v22 = .int .i64 k/\wr.ownsMap Tryz.prog 3 (plainElem Tryz.prog 3) w.heap.size k (AP (l.take k))/\Below w.heap.size w wr) (fun v22 _=>n-(intOf v22).toNat)
  case atStart=>exact ⟨0,aZ _,rfl,World.ownsMap_made _ _ _ _,(aq _ _).alloc (ah _) _⟩
  case round =>
   obtain ⟨k,hk,rfl,aE,aC⟩:=hrel;have ai:=kp aC;clear aC;by_cases ae:k<n
   .have aA:k<l.length:=by rw [Hn.o];exact ae
    obtain ⟨b,off,rfl,hb,c0⟩:=Row.at_ ((Hr.o.below ai.o)) (k:=k) (by rw [lM];exact aA);rw [getElem_map] at c0;obtain ⟨oY,fe⟩:=RT.o _ (gM aA);have dw:=kp (show AP (l.take (k+1))=(AP (l.take k)).put (.int .i64 (l[k]'aA)) (.lit (.int .i64 1)) by rw [take_succ_eq_append_getElem aA,a8E]);generalize (l[k]'aA)=z at *;have Sd:=kp (show (Lit.int .i64 z).wf=true from WalkArith.wf_i64 (by omega));have oZ:=kp (show k<maxLen by unfold maxLen;omega)
    go_wp2_with (at_mapUpdate;refine wpList_mapUpdate_own _ rfl (.tmp 33) (.tmp 34) (.const (.int .i64 1)) 194 rfl 3 3 FE Tryz.underlying194 (plainElem Tryz.prog 3) w.heap.size k _ rfl aE oZ.o (.int .i64 z) (.int .i64 1) (.int .i64 z) rfl rfl (keyOf_int_mk Tryz.underlying3 Sd.o) _ [] (plainElem_int Tryz.underlying3 (by decide)) ?_;intro w1 j8 ve;have fI:=kp j8;have zn:=kp ve;clear j8 ve)
    refine ⟨⟨k+1,by omega,by go_num,?_,ai.o.grown zn.o ai.o.size (fun j e=>by cases e;exact ah _)⟩,by simp [intOf];omega⟩;rw [dw.o];exact fI.o
   .have jZ:=aE;rw [take_of_length_le (by rw [Hn.o];omega)] at jZ;clear aE
    go_wp2_with (at_len;refine wpList_len_own _ rfl (.tmp 36) 194 rfl 3 3 Tryz.underlying194 _ w.heap.size _ _ rfl jZ ?_;rw [ac4.o])
    exact HR.o _ _ (by simp) ai.o
theorem a7g (t:jv) (dM:Int) (w:World) (h:rH w w.heap.size t) (ho:vC t dM):Calls Tryz.prog 114 #[.agg (iz t),.int .i64 dM] w (fT (fun r=>r=0) w):=by
 have HR:=kp (fun r w' h hb=>fT.mono (P:=fun r=>r=0) (w:=w) (r:=r) (w':=w') h hb);have au:=(aq w.heap.size w).alloc (ah _) (.cells (iz t) 130);have ay:=kp au;have HB:=kp (aa.new w 130 (iz t));have h0:=(h.below au).more au.size;have HN:=kp (Qk t.name (w.alloc (.cells (iz t) 130)) ho.name);have rR:=kp (a9a t.At t.aQ t.ct (w.alloc (.cells (iz t) 130)) h0.nt h0.aQ ho.row);have HT:=kp (abf t dM (w.alloc (.cells (iz t) 130)) h0 ho.tree);have h1:=ho.n1;have h2:=ho.n2;clear h h0 au ho;generalize hQ:fT (fun r=>r=0) w=Q at *;clear hQ;unfold iz at HB HN rR HT ay ⊢;generalize t.name=x0 at *;generalize t.At=x1 at *;generalize t.aQ.length=n at *;generalize t.ct=x3 at *;generalize t.Au=x4 at *;generalize t.up.length=x5 at *;generalize t.cu=x6 at *;have jx:¬ ((n:Nat):Int)<1:=by omega
 have ng:¬ (200:Int)<((n:Nat):Int):=by omega
 go_enter Tryz.func114,Tryz.ntmps114;go_wp2_with fail;generalize w.alloc (.cells #[.string x0,.slice x1 n x3,.slice x4 x5 x6] 130)=W0 at *;obtain ⟨b0,b1,b2,_,_,_⟩:=HB.o.three;refine HN.o.mono ?_;rintro e w1 ⟨rfl,rfl⟩;go_wp2_with fail;refine rR.o.mono ?_;rintro e w1 ⟨rfl,rfl⟩;go_wp2_with fail;refine HT.o.mono ?_;rintro e w2 ⟨r,rfl,rfl,aH⟩;have aF:=aR ay aH;clear aH b0 b1 b2;go_wp2_with fail;exact HR.o _ _ rfl aF.o
def IE (D:DataW Unit) (L:List ByteArray):Prop:=∀x:ByteArray,x.size<=maxLen->(x∈L->D.atKey (.string x.data.toList) (.lit (.int .i64 0)) = .lit (.int .i64 1))/\(x∉L->D.atKey (.string x.data.toList) (.lit (.int .i64 0)) = .lit (.int .i64 0))
def mQ (w:World) (g:Nat) (L:List ByteArray):Prop :=
 ∃D:DataW Unit,w.ownsMap Tryz.prog 9 (plainElem Tryz.prog 3) g L.length D/\IsMap D/\IE D L
theorem mQ.new (w:World):mQ (w.alloc (.map #[] 0)) w.heap.size [] :=
 ⟨.map [],World.ownsMap_made _ _ _ _,isMap_empty,fun x _=>⟨by simp,fun _=>by simp [DataW.atKey]⟩⟩
theorem mQ.below {w w':World} {g:Nat} {L:List ByteArray} (h:mQ w g L) (hb:Below w.heap.size w w'):mQ w' g L:=by
 obtain ⟨D,⟨es,cl,h1,h2⟩,h3⟩:=h;have ae:g<w.heap.size:=by
  rcases Nat.lt_or_ge g w.heap.size with hh | hh
  .exact hh
  .rw [Array.getElem?_eq_none hh] at h1;cases h1
 exact ⟨D,⟨es,cl,(hb.block g ae).trans h1,h2⟩,h3⟩
theorem mQ.lt {w:World} {g:Nat} {L:List ByteArray} (h:mQ w g L):g<w.heap.size:=by
 obtain ⟨D,h1,_⟩:=h;exact h1.lt
theorem abq {x y:ByteArray} (h:Lit.string x.data.toList=Lit.string y.data.toList):x=y:=by
 injection h with h
 cases x with
 | mk xd=>cases y with
  | mk yd=>exact congrArg ByteArray.mk (Array.toList_inj.1 h)
theorem Xs {D:DataW Unit} {L:List ByteArray} (hD:IsMap D) (h3:IE D L) (z:ByteArray) (hz:z.size<=maxLen):IE (D.put (.string z.data.toList) (.lit (.int .i64 1))) (L++[z]):=by
 intro x hx;by_cases e:x=z
 .subst e;rw [atKey_put_same (k := .string x.data.toList) hD (show WideAt.IsKeyLit (.string x.data.toList) from trivial)];simp
 .rw [atKey_put_other (fun hh=>e (abq hh))];simp only [mem_append,mem_singleton,e,or_false];exact h3 x hx
def QN (w:World) (g:Nat) (L:List ByteArray) (z:ByteArray) (e:Ending) (w':World):Prop:=e = .returned (.bool true)/\w.grownBy w' (some g)/\mQ w' g (L++[z])
theorem a0S (g:Nat) (L:List ByteArray) (z:ByteArray) (w:World) (hz:z.size<=maxLen) (hL:L.length<=5000) (hm:mQ w g L) (eG:z∉L) :
 Calls Tryz.prog 68 #[.map (some g),.string z] w (QN w g L z):=by
 obtain ⟨D,aE,hD,br⟩:=hm;have FU:=Xs hD br z hz;have uf:∀q:Int,D.atKey (.string z.data.toList) (.lit (.int .i64 0)) = .lit (.int .i64 q)->q=0:=by
  intro q hh;rw [(br z hz).2 eG] at hh;injection hh with hh
  injection hh with _ hh
  exact hh.symm
 have sQ:∀q:Int,(D.put (.string z.data.toList) (.lit (.int .i64 1))).atKey (.string z.data.toList) (.lit (.int .i64 0)) = .lit (.int .i64 q)->q=1:=by
  intro q hh;rw [(FU z hz).1 (by simp)] at hh;injection hh with hh
  injection hh with _ hh
  exact hh.symm
 have Se:=kp uf;have Sf:=kp sQ;have qU:=kp (show keyOf Tryz.prog 9 (.string z)=some (.string z.data.toList) from keyOf_string_mk Tryz.underlying9 hz);have oZ:=kp (show L.length<maxLen from Nat.lt_of_le_of_lt hL (by unfold maxLen;omega));have HQ:=kp (show ∀w',w.grownBy w' (some g)->w'.ownsMap Tryz.prog 9 (plainElem Tryz.prog 3) g (L.length+1) (D.put (.string z.data.toList) (.lit (.int .i64 1)))->QN w g L z (.returned (.bool true)) w' from fun w' h1 h2=>⟨rfl,h1,_,by rw [aS];exact h2,hD.put _ _,FU⟩);generalize hQ:QN w g L z=Q at *;clear hQ uf sQ FU br hD eG hz hL;go_enter Tryz.func68,Tryz.ntmps68
 go_wp2_with (first
  | (at_lookup;refine wpList_lookup_own_int _ rfl (.tmp 5) (.tmp 6) 151 rfl 9 3 .i64 xv Tryz.underlying151 Tryz.underlying3 (tN _) g L.length D rfl aE (.string z) (.string z.data.toList) rfl qU.o ?_;intro q nC sR;obtain rfl:=Se.o q nC;clear nC sR)
  | (at_mapUpdate;refine wpList_mapUpdate_own _ rfl (.tmp 5) (.tmp 6) (.tmp 8) 151 rfl 9 3 xv Tryz.underlying151 (plainElem Tryz.prog 3) g L.length D rfl aE oZ.o (.string z) (.int .i64 1) (.string z.data.toList) rfl rfl qU.o _ [] (plainElem_int Tryz.underlying3 (by decide)) ?_;intro w1 j8 ve;have zn:=kp ve;clear ve)
  | (at_lookup;refine wpList_lookup_own_int _ rfl (.tmp 9) (.tmp 10) 151 rfl 9 3 .i64 xv Tryz.underlying151 Tryz.underlying3 (tN _) g (L.length+1) _ rfl j8 (.string z) (.string z.data.toList) rfl qU.o ?_;intro q2 kO Sg;obtain rfl:=Sf.o q2 kO;have fI:=kp j8;clear kO Sg j8))
 exact HQ.o _ zn.o fI.o
theorem aat (d:cR) (k:Nat) (w:World) (h:mJ w w.heap.size d) (hk:k<d.aw.length):Calls Tryz.prog 115 #[.agg (ew d),.int .i64 k] w fun e w'=>e = .returned (.int .i64 (ij d k))/\Below w.heap.size w w':=by
 have hn:=h.n;unfold maxLen at hn;have au:=(aq w.heap.size w).alloc (ah _) (.cells (ew d) 128);by_cases cz:k+1<d.aw.length
 .have h0:=(h.below au).more au.size;obtain ⟨b,off,hA,hb,c0,c1,c2⟩:=h0.dm (k+1) cz;have HV:=kp (show ij d k=((d.aw[k+1]'cz).aQ.length:Nat) by unfold ij;rw [gE cz]);generalize ij d k=V at *;have RU:(k:Int)+1<(d.aw.length:Int):=by omega
  have dz:(0:Int)<=(k:Int)+1:=by omega
  have ay:=kp au;unfold ew at *;rw [hA] at *;clear h h0 au c0 c2 hA;generalize (d.aw[k+1]'cz).At=x1 at *;generalize (d.aw[k+1]'cz).aQ.length=x2 at *;generalize (d.aw[k+1]'cz).ct=x3 at *;go_enter Tryz.func115,Tryz.ntmps115;go_wp2_with fail;go_ret;exact ⟨by rw [HV.o];rfl,ay.o⟩
 .have HV:=kp (show ij d k=0 by unfold ij;rw [getElem?_eq_none (by omega)]);generalize ij d k=V at *;have RU:¬ (k:Int)+1<(d.aw.length:Int):=by omega
  have ay:=kp au;unfold ew at *;clear h au;go_enter Tryz.func115,Tryz.ntmps115;go_wp2_with fail;go_ret;exact ⟨by rw [HV.o];rfl,ay.o⟩
theorem a7k {l:List jv} {k:Nat} (hk:k<l.length) (hn:∀i (hi:i<k),l[i].name≠l[k].name):l[k].name∉(l.take k).map jv.name:=by
 intro hm;obtain ⟨t,ht,e⟩:=mem_map.1 hm;obtain ⟨i,hi,rfl⟩:=getElem_of_mem ht;rw [length_take] at hi;rw [getElem_take] at e;exact hn i (by omega) e
theorem mQ.look {D:DataW Unit} {L:List ByteArray} {z:ByteArray} (br:IE D L) (hz:z.size<=maxLen) (eG:z∉L):∀q:Int,D.atKey (.string z.data.toList) (.lit (.int .i64 0)) = .lit (.int .i64 q)->q=0:=by
 intro q hh;rw [(br z hz).2 eG] at hh;injection hh with hh
 injection hh with _ hh
 exact hh.symm
theorem mQ.abv {D:DataW Unit} {L:List ByteArray} {z:ByteArray} (br:IE D L) (hz:z.size<=maxLen) (eG:z∈L):∀q:Int,D.atKey (.string z.data.toList) (.lit (.int .i64 0)) = .lit (.int .i64 q)->q=1:=by
 intro q hh;rw [(br z hz).1 eG] at hh;injection hh with hh
 injection hh with _ hh
 exact hh.symm
theorem a5Q {a b c x0 x1:Value} {gD gT:Nat} {W0 v w':World} (hb:Below v.heap.size v w')
 (h:v.cell? ⟨gD,0,none⟩=some x0/\v.cell? ⟨gD,1,none⟩=some x1/\v.cell? ⟨gT,0,none⟩=some a/\v.cell? ⟨gT,1,none⟩=some b/\v.cell? ⟨gT,2,none⟩=some c/\Below W0.heap.size W0 v) :
 w'.cell? ⟨gD,0,none⟩=some x0/\w'.cell? ⟨gD,1,none⟩=some x1/\w'.cell? ⟨gT,0,none⟩=some a/\w'.cell? ⟨gT,1,none⟩=some b/\w'.cell? ⟨gT,2,none⟩=some c/\Below W0.heap.size W0 w':=by
 obtain ⟨h0,h1,h2,h3,h4,h5⟩:=h;exact ⟨aL hb h0,aL hb h1,aL hb h2,aL hb h3,aL hb h4,h5.trans (hb.mono h5.size)⟩
theorem a8F (d:cR) (w:World) (h:mJ w w.heap.size d) (ho:nT d):Calls Tryz.prog 67 #[.agg (ew d)] w (fT (fun r=>r=0) w):=by
 have HR:=kp (fun r w' h hb=>fT.mono (P:=fun r=>r=0) (w:=w) (r:=r) (w':=w') h hb);have au:=(aq w.heap.size w).alloc (ah _) (.cells (ew d) 128);have ay:=kp au;have H0:=kp ((h.below au).more au.size);have HB:=kp (aa.new w 128 (ew d));have hn:=h.n;have HN:=kp (Qk d.name (w.alloc (.cells (ew d) 128)) ho.name);have HA:=kp aat;have HW:=kp a7g;have Ho:=kp ho;have rQ:=@run_makeMap Tryz.prog;have jx:¬ ((d.aw.length:Nat):Int)<1:=by have:=ho.n1;omega
 have ng:¬ (4:Int)<((d.aw.length:Nat):Int):=by have:=ho.n2;omega
 have h4:d.aw.length<=4:=ho.n2;unfold maxLen at hn;clear h au ho;generalize hQ:fT (fun r=>r=0) w=Q at *;clear hQ;unfold ew at HB HN ay H0 ⊢;go_enter Tryz.func67,Tryz.ntmps67;go_wp2_with fail;generalize w.alloc (.cells #[.string d.name,.slice d.A d.aw.length d.c] 128)=W0 at *;obtain ⟨b0,b1,_,_⟩:=HB.o.two;refine HN.o.mono ?_;rintro e w1 ⟨rfl,rfl⟩;obtain ⟨m0,m1,_,_⟩:=(HB.o.alloc (.map #[] 0)).two;go_wp2_with fail;clear jx ng b0 b1 m0 m1 HN
 go_loopw [28] (fun wq wr=>∃k:Nat,k<=d.aw.length/\wq = .int .i64 k/\mQ wr W0.heap.size ((d.aw.take k).map jv.name)/\Below W0.heap.size W0 wr) (fun wq _=>d.aw.length-(intOf wq).toNat)
 case atStart=>exact ⟨0,aZ _,rfl,mQ.new _,(aq _ _).alloc (ah _) _⟩
 case round =>
  obtain ⟨k,hk,rfl,qV,aC⟩:=hrel;have xY:=kp qV;have ai:=kp aC;obtain ⟨b0,b1,_,_⟩:=(HB.o.under aC).two;clear qV aC;by_cases ae:k<d.aw.length
  .have hd:=(H0.o.below ai.o).more ai.o.size;have aJ:=(aq wr.heap.size wr).alloc (ah _) (.cells (iz (d.aw[k]'ae)) 130);have xT:=kp (show ∀W,Below wr.heap.size wr W->Calls Tryz.prog 115 #[.agg #[.string d.name,.slice d.A d.aw.length d.c],.int .i64 k] W fun e w'=>e = .returned (.int .i64 (ij d k))/\Below W.heap.size W w' from fun W hW=>HA.o d k W ((hd.below hW).more hW.size) ae);have tW:=kp (show ∀W,Below wr.heap.size wr W->Calls Tryz.prog 114 #[.agg #[.string (d.aw[k]'ae).name,.slice (d.aw[k]'ae).At (d.aw[k]'ae).aQ.length (d.aw[k]'ae).ct,.slice (d.aw[k]'ae).Au (d.aw[k]'ae).up.length (d.aw[k]'ae).cu],.int .i64 (ij d k)] W (fT (fun r=>r=0) W) from fun W hW=>HW.o (d.aw[k]'ae) (ij d k) W (((hd.aw _ (gM ae)).below hW).more hW.size) (Ho.o.aw k ae));obtain ⟨b,off,hA,hb,c0,c1,c2⟩:=hd.dm k ae;have Hd:=kp hd;have dv:=kp (show (d.aw[k]'ae).name.size<=maxLen from (hd.aw _ (gM ae)).name);have Sh:=kp (a7k ae (fun i hi=>Ho.o.names i k ae hi));have dw:=kp (show (d.aw.take (k+1)).map jv.name=(d.aw.take k).map jv.name++[(d.aw[k]'ae).name] by rw [take_succ_eq_append_getElem ae,map_append];rfl);have jO:=kp (show ((d.aw.take k).map jv.name).length<=4 by rw [lM,length_take];omega);rw [hA] at b1 xT ⊢;have dz:(0:Int)<=(k:Int):=by omega
   have df:(k:Int)<(d.aw.length:Int):=by omega
   have tX:=kp hA;clear hd hA aJ;generalize hL1:(d.aw.take (k+1)).map jv.name=L1 at *;have Dk:=kp hL1;clear hL1;generalize (d.aw.take k).map jv.name=L at *;generalize ij d k=ab at *;generalize (d.aw[k]'ae).name=nm at *;generalize (d.aw[k]'ae).At=x1 at *;generalize (d.aw[k]'ae).aQ.length=x2 at *;generalize (d.aw[k]'ae).ct=x3 at *;generalize (d.aw[k]'ae).Au=x4 at *;generalize (d.aw[k]'ae).up.length=x5 at *;generalize (d.aw[k]'ae).cu=x6 at *;go_upto_region 5 with fail
   have Np:=kp (aa.new wr 130 #[.string nm,.slice x1 x2 x3,.slice x4 x5 x6]);have aF:=kp ((aq wr.heap.size wr).alloc (ah _) (.cells #[.string nm,.slice x1 x2 x3,.slice x4 x5 x6] 130));have Nq:=kp (fun W (hW:Below (wr.alloc (.cells #[.string nm,.slice x1 x2 x3,.slice x4 x5 x6] 130)).heap.size (wr.alloc (.cells #[.string nm,.slice x1 x2 x3,.slice x4 x5 x6] 130)) W)=>xT.o W (aF.o.trans (hW.mono aF.o.size)));have HW3:=kp (fun W (hW:Below (wr.alloc (.cells #[.string nm,.slice x1 x2 x3,.slice x4 x5 x6] 130)).heap.size (wr.alloc (.cells #[.string nm,.slice x1 x2 x3,.slice x4 x5 x6] 130)) W)=>tW.o W (aF.o.trans (hW.mono aF.o.size)));obtain ⟨t0,t1,t2,_,_,_⟩:=Np.o.three;obtain ⟨d0,d1,_,_⟩:=((HB.o.under ai.o).alloc (.cells #[.string nm,.slice x1 x2 x3,.slice x4 x5 x6] 130)).two;rw [tX.o] at d1;clear c0 c1 c2 b0 b1 xT tW;generalize dN:wr.alloc (.cells #[.string nm,.slice x1 x2 x3,.slice x4 x5 x6] 130)=W2 at *;clear dN;generalize hgT:wr.heap.size=gT at *;have nz:=kp (show some gT≠some W0.heap.size from fun hh=>by injection hh with hh;have:=xY.o.lt;omega);have HgT:=kp hgT;clear hgT
   go_region_held3 (fun w'=>w'.cell? ⟨w.heap.size,0,none⟩=some (.string d.name)/\w'.cell? ⟨w.heap.size,1,none⟩=some (.slice (some ⟨b,off,none⟩) d.aw.length d.c)/\w'.cell? ⟨gT,0,none⟩=some (.string nm)/\w'.cell? ⟨gT,1,none⟩=some (.slice x1 x2 x3)/\w'.cell? ⟨gT,2,none⟩=some (.slice x4 x5 x6)/\Below W2.heap.size W2 w')
    (first
      | exact ⟨d0,d1,t0,t1,t2,(aq _ _).drew⟩
      | (go_split_ands;with_reducible exact a5Q aJ ⟨by assumption,by assumption,by assumption,by assumption,by assumption,by assumption⟩))
    (first
      | (go_at_call 115;go_split_ands;refine (Nq.o _ (by assumption)).mono ?_;rintro e wx ⟨rfl,aJ⟩)
      | (go_at_call 114;go_split_ands;refine (HW3.o _ (by assumption)).mono ?_;rintro e wx ⟨r1,rfl,eC,aJ⟩))
   rename_i ad;obtain ⟨e0,e1,e2,e3,e4,aN⟩:=ad;have bC:=kp aN;have Si:=kp ((xY.o.below (by rw [HgT.o];exact aF.o)).below aN);subst eC;clear aN d0 d1 t0 t1 t2 e3 e4 Nq HW3;have ac5:=kp (show L.length<maxLen from Nat.lt_of_le_of_lt jO.o (by unfold maxLen;omega));obtain ⟨D,aE,hD,br⟩:=Si.o;have Se:=kp (mQ.look br dv.out Sh.o);have kO:=Xs hD br _ dv.out;have Sf:=kp (mQ.abv kO dv.out (by simp));have qU:=kp (show keyOf Tryz.prog 9 (.string nm)=some (.string nm.data.toList) from keyOf_string_mk Tryz.underlying9 dv.out);have bN:=kp (show ∀w',w'.ownsMap Tryz.prog 9 (plainElem Tryz.prog 3) W0.heap.size (L.length+1) (D.put (.string nm.data.toList) (.lit (.int .i64 1)))->mQ w' W0.heap.size L1 from fun w' h2=>⟨_,by rw [dw.o,aS];exact h2,hD.put _ _,by rw [dw.o];exact kO⟩);clear br kO hD
   go_wp2_with (first
    | (at_lookup;refine wpList_lookup_own_int _ rfl (.tmp 41) (.tmp 43) 82 rfl 9 3 .i64 xv Tryz.underlying82 Tryz.underlying3 (tN _) W0.heap.size L.length D rfl aE (.string nm) (.string nm.data.toList) rfl qU.o ?_;intro q nC sR;obtain rfl:=Se.o q nC;clear nC sR)
    | (at_mapUpdate;refine wpList_mapUpdate_own _ rfl (.tmp 41) (.tmp 43) (.tmp 45) 82 rfl 9 3 xv Tryz.underlying82 (plainElem Tryz.prog 3) W0.heap.size L.length D rfl aE ac5.o (.string nm) (.int .i64 1) (.string nm.data.toList) rfl rfl qU.o _ [] (plainElem_int Tryz.underlying3 (by decide)) ?_;intro w4 j8 ve;have zn:=kp ve;have FV:=(ve.cell e2 nz.o);clear ve e2)
    | (at_lookup;refine wpList_lookup_own_int _ rfl (.tmp 46) (.tmp 48) 82 rfl 9 3 .i64 xv Tryz.underlying82 Tryz.underlying3 (tN _) W0.heap.size (L.length+1) _ rfl j8 (.string nm) (.string nm.data.toList) rfl qU.o ?_;intro q2 kO Sg;obtain rfl:=Sf.o q2 kO;have fI:=kp j8;clear kO Sg j8))
   have ac6:=kp (bN.o _ fI.o);have ug:=kp (show W0.heap.size<=gT from by have:=ai.o.size;rw [HgT.o] at this;exact this);have bH:=kp (((ai.o.trans (aF.o.mono ug.o)).trans (bC.o.mono (aT ai.o.size aF.o.size))).grown zn.o (aT (aT ai.o.size aF.o.size) bC.o.size) (fun j e=>by cases e;exact ah _));refine ⟨⟨k+1,by omega,by go_num,?_,bH.o⟩,by simp [intOf];omega⟩;rw [Dk.o];exact ac6.o
  .go_wp2_with fail;exact HR.o _ _ rfl (ay.o.trans (ai.o.mono ay.o.size))
theorem a7D (A:OA) (l:List ByteArray) (c:Nat) (w:World) (hr:Row w w.heap.size A (l.map .string)) (hz:∀x∈l,x.size<=maxLen) (m1:1<=l.length) (m2:l.length<=3) (ma:∀k (h:k<l.length),pS l[k]) (av:∀i k (hk:k<l.length) (hi:i<k),l[i]≠l[k]) :
 Calls Tryz.prog 69 #[.slice A l.length c] w (fT (fun r=>r=0) w):=by
 have HR:=kp (fun r w' h hb=>fT.mono (P:=fun r=>r=0) (w:=w) (r:=r) (w':=w') h hb);have Hr:=kp hr;have Hz:=kp hz;have D9:=kp ma;have nz:=kp av;have HN:=kp Qk;have HF:=kp a0S;have rQ:=@run_makeMap Tryz.prog;clear hr hz ma av;generalize hQ:fT (fun r=>r=0) w=Q at *;clear hQ;obtain ⟨n,hN⟩:∃n,l.length=n:=⟨_,rfl⟩
 rw [hN] at m1 m2 ⊢;have Hn:=kp hN;clear hN;have jx:¬ ((n:Nat):Int)<1:=by omega
 have ng:¬ (3:Int)<((n:Nat):Int):=by omega
 go_enter Tryz.func69,Tryz.ntmps69;go_wp2_with fail;clear jx ng
 go_loopw [18] (fun Dl wr=>∃k:Nat,k<=n/\Dl = .int .i64 k/\mQ wr w.heap.size (l.take k)/\Below w.heap.size w wr) (fun Dl _=>n-(intOf Dl).toNat)
 case atStart=>exact ⟨0,aZ _,rfl,mQ.new _,(aq _ _).alloc (ah _) _⟩
 case round =>
  obtain ⟨k,hk,rfl,qV,aC⟩:=hrel;have xY:=kp qV;have ai:=kp aC;clear qV aC;by_cases ae:k<n
  .have aA:k<l.length:=by rw [Hn.o];exact ae
   obtain ⟨b,off,hA,hb,c0⟩:=Row.at_ (Hr.o.below ai.o) (k:=k) (by rw [lM];exact aA);rw [getElem_map] at c0;rw [hA];have JA:=kp (HN.o (l[k]'aA) wr (D9.o k aA))
   have sM:=kp (HF.o w.heap.size (l.take k) (l[k]'aA) wr (Hz.o _ (gM aA)) (by rw [length_take];omega) xY.o (fun hm=>by
    obtain ⟨i,hi,e⟩:=getElem_of_mem hm;rw [length_take] at hi;rw [getElem_take] at e
    exact nz.o i k aA (by omega) e))
   have dw:=kp (show l.take (k+1)=l.take k++[l[k]'aA] by rw [take_succ_eq_append_getElem aA]);clear hA;generalize (l[k]'aA)=x at *;go_wp2_with fail;refine JA.o.mono ?_;rintro e w1 ⟨rfl,rfl⟩;go_wp2_with fail;refine sM.o.mono ?_;rintro e w1 ⟨rfl,wz,dg⟩;have zo:=kp wz;have Hm1:=kp dg;clear wz dg;go_wp2_with fail;refine ⟨⟨k+1,by omega,by go_num,by rw [dw.o];exact Hm1.o,ai.o.grown zo.o ai.o.size (fun j e=>by cases e;exact ah _)⟩,by simp [intOf];omega⟩
  .go_wp2_with fail;exact HR.o _ _ rfl ai.o
theorem ab7 {l:List cR} {k:Nat} (hk:k<l.length) (hn:∀i (hi:i<k),l[i].name≠l[k].name):l[k].name∉(l.take k).map cR.name:=by
 intro hm;obtain ⟨t,ht,e⟩:=mem_map.1 hm;obtain ⟨i,hi,rfl⟩:=getElem_of_mem ht;rw [length_take] at hi;rw [getElem_take] at e;exact hn i (by omega) e
theorem Ql (s:aW) (w:World) (h:gW w w.heap.size s) (ho:dO s):Calls Tryz.prog 27 #[.agg (cj s)] w (fT (fun r=>r=0) w):=by
 have HR:=kp (fun r w' h hb=>fT.mono (P:=fun r=>r=0) (w:=w) (r:=r) (w':=w') h hb);have au:=(aq w.heap.size w).alloc (ah _) (.cells (cj s) 25);have ay:=kp au;have H0:=kp ((h.below au).more au.size);have HB:=kp (aa.new w 25 (cj s));have hn:=h.n;have ma:=h.nm;have HD:=kp a8F;have HF:=kp a0S;have HM:=kp (fun W hW hr=>a7D s.Am s.aU s.cm W hr hW ho.m1 ho.m2 ho.aU ho.a6k);have Ho:=kp ho;have rQ:=@run_makeMap Tryz.prog;have jx:¬ ((s.ak.length:Nat):Int)<1:=by have:=ho.n1;omega
 have ng:¬ (16:Int)<((s.ak.length:Nat):Int):=by have:=ho.n2;omega
 have JB:s.ak.length<=16:=ho.n2;unfold maxLen at hn ma;clear h au ho;generalize hQ:fT (fun r=>r=0) w=Q at *;clear hQ;unfold cj at HB ay H0 ⊢;go_enter Tryz.func27,Tryz.ntmps27;have hBM:=(HB.o.alloc (.map #[] 0)).two;have lD:=HB.o.two;obtain ⟨m0,m1,_,_⟩:=hBM;obtain ⟨b0,b1,_,_⟩:=lD;generalize dj:w.alloc (.cells #[.slice s.A s.ak.length s.c,.slice s.Am s.aU.length s.cm] 25)=W0 at *;go_wp2_with fail
 (try rw [dj])
 clear jx ng b0 b1 m0 m1 dj
 go_loopw [21] (fun vZ wr=>∃k:Nat,k<=s.ak.length/\vZ = .int .i64 k/\mQ wr W0.heap.size ((s.ak.take k).map cR.name)/\Below W0.heap.size W0 wr) (fun vZ _=>s.ak.length-(intOf vZ).toNat)
 case atStart=>exact ⟨0,aZ _,rfl,mQ.new _,(aq _ _).alloc (ah _) _⟩
 case round =>
  obtain ⟨k,hk,rfl,qV,aC⟩:=hrel;have xY:=kp qV;have ai:=kp aC;have jz:=bu HB aC;clear qV aC;by_cases ae:k<s.ak.length
  .have hs:=(H0.o.below ai.o).more ai.o.size;have hd:=hs.ak _ (gM ae);obtain ⟨b,off,hA,hb,c0,c1⟩:=hs.aj k ae;rw [hA];have aJ:=(aq wr.heap.size wr).alloc (ah _) (.cells (ew (s.ak[k]'ae)) 128);have Sj:=kp (HD.o (s.ak[k]'ae) _ ((hd.below aJ).more aJ.size) (Ho.o.ak k ae));have qe:=kp (show (s.ak[k]'ae).name.size<=maxLen from hd.name);have Sh:=kp (ab7 ae (fun i hi=>Ho.o.names i k ae hi));have dw:=kp (show (s.ak.take (k+1)).map cR.name=(s.ak.take k).map cR.name++[(s.ak[k]'ae).name] by rw [take_succ_eq_append_getElem ae,map_append];rfl);have jO:=kp (show ((s.ak.take k).map cR.name).length<=5000 by rw [lM,length_take];omega);have dz:(0:Int)<=(k:Int):=by omega
   have df:(k:Int)<(s.ak.length:Int):=by omega
   have bO:=kp aJ;have Np:=kp (aa.new wr 128 (ew (s.ak[k]'ae)));have ec:=aR ai aJ;have a1t:=kp (xY.o.below aJ);unfold ew at Sj bO Np ec a1t;clear hs hd hA aJ;generalize hL:(s.ak.take k).map cR.name=L at *;clear hL;generalize (s.ak[k]'ae).name=nm at *;generalize (s.ak[k]'ae).A=x1 at *;generalize (s.ak[k]'ae).aw.length=x2 at *;generalize (s.ak[k]'ae).c=x3 at *;obtain ⟨t0,t1,_,_⟩:=Np.o.two;go_upto_region 7 with fail
   generalize dN:wr.alloc (.cells #[.string nm,.slice x1 x2 x3] 128)=W2 at *;clear dN;go_wp2_with fail;refine Sj.o.mono ?_;rintro e w3 ⟨r,rfl,rfl,aN⟩;have bC:=aR ec aN;have Si:=kp (a1t.o.below aN);have sM:=kp (HF.o W0.heap.size L nm w3 qe.o jO.o Si.o Sh.o);have t0':=aL aN t0;clear t0 t1 c0 c1 aN Sj;go_wp2_with fail;refine sM.o.mono ?_;rintro e w4 ⟨rfl,wz,JC⟩;have zo:=kp wz;have Nr:=kp JC;clear wz JC t0';go_wp2_with fail;refine ⟨⟨k+1,by omega,by go_num,by rw [dw.o];exact Nr.o,bC.o.grown zo.o bC.o.size (fun j e=>by cases e;exact ah _)⟩,by simp [intOf];omega⟩
  .obtain ⟨b0,b1,_,_⟩:=jz.o.two;have Hs:=kp ((H0.o.below ai.o).more ai.o.size);have Ns:=kp (HM.o wr Hs.o.sz Hs.o.aU);go_wp2_with fail;refine Ns.o.mono ?_;rintro e w4 ⟨r,rfl,rfl,cq⟩;have bH:=aR ai cq;clear cq b0 b1;go_wp2_with fail;exact HR.o _ _ rfl (ay.o.trans (bH.o.mono ay.o.size))
end Go.Proofs.YtjopcamkclndlaaGreat.Tc
namespace Go.Proofs.YtjopcamkclndlaaGreat.Tc
open List Go.RowKit Base
def RL (s:aW) (r:Rw) (w:World) (e:Ending) (w':World):Prop:=∃ (v:Value) (keys:LN),e = .returned (.tuple #[v,.int .i64 0])/\ju s r keys/\w'.ownsRow w.heap.size 3 1 v keys.length (aP keys)/\Below w.heap.size w w'
theorem Xn (s:aW) (r:Rw) (w:World) (h:gW w w.heap.size s) (hr:vH w w.heap.size r) (ho:dO s) (JD:∃keys,ju s r keys):Calls Tryz.prog 60 #[.agg (cj s),.agg (kK r)] w (RL s r w):=by
 obtain ⟨ks,JE⟩:=JD;have gQ:=kp (show ∀v keys w',ju s r keys->w'.ownsRow w.heap.size 3 1 v keys.length (aP keys)->Below w.heap.size w w'->RL s r w (.returned (.tuple #[v,.int .i64 0])) w' from fun v keys w' h1 h2 hb=>⟨v,keys,rfl,h1,h2,hb⟩);have ax:=(aq w.heap.size w).alloc (ah _) (.cells (cj s) 25);have au:=ax.alloc ax.size (.cells (kK r) 60);have ay:=kp au;have aV:=kp ((aa.new w 25 (cj s)).alloc (.cells (kK r) 60));have bM:=kp (aa.lay (w:=w.alloc (.cells (cj s) 25)) (g:=w.heap.size+1) (t:=60) (cs:=kK r) (by simp));have H0:=kp ((h.below au).more au.size);have ib:=kp ((hr.below au).more au.size);have hn:=h.n;have ma:=h.nm;have wo:=hr.n;have S3:=hr.nv;have Ho:=kp ho;have S4:=kp a7Q;have JF:=kp JE;obtain ⟨i0,cG,cI,cH,cJ⟩:=info_parts vV;unfold maxLen at hn ma wo S3;have e1:((r.aQ.length:Int) != (s.ak.length:Int))=false:=by simp;have:=JE.nt;omega
 have e2:((r.dP.length:Int) != (s.aU.length:Int))=false:=by simp;have:=JE.nv;omega
 have ac1:r.aQ.length<=s.ak.length:=by have:=JE.nt;omega
 have aeH:s.ak.length<=16:=ho.n2;clear h hr ho au ax JE;generalize hQ:RL s r w=Q at *;clear hQ;unfold cj kK at *;go_enter Tryz.func60,Tryz.ntmps60;go_wp2_with fail;clear e1 e2;generalize (w.alloc (.cells #[.slice s.A s.ak.length s.c,.slice s.Am s.aU.length s.cm] 25)).alloc (.cells #[.slice r.A r.aQ.length r.c,.slice r.Av r.dP.length r.cv] 60)=W0 at *
 go_loopw [6,30] (fun v6 wA wr=>∃ (k:Nat) (keys:LN) (A:OA) (c:Nat),k<=r.aQ.length/\wA = .int .i64 k/\v6 = .slice A k c/\ER s r k keys/\wr.ownsRow W0.heap.size 3 1 (.slice A k c) k (aP keys)/\Below W0.heap.size W0 wr) (fun _ wA _=>r.aQ.length-(intOf wA).toNat)
 case atStart=>exact ⟨0,[],none,0,aZ _,rfl,rfl,⟨rfl,fun i _ _ _ h=>by omega⟩,gL _ _ _ _,aq _ _⟩
 case round =>
  obtain ⟨k,keys,A,c,hk,rfl,rfl,fH,aE,aC⟩:=hrel;have fU:=kp fH;have bF:=kp aE;have ai:=kp aC;obtain ⟨b0,b1,_,_⟩:=(aV.o.under aC).two;obtain ⟨q0,q1,_,_⟩:=(bM.o.under aC).two;clear fH aE aC;by_cases ae:k<r.aQ.length
  .have bE:k<s.ak.length:=by omega
   have hs:=(H0.o.below ai.o).more ai.o.size;have wu:=(ib.o.below ai.o).more ai.o.size;obtain ⟨b,off,hA,hb,c0,c1⟩:=hs.aj k bE;obtain ⟨bt,ot,FP,Nk,t0⟩:=Row.at_ wu.aQ (k:=k) (by rw [lM];exact ae);rw [getElem_map] at t0;rw [hA] at b0;rw [FP] at q0;have eH:=Ho.o.ak k bE;obtain ⟨fg,tr,xV,sO⟩:=eH.Py;have pX:=hs.ak _ (gM bE);have Bo:0<(s.ak[k]'bE).aw.length:=eH.n1;obtain ⟨bd,od,Jt,xW,d0,d1,d2⟩:=pX.dm 0 Bo;have sP:(s.ak[k]'bE).aw[0]'Bo=tr:=by rw [gE Bo] at xV;injection xV
   rw [sP] at d0 d1 d2;have ud:=pX.aw tr (mem_of_getElem? xV);rw [Jt] at c1;rw [Nat.zero_mul,Nat.add_zero] at d1;have aA:k<ks.length:=by rw [JF.o.n];exact bE
   have Sk:(fin (s.ak[k]'bE))[ks[k]'aA]? = some (r.aQ[k]'ae):=JF.o.at_ k _ _ _ (gE bE) (gE ae) (gE aA);have aX:tr.aQ.length<=1000000:=by
    have:=(eH.aw 0 Bo).n2;rw [sP] at this;omega
   have Dg:=kp (S4.o tr.At tr.aQ tr.ct (ks[k]'aA) (r.aQ[k]'ae) wr aX ud.aQ (by rw [<-sO];exact fg) (by rw [<-sO];exact Sk));have dw:=kp (fU.o.next (gE bE) (gE ae) Sk);have h2:=eH.n2;have e3:(((s.ak[k]'bE).aw.length:Int) == 0)=false:=by rw [beq_eq_false_iff_ne];omega
   have dz:(0:Int)<=(k:Int):=by omega
   have df:(k:Int)<(s.ak.length:Int):=by omega
   have jd:(k:Int)<(r.aQ.length:Int):=by omega
   have tY:(0:Int)<((s.ak[k]'bE).aw.length:Int):=by omega
   rw [FP];clear hs wu hA FP eH xV sO pX Jt sP ud d0 d2 c0 b1 q1 fg Sk aX;generalize (s.ak[k]'bE).aw.length=nd at *;generalize (s.ak[k]'bE).c=cd at *;generalize (r.aQ[k]'ae)=x at *;generalize (ks[k]'aA)=q at *;go_wp2_with fail;refine Dg.o.mono ?_;rintro e w1 ⟨rfl,ax⟩;have aF:=aR ai ax;have fI:=kp (eV bF.o ax);have o9:=kp aF.o.size;have cz:k<1048576*64:=by omega
   clear b0 q0 c1 d1 t0 Dg ax
   go_wp2_with (at_builtin;refine tE rfl (.tmp 59) (.tmp 61) 27 rfl W0.heap.size 3 i0 (.int .i64 0) 8 Tryz.underlying27 cG cI cH cJ rfl w1 (.int .i64 (q:Int)) rfl (.slice A k c) k (aP keys) rfl fI.o rfl cz (by decide) o9.o ?_;intro v5 w5 aY bV;obtain ⟨A5,c5,h5⟩:=iq aY;subst h5;have cP:=kp aY;have bZ:=kp (bV.below aF.o fI.o (ah _) o9.o);clear aY bV)
   exact ⟨⟨k+1,keys++[q],A5,c5,by omega,by go_num,rfl,dw.o,by rw [CG];exact cP.o,bZ.o⟩,by simp [intOf];omega⟩
  .obtain rfl:k=r.aQ.length:=by omega
   have rS:=kp (show ju s r keys from ⟨by rw [fU.o.1];exact JF.o.nt,JF.o.nt,JF.o.nv,fun i d t q h1 h2 h3=>fU.o.2 i d t q (by have:=(bS h2).1;omega) h1 h2 h3⟩);have S8:=kp fU.o.1;have S9:=kp ay.o.size;go_wp2_with fail;exact gQ.o _ keys _ rS.o (by rw [S8.o];exact nX bF.o S9.o) (ay.o.trans (ai.o.mono ay.o.size))
def Rr (a:Ag) (w:World) (e:Ending) (w':World):Prop:=e = .returned (.tuple #[.agg (bj a),.int .i64 0])/\Below w.heap.size w w'
theorem a8e (A:OA) (l:List Int) (c:Nat) (w:World) (hl:l.length<=3) (hr:Row w w.heap.size A (l.map (.int .i64))):Calls Tryz.prog 61 #[.slice A l.length c] w (Rr (iD l) w):=by
 have Hr:=kp hr;have HQ:=kp (show ∀w',Below w.heap.size w w'->Rr (iD l) w (.returned (.tuple #[.agg (bj (iD l)),.int .i64 0])) w' from fun w' h=>⟨rfl,h⟩);generalize hQ:Rr (iD l) w=Q at *;clear hQ hr;have ax:=(aq w.heap.size w).alloc (ah _) (.cells (bj aO) 54);have au:=ax.alloc ax.size (.cells (bj (lQ l 0)) 54);have ay:=kp au;have aV:=kp ((aa.new w 54 (bj aO)).alloc (.cells (bj (lQ l 0)) 54));have bM:=kp (aa.lay (w:=w.alloc (.cells (bj aO) 54)) (g:=w.heap.size+1) (t:=54) (cs:=bj (lQ l 0)) (by simp));clear au ax;generalize hN:l.length=n at *;have Hn:=kp hN;clear hN;have FQ:¬ (3:Int)<(n:Int):=by omega
 go_enter Tryz.func61,Tryz.ntmps61;go_wp2_with fail;clear FQ
 go_loopw [14] (fun rW wr=>∃k:Nat,k<=n/\rW = .int .i64 k/\aa wr w.heap.size 54 (bj aO)/\aa wr (w.heap.size+1) 54 (bj (lQ l k))/\Below w.heap.size w wr) (fun rW _=>n-(intOf rW).toNat)
 case atStart=>exact ⟨0,aZ _,rfl,aV.o,bM.o,ay.o⟩
 case round =>
  obtain ⟨k,hk,rfl,Ju,fu,aC⟩:=hrel;have jA:=kp Ju;have ai:=kp aC;clear Ju aC;by_cases ae:k<n
  .have aA:k<l.length:=by rw [Hn.o];exact ae
   obtain ⟨b,off,rfl,hb,c0⟩:=Row.at_ ((Hr.o.below ai.o).more ai.o.size) (k:=k) (by rw [lM];exact aA);rw [getElem_map] at c0;have dz:(0:Int)<=(k:Int):=by omega
   match k,hk,ae,aA,fu,c0,dz with
   | 0,hk,ae,aA,fu,c0,dz => ?_
   | 1,hk,ae,aA,fu,c0,dz => ?_
   | 2,hk,ae,aA,fu,c0,dz => ?_
   | k+3,hk,ae,aA,fu,c0,dz=>omega
   .rw [a0j] at fu;rw [Nat.add_zero] at c0;have iu:=kp fu;obtain ⟨⟨a0,a1,a2,a3,a4,a5,a6,a7,a8,a9⟩,fD⟩:=aa.eS fu;have qg:=kp (show pv l 0=(l[0]'aA) by unfold pv;rw [gE aA];rfl);have df:(0:Int)<(n:Int):=by omega
    have jd:((0:Nat):Int)<(n:Int):=by omega
    clear fu;generalize (l[0]'aA)=y at *;go_wp2_with fail;refine ⟨⟨1,by omega,by go_num,?_,?_,?_⟩,by simp [intOf];omega⟩
    .exact ((jA.o.bX (p:=⟨w.heap.size+1,1,none⟩) (by simp) _).bX (p:=⟨w.heap.size+1,2,none⟩) (by simp) _).bX (p:=⟨w.heap.size+1,3,none⟩) (by simp) _
    .rw [LU,qg.o];exact ((iu.o.set 1 (.int .i64 y)).set 2 (.int .i64 y)).set 3 (.int .i64 y)
    .exact ((ai.o.setCell (p:=⟨w.heap.size+1,1,none⟩) (by simp) _).setCell (p:=⟨w.heap.size+1,2,none⟩) (by simp) _).setCell (p:=⟨w.heap.size+1,3,none⟩) (by simp) _
   .rw [LU] at fu;have iu:=kp fu;obtain ⟨⟨a0,a1,a2,a3,a4,a5,a6,a7,a8,a9⟩,fD⟩:=aa.eS fu;have qg:=kp (show pv l 1=(l[1]'aA) by unfold pv;rw [gE aA];rfl);have df:(1:Int)<(n:Int):=by omega
    have jd:((1:Nat):Int)<(n:Int):=by omega
    clear fu;generalize (l[1]'aA)=y at *;go_wp2_with fail;refine ⟨⟨2,by omega,by go_num,?_,?_,?_⟩,by simp [intOf];omega⟩
    .exact ((jA.o.bX (p:=⟨w.heap.size+1,4,none⟩) (by simp) _).bX (p:=⟨w.heap.size+1,5,none⟩) (by simp) _).bX (p:=⟨w.heap.size+1,6,none⟩) (by simp) _
    .rw [N0,qg.o];exact ((iu.o.set 4 (.int .i64 y)).set 5 (.int .i64 y)).set 6 (.int .i64 y)
    .exact ((ai.o.setCell (p:=⟨w.heap.size+1,4,none⟩) (by simp) _).setCell (p:=⟨w.heap.size+1,5,none⟩) (by simp) _).setCell (p:=⟨w.heap.size+1,6,none⟩) (by simp) _
   .rw [N0] at fu;have iu:=kp fu;obtain ⟨⟨a0,a1,a2,a3,a4,a5,a6,a7,a8,a9⟩,fD⟩:=aa.eS fu;have qg:=kp (show pv l 2=(l[2]'aA) by unfold pv;rw [gE aA];rfl);have df:(2:Int)<(n:Int):=by omega
    have jd:((2:Nat):Int)<(n:Int):=by omega
    clear fu;generalize (l[2]'aA)=y at *;go_wp2_with fail;refine ⟨⟨3,by omega,by go_num,?_,?_,?_⟩,by simp [intOf];omega⟩
    .exact ((jA.o.bX (p:=⟨w.heap.size+1,7,none⟩) (by simp) _).bX (p:=⟨w.heap.size+1,8,none⟩) (by simp) _).bX (p:=⟨w.heap.size+1,9,none⟩) (by simp) _
    .rw [YY,qg.o];exact ((iu.o.set 7 (.int .i64 y)).set 8 (.int .i64 y)).set 9 (.int .i64 y)
    .exact ((ai.o.setCell (p:=⟨w.heap.size+1,7,none⟩) (by simp) _).setCell (p:=⟨w.heap.size+1,8,none⟩) (by simp) _).setCell (p:=⟨w.heap.size+1,9,none⟩) (by simp) _
  .obtain rfl:k=n:=by omega
   rw [YG l k (by rw [Hn.o];exact hl) (by rw [Hn.o];exact ah _)] at fu;have iu:=kp fu;clear fu;generalize iD l=a at *;obtain ⟨⟨a0,a1,a2,a3,a4,a5,a6,a7,a8,a9⟩,_⟩:=aa.eS iu.o;obtain ⟨bD,fD⟩:=aa.eS jA.o;go_wp2_with fail;have dW:=kp (Below.vF (.int .i64 a.c) (.int .i64 a.s0) (.int .i64 a.n0) (.int .i64 a.x0) (.int .i64 a.s1) (.int .i64 a.n1) (.int .i64 a.x1) (.int .i64 a.s2) (.int .i64 a.n2) (.int .i64 a.x2) ai.o (ah w.heap.size));have kM:=aa.vF (.int .i64 a.c) (.int .i64 a.s0) (.int .i64 a.n0) (.int .i64 a.x0) (.int .i64 a.s1) (.int .i64 a.n1) (.int .i64 a.x1) (.int .i64 a.s2) (.int .i64 a.n2) (.int .i64 a.x2) jA.o;clear a0 a1 a2 a3 a4 a5 a6 a7 a8 a9 bD fD
   revert dW kM
   generalize ((((((((((wr.setCell ⟨w.heap.size,0,none⟩ (.int .i64 a.c)).setCell ⟨w.heap.size,1,none⟩ (.int .i64 a.s0)).setCell ⟨w.heap.size,2,none⟩ (.int .i64 a.n0)).setCell ⟨w.heap.size,3,none⟩ (.int .i64 a.x0)).setCell ⟨w.heap.size,4,none⟩ (.int .i64 a.s1)).setCell ⟨w.heap.size,5,none⟩ (.int .i64 a.n1)).setCell ⟨w.heap.size,6,none⟩ (.int .i64 a.x1)).setCell ⟨w.heap.size,7,none⟩ (.int .i64 a.s2)).setCell ⟨w.heap.size,8,none⟩ (.int .i64 a.n2)).setCell ⟨w.heap.size,9,none⟩ (.int .i64 a.x2))=Wf;intro dW kM;obtain ⟨⟨a0,a1,a2,a3,a4,a5,a6,a7,a8,a9⟩,_⟩:=aa.eS kM;refine bodyPost_ret (v := .tuple #[.agg (bj a),.int .i64 0]) (by simp [results,Tryz.results61,go_sem,a0,a1,a2,a3,a4,a5,a6,a7,a8,a9]) rfl (HQ.o _ dW.o)
theorem a8y (s:aW) (A:OA) (l:List Rw) (c:Nat) (w:World) (h:gW w w.heap.size s) (hr:j6 w w.heap.size A l) (ho:qI s l):Calls Tryz.prog 59 #[.agg (cj s),.slice A l.length c] w (fT (fun r=>r=0) w):=by
 have HR:=kp (fun r w' h hb=>fT.mono (P:=fun r=>r=0) (w:=w) (r:=r) (w':=w') h hb);have au:=(aq w.heap.size w).alloc (ah _) (.cells (cj s) 25);have ay:=kp au;have HB:=kp (aa.new w 25 (cj s));have H0:=kp ((h.below au).more au.size);have ib:=kp ((hr.below au).more au.size);have hn:=hr.n;have HW:=kp (Ql s (w.alloc (.cells (cj s) 25)) ((h.below au).more au.size) ho.eF);have rR:=kp Xn;have Ho:=kp ho;have a1r:=ho.n;unfold maxLen at hn;clear h hr au ho;generalize hQ:fT (fun r=>r=0) w=Q at *;clear hQ;unfold cj at HB ay H0 ib HW ⊢;have ni:=kp (show ∀W,Below (w.alloc (.cells #[.slice s.A s.ak.length s.c,.slice s.Am s.aU.length s.cm] 25)).heap.size (w.alloc (.cells #[.slice s.A s.ak.length s.c,.slice s.Am s.aU.length s.cm] 25)) W->Below w.heap.size w W from fun W hW=>ay.o.trans (hW.mono ay.o.size));obtain ⟨z0,z1,_,_⟩:=HB.o.two;go_enter Tryz.func59,Tryz.ntmps59;go_wp2_with fail;refine HW.o.mono ?_;clear z0 z1;generalize w.alloc (.cells #[.slice s.A s.ak.length s.c,.slice s.Am s.aU.length s.cm] 25)=W0 at *;rintro e w1 ⟨n,rfl,rfl,ax⟩;have aM:=kp ax;clear ax HW;have FQ:¬ (300:Int)<(l.length:Int):=by omega
 go_wp2_with fail;clear FQ
 go_loopw [20] (fun v20 wr=>∃k:Nat,k<=l.length/\v20 = .int .i64 k/\Below W0.heap.size W0 wr) (fun v20 _=>l.length-(intOf v20).toNat)
 case atStart=>exact ⟨0,aZ _,rfl,aM.o⟩
 case round =>
  obtain ⟨k,hk,rfl,aC⟩:=hrel;have ai:=kp aC;clear aC;by_cases ae:k<l.length
  .have oW:=(ib.o.below ai.o).more ai.o.size;have wv:=(H0.o.below ai.o).more ai.o.size;obtain ⟨b,off,rfl,hb,c0,c1⟩:=oW.J6 k ae;have nB:=oW.each _ (gM ae);have eQ:=(aq wr.heap.size wr).alloc (ah _) (.cells (kK (l[k]'ae)) 60);have mc:=kp (rR.o s (l[k]'ae) _ ((wv.below eQ).more eQ.size) ((nB.below eQ).more eQ.size) Ho.o.eF (Ho.o.rows _ (gM ae)));have rT:=aR ai eQ;have me:=kp ((HB.o.under ai.o).under eQ);have jz:=kp (aa.new wr 60 (kK (l[k]'ae)));unfold kK at mc rT me jz;unfold cj at mc;have dz:(0:Int)<=(k:Int):=by omega
   have df:(k:Int)<(l.length:Int):=by omega
   clear oW wv nB eQ;generalize ua:(l[k]'ae)=r at *;clear ua;go_upto_region 9 with fail
   clear c0 c1;generalize wr.alloc (.cells #[.slice r.A r.aQ.length r.c,.slice r.Av r.dP.length r.cv] 60)=W2 at *;obtain ⟨b0,b1,_,_⟩:=me.o.two;obtain ⟨q0,q1,_,_⟩:=jz.o.two;go_wp2_with fail;refine mc.o.mono ?_;rintro e w2 ⟨v,keys,rfl,_,_,aH⟩;have aF:=aR rT aH;clear aH b0 b1 q0 q1 mc;go_wp2_with fail;exact ⟨⟨k+1,by omega,by go_num,aF.o⟩,by simp [intOf];omega⟩
  .go_wp2_with fail;exact HR.o _ _ rfl (ni.o _ ai.o)
theorem CC {w:World} {B sz n c:Nat} {A:OA} {e:TypeId} {xs:LV} (h:w.ownsRow B e sz (.slice A n c) n xs):n<=c/\c<=9223372036854775807:=by
 rcases h.2 with ⟨h0,h1⟩ | ⟨g,cap,cur,hv,hB,hh,j7,fj,_⟩
 .injection h0 with _ _ h2
  omega
 .injection hv with _ _ hc
  unfold maxLen at fj;omega
def Q5 (s:aW) (rows:List Rw) (w:World) (e:Ending) (w':World):Prop:=∃ (A:OA) (c:Nat) (l:List Fa),e = .returned (.tuple #[.slice A l.length c,.int .i64 0])/\dG w' w'.heap.size A l/\uI s rows rows.length l/\(l.length<=c/\c<=9223372036854775807)/\Below w.heap.size w w'
theorem a84 (s:aW) (A:OA) (rows:List Rw) (c:Nat) (w:World) (h:gW w w.heap.size s) (hr:j6 w w.heap.size A rows) (ho:qI s rows):Calls Tryz.prog 24 #[.agg (cj s),.slice A rows.length c] w (Q5 s rows w):=by
 have gQ:=kp (show ∀A' c' l w',dG w' w'.heap.size A' l->uI s rows rows.length l->(l.length<=c'/\c'<=9223372036854775807)->Below w.heap.size w w'->Q5 s rows w (.returned (.tuple #[.slice A' l.length c',.int .i64 0])) w' from fun A' c' l w' h1 h2 h3 hb=>⟨A',c',l,rfl,h1,h2,h3,hb⟩);have au:=(aq w.heap.size w).alloc (ah _) (.cells (cj s) 25);have ay:=kp au;have HB:=kp (aa.new w 25 (cj s));have H0:=kp ((h.below au).more au.size);have ib:=kp ((hr.below au).more au.size);have hn:=ho.n;have Ho:=kp ho;have rR:=kp Xn;have Sa:=kp a8e;have Sl:=kp (a8y s A rows c (w.alloc (.cells (cj s) 25)) ((h.below au).more au.size) ((hr.below au).more au.size) ho);obtain ⟨i0,cG,cI,cH,cJ⟩:=info_parts EO;clear h hr ho au;generalize hQ:Q5 s rows w=Q at *;clear hQ;unfold cj at HB ay H0 ib Sl ⊢;obtain ⟨z0,z1,_,_⟩:=HB.o.two;go_enter Tryz.func24,Tryz.ntmps24;go_wp2_with fail;refine Sl.o.mono ?_;clear z0 z1;generalize w.alloc (.cells #[.slice s.A s.ak.length s.c,.slice s.Am s.aU.length s.cm] 25)=W0 at *;rintro e w1 ⟨n,rfl,rfl,ax⟩;have aM:=kp ax;clear ax Sl;go_wp2_with fail
 go_loopw [7,22] (fun v7 v22 wr=>∃ (k:Nat) (l:List Fa) (A':OA) (c':Nat),k<=rows.length/\v22 = .int .i64 k/\v7 = .slice A' k c'/\uI s rows k l/\wr.ownsRow W0.heap.size 56 11 (.slice A' k c') k (l.flatMap fG)/\(∀f∈l,dx wr (.slice A' k c') f)/\Below W0.heap.size W0 wr) (fun _ v22 _=>rows.length-(intOf v22).toNat)
 case atStart=>exact ⟨0,[],none,0,aZ _,rfl,rfl,⟨rfl,fun i _ _ _ h=>by simp at h⟩,gL _ _ _ _,(fun f hf=>by cases hf),aM.o⟩
 case round =>
  obtain ⟨k,l,A',c',hk,rfl,rfl,fH,aE,fv,aC⟩:=hrel;have fU:=kp fH;have bF:=kp aE;have kN:=kp fv;have ai:=kp aC;clear fH aE fv aC;by_cases ae:k<rows.length
  .have oW:=(ib.o.below ai.o).more ai.o.size;have wv:=(H0.o.below ai.o).more ai.o.size;obtain ⟨b,off,rfl,hb,c0,c1⟩:=oW.J6 k ae;have nB:=oW.each _ (gM ae);have eQ:=(aq wr.heap.size wr).alloc (ah _) (.cells (kK (rows[k]'ae)) 60);have mc:=kp (rR.o s (rows[k]'ae) _ ((wv.below eQ).more eQ.size) ((nB.below eQ).more eQ.size) Ho.o.eF (Ho.o.rows _ (gM ae)));have FT:=kp ((nB.below eQ).more eQ.size);have rT:=kp eQ;have me:=kp ((HB.o.under ai.o).under eQ);have jz:=kp (aa.new wr 60 (kK (rows[k]'ae)));have Sb:=kp (gE ae);unfold kK at mc rT me jz FT;unfold cj at mc;have dz:(0:Int)<=(k:Int):=by omega
   have df:(k:Int)<(rows.length:Int):=by omega
   clear oW wv nB eQ;generalize (rows[k]'ae)=r at *;go_upto_region 8 with fail
   clear c0 c1;generalize wr.alloc (.cells #[.slice r.A r.aQ.length r.c,.slice r.Av r.dP.length r.cv] 60)=W2 at *;obtain ⟨b0,b1,_,_⟩:=me.o.two;obtain ⟨q0,q1,_,_⟩:=jz.o.two;go_wp2_with fail;refine mc.o.mono ?_;rintro e w2 ⟨v,keys,rfl,om,rU,aH⟩;obtain ⟨Ak,ck,rfl⟩:=eM rU;have rS:=kp om;have zm:=kp rU;have aF:=kp aH;have vd:=bu jz aH;have Jy:r.dP.length<=3:=by rw [om.nv];exact Ho.o.eF.m2
   have Jz:=kp (Sa.o r.Av r.dP r.cv w2 Jy ((FT.o.dP.below aH).more aH.size));clear aH b0 b1 q0 q1 mc om rU Jy;obtain ⟨q0,q1,_,_⟩:=vd.o.two;go_wp2_with fail;refine Jz.o.mono ?_;rintro e w3 ⟨rfl,aN⟩;have bC:=kp (rT.o.trans ((aF.o.trans (aN.mono aF.o.size)).mono rT.o.size));have Sc:=kp (eV zm.o aN);clear aN q0 q1 Jz;have Hag:=kp (show iD r.dP=iD r.dP from rfl);have dw:=kp (fU.o.next (f:=⟨Ak,keys,ck,iD r.dP⟩) Sb.o rS.o rfl);have cS:=(aq w3.heap.size w3).alloc (ah _) (.cells (bj (iD r.dP)) 54);have iH:=kp (aa.new w3 54 (bj (iD r.dP)));have bH:=aR bC cS;have lE:=kp (eV bF.o bH.o);have ac7:=kp (fun f hf=>(kN.o f hf).below bH.o);have kr:=kp (ai.o.trans (bH.o.mono ai.o.size));have wy:=kp (show dx (w3.alloc (.cells (bj (iD r.dP)) 54)) (.slice A' k c') ⟨Ak,keys,ck,iD r.dP⟩ from dx.new (B:=W2.heap.size) (eV Sc.o cS) (fun j hj=>dL (bF.o.lt j hj).2 rT.o.size));have cz:k+1<1048576*64:=by omega
   have wC:=kp kr.o.size;clear cS Hag;generalize iD r.dP=ag at *;go_upto_region 10 with fail
   generalize w3.alloc (.cells (bj ag) 54)=W4 at *;generalize w3.heap.size=g3 at *;have aD:=(aa.eS iH.o).1
   go_wp2_with (at_builtin;refine vG rfl (.tmp 38) (.tmp 42) 30 rfl W0.heap.size 56 i0 _ 11 104 Tryz.underlying30 cG cI cH cJ rfl (by decide) W4 (eB ⟨Ak,keys,ck,ag⟩) rfl (CA _) (.slice A' k c') k (l.flatMap fG) rfl lE.o rfl cz (by decide) wC.o ?_;intro v5 w5 aY bV;obtain ⟨A5,c5,h5⟩:=eM aY;subst h5;have cP:=kp aY;have bZ:=kp (bV.mO kr.o lE.o (ah _) wC.o);have iU:=kp (show ∀f∈l++[⟨Ak,keys,ck,ag⟩],dx w5 (.slice A5 (k+1) c5) f from fun f hf=>by (rcases mem_append.1 hf with hf | hf;exact (ac7.o f hf).app bV;rw [mem_singleton.1 hf];exact wy.o.app bV));clear aY bV)
   refine ⟨⟨k+1,l++[⟨Ak,keys,ck,ag⟩],A5,c5,by omega,by go_num,rfl,dw.o,?_,iU.o,bZ.o⟩,by simp [intOf];omega⟩;rw [flatMap_append];exact cP.o
  .obtain rfl:k=rows.length:=by omega
   have jO:=kp fU.o.1;have bN:=kp (show dG wr wr.heap.size A' l from ⟨gV bF.o,fun f hf=>(kN.o f hf).1⟩);go_wp2_with fail;have:=gQ.o A' c' l _ bN.o fU.o (by rw [jO.o];exact CC bF.o) (ay.o.trans (ai.o.mono ay.o.size));rw [jO.o] at this;exact this
def xM (t:TypeId) (size n:Nat) (vs:LV) (w:World) (e:Ending) (w':World):Prop:=∃v',e = .returned v'/\w'.ownsRow w.heap.size t size v' n vs/\Below w.heap.size w w'
theorem a9Z (a:Addr) (n c:Nat) (vs:LV) (w:World) (hn:n<=1000000) (hv:vs.length=n*1) (hc:∀j u,vs[j]? = some u->w.cell? (a.add j)=some u) (h1:∀u∈vs,u.oneCell'=true) :
 Calls Tryz.prog 73 #[.slice (some a) n c] w (xM 3 1 n vs w):=by
 have q:∀ (w:World) (a:OA) (n c n' c':Nat),(binOp .eql 27 (.slice a n c) (.slice none n' c')).run Tryz.prog w = .ok (.bool a.isNone) w:=fun w a n c n' c'=>Lib.run_eql_slice_nil w _ _ a n c n' c' Tryz.underlying27
 obtain ⟨i0,cG,cI,cH,cJ⟩:=info_parts vV;have Hc:=kp hc;have Hv:=kp hv;have H1:=kp h1;have Hn:=kp hn;have HQ:=kp (show ∀v' w',w'.ownsRow w.heap.size 3 1 v' n vs->Below w.heap.size w w'->xM 3 1 n vs w (.returned v') w' from fun v' w' a b=>⟨v',rfl,a,b⟩);clear hc hv h1 hn;generalize hQ:xM 3 1 n vs w=Q at *;clear hQ;go_enter Tryz.func73,Tryz.ntmps73
 go_wp2_with (at_builtin;refine wpList_append_own _ rfl _ _ 27 rfl w.heap.size 3 i0 (.int .i64 0) 1 8 Tryz.underlying27 cG cI cH cJ rfl (by decide) _ _ _ rfl (World.ownsRow_made w #[] 0 (ah _) (aZ _) rfl) a n c vs rfl ?qc1 ?qc2 ?qc3 ?qc4 ?qc5 ?qc6 ?_)
 case qc1=>exact Hv.o
 case qc2 =>
  intro j u hj;exact Lib.cell?_alloc_some _ (Hc.o j u hj)
 case qc3=>exact H1.o
 case qc4=>have:=Hn.o;rw [Nat.zero_add];unfold maxLen;omega
 case qc5=>have:=Hn.o;rw [Nat.zero_add];omega
 case qc6=>simp
 intro v' w1 aE vf FR;have bF:=kp aE;have zo:=kp vf;clear aE vf FR;go_wp2_with fail;exact HQ.o _ _ (by simpa using bF.o) (((aq _ w).alloc (ah _) _).grown zo.o (by simp) (by intro k hk;simp [Value.ownBlock] at hk;omega))
theorem abc (n c:Nat) (w:World):Calls Tryz.prog 73 #[.slice none n c] w (xM 3 1 0 [] w):=by
 have q:∀ (w:World) (a:OA) (n c n' c':Nat),(binOp .eql 27 (.slice a n c) (.slice none n' c')).run Tryz.prog w = .ok (.bool a.isNone) w:=fun w a n c n' c'=>Lib.run_eql_slice_nil w _ _ a n c n' c' Tryz.underlying27
 go_enter Tryz.func73,Tryz.ntmps73;go_wp2_with fail;go_ret;exact ⟨_,rfl,gL _ _ _ _,aq _ _⟩
theorem ZW {w:World} {B:Nat} {a:Addr} {vs:LV} (hr:Row w B (some a) vs):∀j u,vs[j]? = some u->w.cell? (a.add j)=some u:=by
 intro j u hj;rcases hr with rfl | ⟨b,off,e,_,hc⟩
 .simp at hj
 .injection e with e
  subst e;rw [xO];exact hc j u hj
theorem Md (A:OA) (c:Nat) (l:LN) (w:World) (hn:l.length<=1000000) (hr:Row w w.heap.size A (aP l)) :
 Calls Tryz.prog 73 #[.slice A l.length c] w (xM 3 1 l.length (aP l) w):=by
 rcases A with _ | a
 .have h0:aP l=[]:=by
   rcases hr with h | ⟨b,off,h,_⟩
   .exact h
   .cases h
  have h1:l.length=0:=by rw [<-ke,h0];rfl
  rw [h0,h1];exact abc _ _ _
 .exact a9Z a l.length c (aP l) w hn (by rw [ke,Nat.mul_one]) (ZW hr) (fun u hu=>by unfold aP at hu;obtain ⟨k,_,rfl⟩:=mem_map.1 hu;rfl)
def pl (f:Fa):LN×Ag:=(f.keys,f.ag)
def cT (w:World) (B:Nat) (v:Value) (l:List Fa):Prop:=w.ownsRow B 56 11 v l.length (l.flatMap fG)/\∀f∈l,dx w v f
def jK (B:Nat) (l:List Fa):Prop:=∀f∈l,∀b off,f.A=some ⟨b,off,none⟩->aP f.keys≠[]->B<=b
def PJ (ps:List (LN×Ag)) (w:World) (e:Ending) (w':World):Prop:=∃ (v:Value) (l:List Fa),e = .returned v/\l.map pl=ps/\cT w' w.heap.size v l/\jK w.heap.size l/\Below w.heap.size w w'
theorem cT.form {w:World} {B:Nat} {v:Value} {l:List Fa} (h:cT w B v l):∃A c,v = .slice A l.length c:=eM h.1
theorem cT.uM {w:World} {B:Nat} {A:OA} {n c:Nat} {l:List Fa} (h:cT w B (.slice A n c) l):dG w w.heap.size A l:=by
 obtain ⟨A',c',e⟩:=eM h.1;injection e with e1 e2 e3
 subst e1 e2 e3;exact ⟨gV h.1,fun f hf=>(h.2 f hf).1⟩
theorem cT.below {w w':World} {B:Nat} {v:Value} {l:List Fa} (h:cT w B v l) (hb:Below w.heap.size w w'):cT w' B v l:=⟨eV h.1 hb,fun f hf=>(h.2 f hf).below hb⟩
theorem dG.cells {w:World} {B:Nat} {A:OA} {l:List Fa} (h:dG w B A l) (k:Nat) (hk:k<l.length) :
 ∃b off,A=some ⟨b,off,none⟩/\b<B/\w.cell? ⟨b,off+k*11,none⟩=some (.slice l[k].A l[k].keys.length l[k].c)/\w.cell? ⟨b,off+k*11+1,none⟩=some (.int .i64 l[k].ag.c)/\w.cell? ⟨b,off+k*11+2,none⟩=some (.int .i64 l[k].ag.s0)/\w.cell? ⟨b,off+k*11+3,none⟩=some (.int .i64 l[k].ag.n0)/\w.cell? ⟨b,off+k*11+4,none⟩=some (.int .i64 l[k].ag.x0)/\w.cell? ⟨b,off+k*11+5,none⟩=some (.int .i64 l[k].ag.s1)/\w.cell? ⟨b,off+k*11+6,none⟩=some (.int .i64 l[k].ag.n1)/\w.cell? ⟨b,off+k*11+7,none⟩=some (.int .i64 l[k].ag.x1)/\w.cell? ⟨b,off+k*11+8,none⟩=some (.int .i64 l[k].ag.s2)/\w.cell? ⟨b,off+k*11+9,none⟩=some (.int .i64 l[k].ag.n2)/\w.cell? ⟨b,off+k*11+10,none⟩=some (.int .i64 l[k].ag.x2):=by
 obtain ⟨b,off,e,hb,hc⟩:=Row.rec xr h.row (by omega) k hk;exact ⟨b,off,e,hb,hc 0 _ rfl,hc 1 _ rfl,hc 2 _ rfl,hc 3 _ rfl,hc 4 _ rfl,hc 5 _ rfl,hc 6 _ rfl,hc 7 _ rfl,hc 8 _ rfl,hc 9 _ rfl,hc 10 _ rfl⟩
theorem aa.sH {w:World} {g:Nat} {t:TypeId} {a0 a1 a2 a3 a4 a5 a6 a7 a8 a9 dS:Value} (h:aa w g t #[a0,a1,a2,a3,a4,a5,a6,a7,a8,a9,dS]) :
 w.cell? ⟨g,0,none⟩=some a0/\w.cell? ⟨g,1,none⟩=some a1/\w.cell? ⟨g,2,none⟩=some a2/\w.cell? ⟨g,3,none⟩=some a3/\w.cell? ⟨g,4,none⟩=some a4/\w.cell? ⟨g,5,none⟩=some a5/\w.cell? ⟨g,6,none⟩=some a6/\w.cell? ⟨g,7,none⟩=some a7/\w.cell? ⟨g,8,none⟩=some a8/\w.cell? ⟨g,9,none⟩=some a9/\w.cell? ⟨g,10,none⟩=some dS :=
 ⟨h.cell 0,h.cell 1,h.cell 2,h.cell 3,h.cell 4,h.cell 5,h.cell 6,h.cell 7,h.cell 8,h.cell 9,h.cell 10⟩
theorem QP {w w':World} {g:Nat} {v0 v1 v2 v3 v4 v5 v6 v7 v8 v9 nD:Value} (hb:w'.heap[g]? = w.heap[g]?)
 (h:w.cell? ⟨g,0,none⟩=some v0/\w.cell? ⟨g,1,none⟩=some v1/\w.cell? ⟨g,2,none⟩=some v2/\w.cell? ⟨g,3,none⟩=some v3/\w.cell? ⟨g,4,none⟩=some v4/\w.cell? ⟨g,5,none⟩=some v5/\w.cell? ⟨g,6,none⟩=some v6/\w.cell? ⟨g,7,none⟩=some v7/\w.cell? ⟨g,8,none⟩=some v8/\w.cell? ⟨g,9,none⟩=some v9/\w.cell? ⟨g,10,none⟩=some nD):w'.cell? ⟨g,0,none⟩=some v0/\w'.cell? ⟨g,1,none⟩=some v1/\w'.cell? ⟨g,2,none⟩=some v2/\w'.cell? ⟨g,3,none⟩=some v3/\w'.cell? ⟨g,4,none⟩=some v4/\w'.cell? ⟨g,5,none⟩=some v5/\w'.cell? ⟨g,6,none⟩=some v6/\w'.cell? ⟨g,7,none⟩=some v7/\w'.cell? ⟨g,8,none⟩=some v8/\w'.cell? ⟨g,9,none⟩=some v9/\w'.cell? ⟨g,10,none⟩=some nD:=by
 have hD:=h;have e:∀i,w'.cell? ⟨g,i,none⟩=w.cell? ⟨g,i,none⟩:=fun i=>cZ (a:=⟨g,i,none⟩) hb
 simp only [e];exact hD
theorem EJ (A:OA) (l:List Fa) (c:Nat) (w:World) (hn:l.length<=1000000) (hk:∀f∈l,f.keys.length<=1000000) (hr:dG w w.heap.size A l) :
 Calls Tryz.prog 66 #[.slice A l.length c] w (PJ (l.map pl) w):=by
 have gQ:=kp (show ∀v l' w',l'.map pl=l.map pl->cT w' w.heap.size v l'->jK w.heap.size l'->Below w.heap.size w w'->PJ (l.map pl) w (.returned v) w' from fun v l' w' h1 h2 h3 hb=>⟨v,l',rfl,h1,h2,h3,hb⟩);have Hr:=kp hr;have Hk:=kp hk;have HC:=kp Md;obtain ⟨i0,cG,cI,cH,cJ⟩:=info_parts EO;clear hr hk;generalize hQ:PJ (l.map pl) w=Q at *;clear hQ;generalize hN:l.length=n at *;have Hn:=kp hN;clear hN;go_enter Tryz.func66,Tryz.ntmps66;go_wp2_with fail
 go_loopw [3,8] (fun v3 v8 wr=>∃ (k:Nat) (l':List Fa) (A':OA) (c':Nat),k<=n/\v8 = .int .i64 k/\v3 = .slice A' k c'/\l'.length=k/\l'.map pl=(l.take k).map pl/\wr.ownsRow w.heap.size 56 11 (.slice A' k c') k (l'.flatMap fG)/\(∀f∈l',dx wr (.slice A' k c') f)/\jK w.heap.size l'/\Below w.heap.size w wr) (fun _ v8 _=>n-(intOf v8).toNat)
 case atStart=>exact ⟨0,[],none,0,aZ _,rfl,rfl,rfl,rfl,gL _ _ _ _,(fun f hf=>by cases hf),(fun f hf=>by cases hf),aq _ _⟩
 case round =>
  obtain ⟨k,l',A',c',hk,rfl,rfl,dR,fH,aE,fv,vg,aC⟩:=hrel;have Hkf:=kp vg;clear vg;have fU:=kp fH;have jO:=kp dR;have bF:=kp aE;have kN:=kp fv;have ai:=kp aC;clear fH aE fv aC dR;by_cases ae:k<n
  .have aA:k<l.length:=by rw [Hn.o];exact ae
   have ie:=(Hr.o.below ai.o).more ai.o.size;obtain ⟨b,off,rfl,hb,c0,c1,c2,c3,c4,c5,c6,c7,c8,c9,iw⟩:=ie.cells k aA;have hf:=ie.keys _ (gM aA);have fJ:=kp (show (l.take (k+1)).map pl=(l.take k).map pl++[pl (l[k]'aA)] by rw [take_succ_eq_append_getElem aA,map_append];rfl);have qf:=Hk.o _ (gM aA);generalize (l[k]'aA)=f at *;obtain ⟨fA,keys,fc,ag⟩:=f;obtain ⟨ac,s0,n0,x0,s1,n1,x1,s2,n2,x2⟩:=ag;dsimp only at c0 c1 c2 c3 c4 c5 c6 c7 c8 c9 iw;have cS:=(aq wr.heap.size wr).alloc (ah _) (.cells #[.slice fA keys.length fc,.int .i64 ac,.int .i64 s0,.int .i64 n0,.int .i64 x0,.int .i64 s1,.int .i64 n1,.int .i64 x1,.int .i64 s2,.int .i64 n2,.int .i64 x2] 56);have iH:=kp (aa.new wr 56 #[.slice fA keys.length fc,.int .i64 ac,.int .i64 s0,.int .i64 n0,.int .i64 x0,.int .i64 s1,.int .i64 n1,.int .i64 x1,.int .i64 s2,.int .i64 n2,.int .i64 x2]);have uh:=kp cS;have Hf:=kp ((hf.below cS).more cS.size);clear ie hf cS;have dz:(0:Int)<=(k:Int):=by omega
   have df:(k:Int)<(n:Int):=by omega
   go_upto_region 5 with fail
   clear c0 c1 c2 c3 c4 c5 c6 c7 c8 c9 iw;generalize wr.alloc (.cells #[.slice fA keys.length fc,.int .i64 ac,.int .i64 s0,.int .i64 n0,.int .i64 x0,.int .i64 s1,.int .i64 n1,.int .i64 x1,.int .i64 s2,.int .i64 n2,.int .i64 x2] 56)=W2 at *;generalize sS:wr.heap.size=gF at *;have zp:=kp sS;clear sS;have ee:=kp (HC.o fA fc keys W2 qf Hf.o);have aD:=aa.sH iH.o;refine wp_region_noPanic ?_;refine dt (t:=99) (S:=(fun w'=>w'.cell? ⟨gF,0,none⟩=some (.slice fA keys.length fc)/\w'.cell? ⟨gF,1,none⟩=some (.int .i64 ac)/\w'.cell? ⟨gF,2,none⟩=some (.int .i64 s0)/\w'.cell? ⟨gF,3,none⟩=some (.int .i64 n0)/\w'.cell? ⟨gF,4,none⟩=some (.int .i64 x0)/\w'.cell? ⟨gF,5,none⟩=some (.int .i64 s1)/\w'.cell? ⟨gF,6,none⟩=some (.int .i64 n1)/\w'.cell? ⟨gF,7,none⟩=some (.int .i64 x1)/\w'.cell? ⟨gF,8,none⟩=some (.int .i64 s2)/\w'.cell? ⟨gF,9,none⟩=some (.int .i64 n2)/\w'.cell? ⟨gF,10,none⟩=some (.int .i64 x2))) (by kernel_rfl) aD (fun ad => ?_);refine tD 0 1 2 4 ad ?_;refine tk 5 ad ?_;have qh:gF<W2.heap.size:=iH.o.lt;refine oT 3 fun K hK=>?_
   go_simp
   refine (HC.o fA fc keys W2.drew qf Hf.o).mono ?_;rintro e w3 ⟨vk,rfl,rU,aN⟩;obtain ⟨Ak,ck,rfl⟩:=eM rU;have zm:=kp rU;have bC:=kp aN;clear rU aN;refine oK hK ?_ fun af=>?_
   .exact QP (bC.o.block gF qh) aD
   replace ad:=af;clear hK K af;clear aD;have Sm:=kp (show Below gF wr w3 from uh.o.trans ((show Below W2.heap.size W2 w3 from (aq _ _).drew.trans bC.o).mono (by have:=uh.o.size;omega)));have jN:=kp (eV bF.o (by rw [zp.o];exact Sm.o));have Bp:=kp (fun f hf=>(kN.o f hf).below (by rw [zp.o];exact Sm.o));have qS:=kp (ai.o.trans (Sm.o.mono (by rw [<-zp.o];exact ai.o.size)));have wy:=kp (show dx w3 (.slice A' k c') ⟨Ak,keys,ck,⟨ac,s0,n0,x0,s1,n1,x1,s2,n2,x2⟩⟩ from dx.new (B:=W2.drew.heap.size) zm.o (fun j hj=>dL (bF.o.lt j hj).2 uh.o.size))
   have Br:=kp (show jK w.heap.size (l'++[⟨Ak,keys,ck,⟨ac,s0,n0,x0,s1,n1,x1,s2,n2,x2⟩⟩]) from fun g hg b' jy gd av=>by
    rcases mem_append.1 hg with hg | hg
    .exact Hkf.o g hg b' jy gd av
    .rw [mem_singleton.1 hg] at gd;dsimp only at gd;have h1:=zm.o.lt b' (by rw [gd];rfl);have h2:=ai.o.size;have h3:=uh.o.size;have h4:W2.drew.heap.size=W2.heap.size:=rfl
     omega)
   have cz:k+1<1048576*64:=by have:=Hn.o;omega
   have Bq:=kp qS.o.size;have Sn:gF<w3.heap.size:=dL qh bC.o.size;have je:=kp (show (Value.slice A' k c').ownBlock≠some gF from fun hh=>by have:=(bF.o.lt gF hh).2;rw [zp.o] at this;omega);refine tk 6 ad ?_;refine oT 7 fun K hK=>?_
   go_simp
   refine oK hK ?_ fun af=>?_
   .exact QP (Below.heap_alloc _ _ _ Sn) ad
   replace ad:=af;clear hK K af;refine oT 8 fun K hK=>?_
   refine M9 rfl (.tmp 12) (.tmp 19) 30 rfl w.heap.size 56 i0 _ 11 104 Tryz.underlying30 cG cI cH cJ rfl (by decide) w3 (eB ⟨Ak,keys,ck,⟨ac,s0,n0,x0,s1,n1,x1,s2,n2,x2⟩⟩) rfl (CA _) (.slice A' k c') k (l'.flatMap fG) rfl jN.o rfl cz (by decide) Bq.o ?_;intro v5 w5 aY bV;obtain ⟨A5,c5,h5⟩:=eM aY;subst h5;have cP:=kp aY;have dh:=kp bV;clear aY bV
   go_simp
   refine oK hK ?_ fun af=>?_
   .exact QP ((dh.o.de Sn je.o).trans (Below.heap_alloc _ _ _ Sn).symm) ad
   replace ad:=af;clear hK K af;refine tk 9 ad ?_;refine dY (by kernel_rfl) ?_ _
   try clear ad
   refine NoPanic.normal ?_;have bZ:=kp (dh.o.mO qS.o jN.o (ah _) Bq.o);have iU:=kp (show ∀f∈l'++[⟨Ak,keys,ck,⟨ac,s0,n0,x0,s1,n1,x1,s2,n2,x2⟩⟩],dx w5 (.slice A5 (k+1) c5) f from fun f hf=>by (rcases mem_append.1 hf with hf | hf;exact (Bp.o f hf).app dh.o;rw [mem_singleton.1 hf];exact wy.o.app dh.o));go_wp2_with fail;refine ⟨⟨k+1,l'++[⟨Ak,keys,ck,⟨ac,s0,n0,x0,s1,n1,x1,s2,n2,x2⟩⟩],A5,c5,by omega,by go_num,rfl,by rw [aS,jO.o];rfl,?_,?_,iU.o,Br.o,bZ.o⟩,by simp [intOf];omega⟩
   .rw [map_append,fU.o,fJ.o];rfl
   .rw [flatMap_append];exact cP.o
  .obtain rfl:k=n:=by omega
   have bN:=kp (show cT wr w.heap.size (.slice A' k c') l' from ⟨by rw [jO.o];exact bF.o,kN.o⟩);have Da:=kp (show l'.map pl=l.map pl by rw [fU.o,take_of_length_le (by rw [Hn.o];exact ah _)]);go_wp2_with fail;exact gQ.o _ l' _ Da.o bN.o Hkf.o ai.o
def bP:LN->LN->Int
 | [],[]=>0
 | [],_::_ => -1
 | _::_,[]=>1
 | a::x,b::y=>if a<b then -1 else if b<a then 1 else bP x y
def iO (a b:Nat):Int:=if a<b then -1 else if b<a then 1 else 0
theorem a5E (x:Int) (w:World):Calls Tryz.prog 153 #[.int .i64 x] w fun e w'=>e = .returned (.bool false)/\w=w':=by
 go_enter Tryz.func153,Tryz.ntmps153;go_wp2_with fail;go_ret;exact ⟨by simp,rfl⟩
theorem Q9 (a b:Nat) (w:World):Calls Tryz.prog 121 #[.int .i64 (a:Int),.int .i64 (b:Int)] w fun e w'=>e = .returned (.int .i64 (iO a b))/\w=w':=by
 have HN:=kp a5E;have HV:=kp (show (a<b->iO a b = -1)/\(b<a->iO a b=1)/\(¬a<b->¬b<a->iO a b=0) from ⟨fun h=>by simp [iO,h],fun h=>by (have h2:¬a<b:=by omega);simp [iO,h,h2],fun h1 h2=>by simp [iO,h1,h2]⟩);generalize iO a b=V at *;go_enter Tryz.func121,Tryz.ntmps121
 go_wp2_with (go_at_call 153;refine (HN.o _ _).mono ?_;rintro e w' ⟨rfl,rfl⟩)
 all_goals
  go_ret;refine ⟨?_,rfl⟩
  first
   | (rw [HV.o.1 (by omega)];rfl)
   | (rw [HV.o.2.1 (by omega)];rfl)
   | (rw [HV.o.2.2 (by omega) (by omega)];rfl)
theorem a8Q {a b:LN} {k:Nat} (ha:k<a.length) (hb:k<b.length):bP (a.drop k) (b.drop k)=if iO a[k] b[k]=0 then bP (a.drop (k+1)) (b.drop (k+1)) else iO a[k] b[k]:=by
 rw [drop_eq_getElem_cons ha,drop_eq_getElem_cons hb,bP];unfold iO;by_cases h1:a[k]<b[k]
 .simp [h1]
 .by_cases h2:b[k]<a[k]<;>simp [h1,h2]
theorem a6o (A B:OA) (ca cb:Nat) (a b:LN) (w:World) (ha:a.length<=1000000) (hb:b.length<=1000000) (jf:Row w w.heap.size A (aP a)) (mf:Row w w.heap.size B (aP b)) :
 Calls Tryz.prog 110 #[.slice A a.length ca,.slice B b.length cb] w fun e w'=>e = .returned (.int .i64 (bP a b))/\w=w':=by
 have HC:=kp Q9;have HA:=kp jf;have HB:=kp mf;clear jf mf;obtain ⟨na,Sp⟩:∃n,a.length=n:=⟨_,rfl⟩
 obtain ⟨nb,Bs⟩:∃n,b.length=n:=⟨_,rfl⟩
 rw [Sp] at ha ⊢;rw [Bs] at hb ⊢;have Sq:=kp Sp;have Nt:=kp Bs;clear Sp Bs;go_enter Tryz.func110,Tryz.ntmps110;go_wp2_with fail
 go_loop [11] (fun i=>∃k:Nat,k<=na/\k<=nb/\i = .int .i64 k/\bP a b=bP (a.drop k) (b.drop k)) (fun i=>na-(intOf i).toNat)
 case atStart=>exact ⟨0,aZ _,aZ _,rfl,rfl⟩
 case round =>
  obtain ⟨k,Nu,Sr,rfl,he⟩:=hrel;have He:=kp he;clear he;by_cases xZ:k<na
  .have Bt:k<a.length:=by rw [Sq.o];exact xZ
   obtain ⟨bA,oA,hA,eQ,c0⟩:=Row.at_ HA.o (k:=k) (by rw [ke];exact Bt);rw [hA];have e0:(aP a)[k]'(by rw [ke];exact Bt) = .int .i64 ((a[k]'Bt:Nat):Int):=by unfold aP;rw [getElem_map]
   rw [e0] at c0;by_cases sT:k<nb
   .have FW:k<b.length:=by rw [Nt.o];exact sT
    obtain ⟨bB,oB,hB,FX,d0⟩:=Row.at_ HB.o (k:=k) (by rw [ke];exact FW);have e1:(aP b)[k]'(by rw [ke];exact FW) = .int .i64 ((b[k]'FW:Nat):Int):=by unfold aP;rw [getElem_map]
    rw [e1] at d0;rw [hB];have en:=kp (a8Q Bt FW);have ee:=kp (HC.o (a[k]'Bt) (b[k]'FW) w);clear e0 e1 hA hB;generalize (a[k]'Bt)=x at *;generalize (b[k]'FW)=y at *;by_cases hz:iO x y=0
    .have zq:=kp (show bP (a.drop k) (b.drop k)=bP (a.drop (k+1)) (b.drop (k+1)) by rw [en.o,if_pos hz]);rw [hz] at ee;clear hz en;have xR:((0:Int) != 0)=false:=by simp
     go_wp2_with fail;refine ee.o.mono ?_;rintro e w' ⟨rfl,rfl⟩;go_wp2_with fail
     go_round
     case rel=>exact ⟨k+1,by omega,by omega,by go_num,by rw [He.o,zq.o]⟩
     case measure=>simp [intOf];omega
    .have zq:=kp (show iO x y=bP a b by rw [He.o,en.o,if_neg hz]);have av:(iO x y != 0)=true:=by simpa using hz
     generalize iO x y=V at *;clear hz en;go_wp2_with fail;refine ee.o.mono ?_;rintro e w' ⟨rfl,rfl⟩;go_wp2_with fail;go_ret;exact ⟨congrArg (fun v=>Ending.returned (Value.int .i64 v)) zq.o,rfl⟩
   .have zq:=kp (show (1:Int)=bP a b by
     rw [He.o,drop_eq_getElem_cons Bt,show b.drop k=[] from drop_of_length_le (by rw [Nt.o];omega)];rfl)
    clear e0 hA;generalize (a[k]'Bt)=x at *;go_wp2_with fail;go_ret;exact ⟨congrArg (fun v=>Ending.returned (Value.int .i64 v)) zq.o,rfl⟩
  .obtain rfl:k=na:=by omega
   by_cases sT:k<nb
   .have zq:=kp (show (-1:Int)=bP a b by
     rw [He.o,show a.drop k=[] from drop_of_length_le (by rw [Sq.o];exact ah _),drop_eq_getElem_cons (show k<b.length by rw [Nt.o];exact sT)];rfl)
    go_wp2_with fail;go_ret;exact ⟨congrArg (fun v=>Ending.returned (Value.int .i64 v)) zq.o,rfl⟩
   .have zq:=kp (show (0:Int)=bP a b by
     rw [He.o,show a.drop k=[] from drop_of_length_le (by rw [Sq.o];exact ah _),show b.drop k=[] from drop_of_length_le (by rw [Nt.o];omega)];rfl)
    go_wp2_with fail;go_ret;exact ⟨congrArg (fun v=>Ending.returned (Value.int .i64 v)) zq.o,rfl⟩
theorem M1 (f g:Fa) (w:World) (hf:f.keys.length<=1000000) (hg:g.keys.length<=1000000) (Bu:Row w w.heap.size f.A (aP f.keys)) (ya:Row w w.heap.size g.A (aP g.keys)) :
 Calls Tryz.prog 64 #[.agg (eB f),.agg (eB g)] w fun e w'=>e = .returned (.int .i64 (bP f.keys g.keys))/\w'=(w.alloc (.cells (eB f) 56)).alloc (.cells (eB g) 56):=by
 have ax:=(aq w.heap.size w).alloc (ah _) (.cells (eB f) 56);have au:=ax.alloc ax.size (.cells (eB g) 56);have lD:=(aa.new w 56 (eB f)).alloc (.cells (eB g) 56);have qW:=aa.lay (w:=w.alloc (.cells (eB f) 56)) (g:=w.heap.size+1) (t:=56) (cs:=eB g) (by simp);have HC:=kp (a6o f.A g.A f.c g.c f.keys g.keys ((w.alloc (.cells (eB f) 56)).alloc (.cells (eB g) 56)) hf hg ((Bu.below au).more au.size) ((ya.below au).more au.size));obtain ⟨x0,_⟩:=aa.sH lD;obtain ⟨y0,_⟩:=aa.sH qW;clear hf hg Bu ya ax au lD qW;unfold eB at *;generalize bP f.keys g.keys=V at *;go_enter Tryz.func64,Tryz.ntmps64;go_wp2_with fail;refine HC.o.mono ?_;rintro e w' ⟨rfl,h⟩;go_wp2_with fail;go_ret;exact ⟨rfl,h.symm⟩
end Go.Proofs.YtjopcamkclndlaaGreat.Tc
