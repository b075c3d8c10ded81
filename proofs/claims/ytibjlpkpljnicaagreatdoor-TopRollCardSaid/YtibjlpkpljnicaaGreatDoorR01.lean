/- Parts. -/
import Derived.Test.YtibjlpkpljnicaaGreatDoorRows
import Derived.WalkKit
import Derived.ProofKit
import Derived.Outline
import Derived.Below
import Derived.Lib.Hide
import Derived.Laws.OwnMore
import Derived.Deep.Draws
import Derived.Laws.Rows
import Derived.Maps.AppendAt
import Derived.OwnWalk
import Derived.Carry
set_option maxRecDepth 100000
set_option maxHeartbeats 8000000
set_option linter.all false
namespace Go.Proofs.YtibjlpkpljnicaaGreatDoor
namespace Base
open List Go.RowKit
def Row(w:World)(B:Nat)(A:Option Addr)(c:List Value):Prop:=
 c=[]\/∃b off,A=some ⟨b,off,none⟩/\b<B/\∀i v,c[i]? = some v->w.cell? ⟨b,off+i,none⟩=some v
def Row.nil w B A:Row w B A []:= .inl rfl
def Row.at_{w B A c}(h:Row w B A c){k}(hk:k<c.length) :
 ∃b off,A=some ⟨b,off,none⟩/\b<B/\w.cell? ⟨b,off+k,none⟩=some c[k]:=by
 obtain rfl|⟨b,off,e,d,f⟩:=h
 .grind
 .exact⟨b,_,e,d,f k _ (getElem?_eq_getElem hk)⟩
def Row.keep{w w' B A d}(h:Row w B A d)(hk:∀p:Addr,p.block<B->w'.cell? p=w.cell? p):Row w' B A d:=by
 obtain rfl|⟨b,off,e,c,g⟩:=h
 .exact .inl rfl
 .exact .inr ⟨b,_,e,c,λi v f=>(hk _ c).trans (g i v f)⟩
def Row.below{w w' B A b}(h:Row w B A b)(c:Below B w w'):Row w' B A b:=h.keep λ_ d=>c.cell d
def Row.more{w B d A c}(h:Row w B A c)(m:B<=d):Row w d A c:=by
 obtain rfl|⟨b,off,e,g,f⟩:=h
 .exact .inl rfl
 .exact .inr ⟨b,_,e,by omega,f⟩
def Row.take{w B A d}(h:Row w B A d) n:Row w B A (d.take n):=by
 obtain rfl|⟨b,off,e,f,g⟩:=h
 .exact .inl (by simp)
 .refine .inr ⟨b,_,e,f,λi v c=>g i v ?_⟩;grind
def Row.Mk{w base e A n c d}(h:w.ownsRow base e 1 (.slice A n c) n d):Row w w.heap.size A d:=by
 obtain⟨_,h0⟩|⟨g,cap,cur,b,_,f,_⟩:=h.2
 .subst h0;have h1:=h.1;simp at h1;exact .inl h1
 .cases b;refine .inr ⟨g,0,rfl,(h.lt g rfl).2,λi v b=> ?_⟩;have:=h.cells (g:=g) rfl i v b;unfold Addr.add at this;grind
def aa(w:World)(g:Nat)(t:TypeId)(cs:Array Value):Prop:=w.heap[g]? = some (.cells cs t (0,0))
def aa.lt{w g t cs}(h:aa w g t cs):g<w.heap.size:=by
 by_cases b:g<w.heap.size
 . omega
 .unfold aa at h;grind
def aa.cell{w g t cs}(h:aa w g t cs) i:w.cell? ⟨g,i,none⟩=cs[i]?:= cell_of_row w g i _ t _ h
def aa.free{w g t cs}(h:aa w g t cs) i:w.frozen? ⟨g,i,none⟩=false:=by
 unfold aa at h;simp[World.frozen?,h]
def aa.new(w:World) t cs:aa (w.alloc (.cells cs t)) w.heap.size t cs:=heap_alloc_new w _
def aa.alloc{w g t cs}(h:aa w g t cs) o:aa (w.alloc o) g t cs:=(Below.heap_alloc w o g h.lt).trans h
def aa.drew{w g t cs}(h:aa w g t cs):aa w.drew g t cs:=h
def aa.drewN{w g t cs}(h:aa w g t cs) n:aa (w.drewN n) g t cs:=h
def aa.set{w g t cs}(h:aa w g t cs) i u:aa (w.setCell ⟨g,i,none⟩ u) g t (cs.setIfInBounds i u):=by
 unfold aa at h⊢;simp[World.setCell,Array.getElem?_modify,h]
def aa.aJ{w g t cs}(h:aa w g t cs){p}(b:g≠p.block) u:aa (w.setCell p u) g t cs:=(Below.heap_setCell w p u g b).trans h
def aa.below{w w' B g t cs}(h:aa w g t cs)(b:Below B w w')(c:g<B):aa w' g t cs:=(b.block g c).trans h
def aa.under{w w' g t cs}(h:aa w g t cs)(b:Below w.heap.size w w'):aa w' g t cs:=h.below b h.lt
def aa.grown{w w' g t cs row}(h:aa w g t cs)(b:w.grownBy w' row)(c:some g≠row):aa w' g t cs:=(b.block g h.lt c).trans h
def aa.one{w g t x}(h:aa w g t #[x]):w.cell? ⟨g,0,none⟩=some x/\w.frozen? ⟨g,0,none⟩=false:=⟨h.cell 0,h.free 0⟩
def aa.two{w g t x y}(h:aa w g t #[x,y]):w.cell? ⟨g,0,none⟩=some x/\w.cell? ⟨g,1,none⟩=some y/\w.frozen? ⟨g,0,none⟩=false/\w.frozen? ⟨g,1,none⟩=false:=
 ⟨h.cell 0,h.cell 1,h.free 0,h.free 1⟩
def iJ{B w c}(d:Below B w c) b o(h:b<B):c.frozen? ⟨b,o,none⟩=w.frozen? ⟨b,o,none⟩:=d.frozen h
def bY{w:World}{base e v n xs}(h:w.ownsRow base e 1 v n xs):∃A c,v = .slice A n c:=by
 obtain⟨rfl,rfl⟩|⟨g,cap,cur,rfl,_⟩:=h.2
 .grind
 .grind
def kG{w base e A n c xs}(h:w.ownsRow base e 1 (.slice A n c) n xs):Row w w.heap.size A xs:=Row.Mk h
def Df{w:World}{base e v n xs}(h:w.ownsRow base e 1 v n xs):xs.length=n:=by simpa using h.1
def Dg{w:World}{base e v n xs}(h:w.ownsRow base e 1 v n xs){k}(hk:v.ownBlock=some k):base<=k/\k<w.heap.size:=h.lt k hk
def lX(u v:Value):Prop:=u.ownBlock=none\/u.ownBlock≠v.ownBlock
def lX.symm{u v}(h:lX u v):lX v u:=by
 unfold lX at h⊢;grind
def Gu{B a w w' base e v n xs}(h:Below B a w)(b:w.ownsRow base e 1 v n xs)(c:B<=base)(f:B<=w.heap.size)(d:w.grownBy w' v.ownBlock):Below B a w':=
 h.grown d f (λ_ hk=>Nat.le_trans c (Dg b hk).1)
def Kp(p:Prop):Prop:=p
def Kp.o{p}(h:Kp p):p:=h
def Kp.out{p}(h:Kp p):p:=h
def kp{p}(h:p):Kp p:=h
abbrev zN:Array Value:=#[.int .i64 0,.slice none 0 0,.int .i64 0,.int .i64 0,.int .i64 0,.int .i64 0,.int .i64 0,.int .i64 0,.int .i64 0,.int .i64 0,.int .i64 0,.int .i64 0,.int .i64 0,.int .i64 0]
abbrev zC:Array Value:=#[.int .i64 0,.int .i64 0,.int .i64 0,.int .i64 0,.int .i64 0,.int .i64 0,.int .i64 0,.int .i64 0,.int .i64 0,.int .i64 0,.int .i64 0,.int .i64 0]
abbrev zA:Array Value:=#[.int .i64 0,.int .i64 0,.int .i64 0,.int .i64 0,.int .i64 0,.int .i64 0,.int .i64 0,.int .i64 0,.int .i64 0,.int .i64 0]
def gE{α:Type _}{l:List α}{i}(h:i<l.length):l[i]? = some l[i]:=getElem?_eq_getElem h
def aO{α:Type _}{l:List α}{i}{a:α}(h:l[i]? = some a):∃h:i<l.length,l[i]=a:=List.getElem?_eq_some_iff.1 h
def lM{α:Type _}{β:Type _}{l:List α}(f:α->β):(l.map f).length=l.length:=length_map f
def aE{α:Type _}{l m:List α}:(l++m).length=l.length+m.length:=length_append
def gM{α:Type _}{l:List α}{i}(h:i<l.length):l[i]∈l:=getElem_mem h
def ay{a b c}(h:Kp (Below a.heap.size a b))(k:Below b.heap.size b c):Kp (Below a.heap.size a c):=kp (h.out.trans (k.mono h.out.size))
def bu{w w' g t c}(h:Kp (aa w g t c))(k:Below w.heap.size w w'):Kp (aa w' g t c):=kp (h.out.under k)
def nR{n:Nat}:n<=n:=Nat.le_refl n
def bR{B w}:Below B w w:=Below.refl B w
abbrev OA:=Option Addr
abbrev LN:=List Nat
abbrev LV:=List Value
abbrev AV:=Array Value
def aF{a b c:Nat}(h:a<=b)(k:b<=c):a<=c:=Nat.le_trans h k
def av n:0<=n:=Nat.zero_le n
def ae(n:Nat):n<=n:=Nat.le_refl n
def bh{a b c:Nat}(h:a<b)(k:b<=c):a<c:=Nat.lt_of_lt_of_le h k
def ah B w:Below B w w:=Below.refl B w
def bF{w w':World}{a}(h:w'.heap[a.block]? = w.heap[a.block]?):w'.cell? a=w.cell? a:=World.cell?_of_block h
def o_{p:Prop}(h:p:=by first|omega|(simp<;>omega)|(dsimp only;omega)|(simp[intOf];omega)|go_num):p:=h
def k_{p:Prop}(h:p:=by kernel_rfl):p:=h
def d_{p:Prop}(h:p:=by decide):p:=h
def s_{p:Prop}(h:p:=by simp):p:=h
def r_{p:Prop}(h:p:=by grind):p:=h
abbrev I(x:Int):Value:=.int .i64 x
abbrev N(x:Nat):Value:=.int .i64 (x:Int)
abbrev Z:Value:=.slice none 0 0
abbrev U(a:Option Addr)(n c:Nat):Value:=.slice a n c
abbrev Y(b o:Nat):Value:=.pointer (some ⟨b,o,none⟩)
abbrev M(b o:Nat):Addr:=⟨b,o,none⟩
abbrev C(w:World)(b o:Nat)(v:Value):Prop:=w.cell? ⟨b,o,none⟩=some v
abbrev E(w u:World):Prop:=Below w.heap.size w u
abbrev T(x:ByteArray):Value:=.string x
def J{p:Prop}(h:p):Kp p:=h
def e_{α:Sort _}(a:α):∃n,a=n:=o_
def g_{p:Prop}(h:p:=by(simp only[List.getElem?_toArray,List.getElem?_cons_succ,List.getElem?_cons_zero];exact rfl)):p:=h
abbrev R_(v:Value)(w:World)(e:Ending)(u:World):Prop:=e=.returned v/\Below w.heap.size w u
section
variable{a b c d e f g h:Prop}(x:a)(y:b)(z:c)(p:d)(q:e)(r:f)(s:g)(t:h)
def j3_:Kp a/\Kp b/\Kp c:=⟨x,y,z⟩
def j4_:Kp a/\Kp b/\Kp c/\Kp d:=⟨x,y,z,p⟩
def j5_:Kp a/\Kp b/\Kp c/\Kp d/\Kp e:=⟨x,y,z,p,q⟩
def j6_:Kp a/\Kp b/\Kp c/\Kp d/\Kp e/\Kp f:=⟨x,y,z,p,q,r⟩
def j7_:Kp a/\Kp b/\Kp c/\Kp d/\Kp e/\Kp f/\Kp g:=⟨x,y,z,p,q,r,s⟩
end
def fr_{w w':World}{g o:Nat}(e:w'.heap[g]?=w.heap[g]?)(h:w.frozen? ⟨g,o,none⟩=false):w'.frozen? ⟨g,o,none⟩=false:=by unfold World.frozen? at h⊢;grind
structure App(wr w':World)(v v':Value):Prop where
 grown:wr.grownBy w' v.ownBlock
 j4:v'.ownBlock=v.ownBlock\/∃k,v'.ownBlock=some k/\wr.heap.size<=k
section
variable{P:Program}
def iP{d:Array Oper}{b:List Oper}{o:Oper}{a:Act}{Q:Exit->Act->World->Prop}(q:o.guard=none)(s x:Operand)(t:TypeId)
 (B:o.op = .call { callee:= .builtin .append,args:=#[s,x],argTypes:=#[t,t] })
 (base:Nat)(e:TypeId)(i:TypeInfo)(z:Value)(bytes:Nat)(ht:P.underlying t=some (.slice e))(hi:P.info? e=some i)(C:i.zero=some z)
 (c:i.size=1)(A:i.bytes=bytes)(r:z.cells.size=1)
 (wr:World)(u:Value)(F:u.oneCell'=true)(v:Value)(n:Nat)(xs:List Value)(D:a.eval s=v)(g:wr.ownsRow base e 1 v n xs)
 (hx:a.eval x = U (some ⟨wr.heap.size,0,none⟩) 1 1)
 (G:n<1048576*64)(E:bytes<=256)(p:base<=wr.heap.size)
 (h:∀m w',w'.ownsRow base e 1 m (n+1) (xs++[u])->App wr w' v m->wpList P d Q b (a.put o.dst m) w') :
 wpList P d Q (o::b) a (wr.alloc (.cells #[u] e)):=by
 refine wpList_append_own_at _ q s x t B _ e i z 1 _ ht hi C c A r d_ v n _ D (g.alloc _) _ 1 1 _ hx rfl (cell_one_new _ _ _) ?_ ?_ ?_ ?_ ?_
 .grind
 .unfold maxLen;omega
 .have:(n+1)*bytes<=(1048576*64)*256:=Nat.mul_le_mul o_ E;omega
 .simp;omega
 .intro m w' h1 h2 _ f;refine h m _ h1 ⟨⟨h2.os,h2.tape,h2.output,Nat.le_trans s_ h2.size,λk hk y=>(h2.block k o_ y).trans (Below.heap_alloc _ _ _ hk)⟩,?_⟩;obtain f|f:=f
  .grind
  .exact .inr ⟨_,f,s_⟩
def Ru{o:Oper}{a:Act}{K:Act->World->Prop}{Q:Exit->Act->World->Prop}(s x:Operand)(t:TypeId)
 (B:o.op = .call { callee:= .builtin .append,args:=#[s,x],argTypes:=#[t,t] })
 (base:Nat)(e:TypeId)(i:TypeInfo)(z:Value)(bytes:Nat)(ht:P.underlying t=some (.slice e))(hi:P.info? e=some i)(C:i.zero=some z)
 (b:i.size=1)(r:i.bytes=bytes)(p:z.cells.size=1)
 (wr:World)(u:Value)(G:u.oneCell'=true)(v:Value)(n:Nat)(xs:List Value)(E:a.eval s=v)(c:wr.ownsRow base e 1 v n xs)
 (hx:a.eval x = U (some ⟨wr.heap.size,0,none⟩) 1 1)
 (H:n<1048576*64)(F:bytes<=256)(m:base<=wr.heap.size)
 (h:∀d w',w'.ownsRow base e 1 d (n+1) (xs++[u])->App wr w' v d->K (a.put o.dst d) w') :
 o.wp P a (wr.alloc (.cells #[u] e)) K Q:=by
 obtain⟨d,w',D,h2,g,_,f⟩:=run_append_own_at (wr.alloc (.cells _ e)) _ t o.type e i z 1 _ ht hi C b r p d_ v n _ (c.alloc _) (M _ 0) 1 1 _ rfl (cell_one_new _ _ _)
  o_ (by unfold maxLen;omega) (by have:(n+1)*bytes<=(1048576*64)*256:=Nat.mul_le_mul o_ F;omega) o_
 unfold Oper.wp execOp;simp only[B,resolve,invoke,builtin,Sem.run_bind,Sem.run_pure,Result.andThen_ok,map_toArray,map_cons,map_nil,E,hx,D];refine h d _ h2 ⟨⟨g.os,g.tape,g.output,Nat.le_trans s_ g.size,λk hk q=>(g.block k o_ q).trans (Below.heap_alloc _ _ _ hk)⟩,?_⟩;obtain f|f:=f
 .grind
 .exact .inr ⟨_,f,s_⟩
def jq{d:Array Oper}{o:Oper}{a:Act}{K:Act->World->Prop}{Q:Exit->Act->World->Prop}{E:Prop}(m:o.guard=none)(s x:Operand)(t:TypeId)
 (r:o.op = .call { callee:= .builtin .append,args:=#[s,x],argTypes:=#[t,t] })
 (base:Nat)(e:TypeId)(i:TypeInfo)(z:Value)(bytes:Nat)(ht:P.underlying t=some (.slice e))(hi:P.info? e=some i)(y:i.zero=some z)
 (c:i.size=1)(q:i.bytes=bytes)(p:z.cells.size=1)
 (wr:World)(u:Value)(C:u.oneCell'=true)(v:Value)(n:Nat)(xs:List Value)(A:a.eval s=v)(f:wr.ownsRow base e 1 v n xs)
 (hx:a.eval x = U (some ⟨wr.heap.size,0,none⟩) 1 1)
 (D:n<1048576*64)(B:bytes<=256)(b:base<=wr.heap.size)
 (h:∀g w',w'.ownsRow base e 1 g (n+1) (xs++[u])->App wr w' v g->K (a.put o.dst g) w') :
 if Region.wanted o (yielded d a.tmps)=true then o.wp P a (wr.alloc (.cells #[u] e)) K Q else E:=by
 have F:Region.wanted o (yielded d a.tmps)=true:=by simp[Region.wanted,m]
 rw[if_pos F];exact Ru s x t r _ e i z _ ht hi y c q p _ u C v n _ A f hx D B b h
end
section
variable{wr w':World}{v v':Value}
def App.below{B:Nat}{a:World}{base:Nat}{e:TypeId}{n:Nat}{xs:List Value}(h:App wr w' v v')(c:Below B a wr)(b:wr.ownsRow base e 1 v n xs)(f:B<=base)(d:B<=wr.heap.size):Below B a w':=Gu c b f d h.grown
def App.other{u:Value}{base:Nat}{e:TypeId}{m:Nat}{ys:List Value}(h:App wr w' v v')(c:wr.ownsRow base e 1 u m ys)(b:lX u v):w'.ownsRow base e 1 u m ys:=c.kept h.grown b
def App.apart{u:Value}{base:Nat}{e:TypeId}{m:Nat}{ys:List Value}(h:App wr w' v v')(g:wr.ownsRow base e 1 u m ys)(d:lX u v):lX u v':=by
 obtain b|⟨k,b,hk⟩:=h.j4
 .unfold lX;rw[b];exact d
 .rcases c:u.ownBlock with _|j
  .exact .inl c
  .refine .inr ?_;rw[c,b];have:=(Dg g c).2;grind
end
structure aq(p:Nat->Prop)(w w':World):Prop where
 os:w'.os=w.os
 tape:w'.tape=w.tape
 output:w'.output=w.output
 size:w.heap.size<=w'.heap.size
 block:∀k,k<w.heap.size->¬p k->w'.heap[k]? = w.heap[k]?
section
variable{p:Nat->Prop}{a b c:World}
def aq.refl p w:aq p w w:=⟨rfl,rfl,rfl,o_,λ_ _ _=>rfl⟩
def aq.trans(h:aq p a b)(k:aq p b c):aq p a c:=
 ⟨k.os.trans h.os,k.tape.trans h.tape,k.output.trans h.output,Nat.le_trans h.size k.size,λi hi d=>(k.block i (Nat.lt_of_lt_of_le hi h.size) d).trans (h.block i hi d)⟩
def aq.below(h:E a b):aq p a b:=⟨h.os,h.tape,h.output,h.size,λi hi _=>h.block i hi⟩
def aq.set(w:World)(q:Addr)(v:Value)(b:p q.block):aq p w (w.setCell q v):=
 have h:=(Below.refl 0 w).setCell o_ v;⟨h.os,h.tape,h.output,o_,λi _ hi=>Below.heap_setCell w q v i (λe=>hi (e▸b))⟩
def aq.drewN(h:aq p a b)(n:Nat):aq p a (b.drewN n):=⟨h.os,h.tape,h.output,h.size,h.block⟩
def aq.drew(h:aq p a b):aq p a b.drew:=⟨h.os,h.tape,h.output,h.size,h.block⟩
def aq.alloc(h:aq p a b)(o:Obj):aq p a (b.alloc o):=h.trans (.below (bR.alloc nR o))
def aq.more{q:Nat->Prop}(h:aq p a b)(c:∀k,p k->q k):aq q a b:=⟨h.os,h.tape,h.output,h.size,λi hi d=>h.block i hi (λe=>d (c i e))⟩
def aq.toBelow{B:Nat}(h:aq p a b)(c:∀k,p k->B<=k)(d:B<=a.heap.size):Below B a b:=
 ⟨h.os,h.tape,h.output,h.size,λi hi=>h.block i o_ (λe=>r_)⟩
def aa.ax{g:Nat}{t:TypeId}{cs:Array Value}(h:aa a g t cs)(ht:aq p a b)(c:¬p g):aa b g t cs:=(ht.block g h.lt c).trans h
end
def aa.three{w g t x y z}(h:aa w g t #[x,y,z]):C w g 0 x/\C w g 1 y/\C w g 2 z/\w.frozen? (M g 0)=false/\w.frozen? (M g 1)=false/\w.frozen? (M g 2)=false:=
 ⟨h.cell 0,h.cell 1,h.cell 2,h.free 0,h.free 1,h.free 2⟩
structure Over(B:Nat)(w w':World):Prop where
 size:w.heap.size<=w'.heap.size
 block:∀k,B<=k->k<w.heap.size->w'.heap[k]? = w.heap[k]?
def Over.own{B base:Nat}{w w':World}{e:TypeId}{v:Value}{n:Nat}{xs:List Value}(h:Over B w w')(m:w.ownsRow base e 1 v n xs)(r:B<=base):w'.ownsRow base e 1 v n xs:=by
 obtain⟨h1,h2⟩:=m;refine⟨h1,?_⟩;obtain h2|⟨g,cap,cur,f,q,d,p⟩:=h2
 .grind
 .have b:g<w.heap.size:=r_
  exact .inr ⟨g,_,_,f,q,(h.block g o_ b).trans d,p⟩
def Over.trans{B:Nat}{a b c:World}(h:Over B a b)(k:Over B b c):Over B a c:=
 ⟨Nat.le_trans h.size k.size,λi h1 h2=>(k.block i h1 (Nat.lt_of_lt_of_le h2 h.size)).trans (h.block i h1 h2)⟩
def Over.under{B:Nat}{a b:World}(h:E a b):Over B a b:=⟨h.size,λi _ h2=>h.block i h2⟩
end Base
end Go.Proofs.YtibjlpkpljnicaaGreatDoor
