/- Parts. -/
import Derived.Test.YtibjlpkpljnicaaGreatDoorR01
import Derived.OpenShut
import Derived.ChangeOld
import Derived.ShutString
import Derived.SliceStrings
import Derived.Lib.SmallJoins
import Derived.Deep.Grids
import Derived.Deep.Slices
import Derived.Deep.Fields
import Derived.ChangeSame
set_option maxRecDepth 100000
set_option maxHeartbeats 8000000
set_option linter.all false
namespace Go.Proofs.YtibjlpkpljnicaaGreatDoor
namespace Base
open List Go.ChangeShapes Go.WideShapes Go.ChangeAt Go.RowKit Go.Joins Go.Deep
def aa.lay{w:World}{g t cs}(b:w.heap.size=g):aa (w.alloc (.cells cs t)) g t cs:=b▸aa.new w t _
def mq{w:World}{a v}(h:w.cell? a=some v):a.block<w.heap.size:=by
 by_cases b:a.block<w.heap.size
 . omega
 .have e:w.heap[a.block]? = none:=o_;simp[World.cell?,e]at h
def al{W w'}(c:Below W.heap.size W w'){b o v}(h:W.cell? ⟨b,o,none⟩=some v):w'.cell? ⟨b,o,none⟩=some v:=(c.cell (mq h)).trans h
def jS b off i:(⟨b,off,none⟩:Addr).add i=⟨b,off+i,none⟩:=by
 unfold Addr.add;simp
def uk{w a d}(h:∀i v,d[i]? = some v->w.cell? (a.add i)=some v):Row w w.heap.size (some a) d:=by
 obtain _|⟨g,d⟩:=d
 .exact .inl rfl
 .obtain⟨b,off,c⟩:=a;have h0:=h 0 g rfl;have e:c=none:=by
   have:=World.cell?_spot h0;trivial
  subst e;rw[jS]at h0;refine .inr ⟨b,_,rfl,mq h0,λi v f=> ?_⟩;rw[<-jS];grind
def KP{α}(Q:Nat->α->Prop) n(h:∀i,i<n->∃a,Q i a):∃l:List α,l.length=n/\∀i(hi:i<l.length),Q i l[i]:=by
 induction n with
 |zero=>simp
 |succ n c=>
  obtain⟨l,d,f⟩:=c (λi hi=>h i o_);obtain⟨a,e⟩:=h n o_;refine⟨l++[a],o_,λi hi=> ?_⟩;grind
section
variable{H:Type}{enc:TypeId×Value->H}{P:Program}{W:World}{b0:Nat}{sp:Nat->Bool}{held:Bool}
def tf{t:TypeId}{fs:Array Field}{cs:List Value}{b:Nat}{x:DataW H×List MemPlace}(g:P.underlying t=some (.struct fs))(c:oneCellFields P fs=true)(z:P.cellsOf t=fs.size)
 (h:DataW.trod enc P W b0 sp held b t cs=some x)(j:Nat)(f:Field)(e:fs[j]? = some f):∃u n y,cs[j]? = some u/\DataW.trod enc P W b0 sp held n f.type [u]=some y:=by
 obtain⟨ys,n,_,_,v,r,q⟩:=DataW.trod_struct g h;obtain⟨p,hk⟩:=hone_of c j f e;have s:=(Array.getElem?_eq_some_iff.1 e).1;have d:j<cs.length:=o_;have h1:=q j f e;have m:(cs.drop j).take 1=[cs[j]]:=by rw[drop_eq_getElem_cons d];rfl
 grind
def MB{t e:TypeId}{fs:Array Field}{cs:List Value}{c:Nat}{x:DataW H×List MemPlace}(ht:P.underlying t=some (.slice e))(E:P.underlying e=some (.struct fs))(b:oneCellFields P fs=true)(z:P.cellsOf e=fs.size)
 (h:DataW.trod enc P W b0 sp held c t cs=some x) :
 cs=[Z]\/∃a len cap,cs=[U (some a) len cap]/\len<=cap/\cap<=maxLen/\∀i,i<len->∀(j:Nat)(f:Field),fs[j]? = some f->∃u n y,W.cell? (a.add (i*fs.size+j))=some u/\DataW.trod enc P W b0 sp held n f.type [u]=some y:=by
 obtain⟨h0,_⟩|⟨a,len,cap,m,n,D,N,p,_,G,F,d,_,hi⟩:=open_slice ht h
 .grind
 .refine .inr ⟨a,_,_,p,G,F,λi M j f v=> ?_⟩;have s:i<m:=r_
  obtain⟨B,A,q⟩:=hi i s;rw[z]at A;obtain⟨_,I,r⟩:=World.cells?_some A;obtain⟨u,C,y,L,J⟩:=tf E b z q j f v;have g:=(Array.getElem?_eq_some_iff.1 v).1;refine⟨u,C,y,?_,J⟩;rw[<-Go.Deep.add_add,r j g,L]
def tW{t e:TypeId}{v:Value}{f:Nat}{x:DataW H×List MemPlace}(ht:P.underlying t=some (.slice e))(p:P.underlying e=some .string)(y:P.cellsOf e=1)(h:DataW.trod enc P W b0 sp held f t [v]=some x) :
 ∃(A:Option Addr)(l:List ByteArray)(c:Nat),v = U A l.length c/\l.length<=c/\c<=maxLen/\Row W W.heap.size A (l.map .string)/\∀s∈l,s.size<=maxLen:=by
 obtain⟨b,_⟩|⟨a,len,cap,zs,b,_,z,q,B,_,m,g⟩:=open_strings ht p y h
 .injection b with b _;exact⟨_,[],0,b,o_,o_,.inl rfl,s_⟩
 .injection b with b _;have d:(zs.take len).length=len:=by grind
  refine⟨some a,zs.take len,_,r_,o_,q,uk λi u n=> ?_,λs r=>g s (mem_of_mem_take r)⟩;grind
def Mt{t e:TypeId}{v:Value}{f:Nat}{x:DataW H×List MemPlace}(ht:P.underlying t=some (.slice e))(p:P.underlying e=some (.int .i64))(r:P.cellsOf e=1)(h:DataW.trod enc P W b0 sp held f t [v]=some x) :
 ∃(A:Option Addr)(l:List Int)(c:Nat),v = U A l.length c/\l.length<=c/\c<=maxLen/\Row W W.heap.size A (l.map (.int .i64)):=by
 obtain⟨b,_⟩|⟨a,len,cap,zs,b,_,s,q,y,_,g,n⟩:=open_ints ht p r h
 .injection b with b _;exact⟨_,[],0,b,o_,o_,.inl rfl⟩
 .injection b with b _;have d:(zs.take len).length=len:=by grind
  refine⟨some a,zs.take len,_,r_,o_,q,uk λi u m=> ?_⟩;grind
end
end Base
namespace Tc
open List Go.ChangeShapes Go.WideShapes Go.ChangeAt Go.RowKit Go.Joins Go.Deep Base
section
variable{α:Type}{f:α->LV}{k:Nat}(hf:∀x,(f x).length=k)
include hf
def iX(l:List α):(l.flatMap f).length=l.length*k:=by
 induction l with
 |nil=>simp
 |cons a l b=>grind
def tj(l:List α)(i:Nat)(h:i<l.length)(j:Nat)(c:j<k):(l.flatMap f)[i*k+j]? = (f l[i])[j]?:= by
 induction l generalizing i with
 |nil=>simp at h
 |cons a l b=>
  rw[flatMap_cons];cases i with
  |zero=>grind
  |succ i=>grind
def Bm(hk:0<k){l:List α}{i:Nat}{v:Value}(h:(l.flatMap f)[i]? = some v):∃hi:i / k<l.length,(f l[i / k])[i % k]? = some v:=by
 have b:=(aO h).1;rw[iX hf]at b;have hi:=(Nat.div_lt_iff_lt_mul hk).2 b;refine⟨hi,?_⟩;have e:=tj hf l _ hi (i % k) (Nat.mod_lt _ hk);rw[Nat.mul_comm,Nat.div_add_mod,h]at e;grind
def Row.rec{w:World}{B:Nat}{A:OA}{l:List α}(h:Row w B A (l.flatMap f))(hk:0<k)(i:Nat)(hi:i<l.length) :
 ∃b off,A=some ⟨b,off,none⟩/\b<B/\∀j v,(f l[i])[j]? = some v->C w b (off+i*k+j) v:=by
 have c:=iX hf l;obtain h|⟨b,off,e,g,m⟩:=h
 .rw[h]at c;have h0:l.length*k=0:=r_
  rcases Nat.mul_eq_zero.1 h0 with h0|h0<;>omega
 .refine⟨b,_,e,g,λj v d=> ?_⟩;have n:j<k:=r_
  rw[Nat.add_assoc];exact m _ _ ((tj hf l i hi j n).trans d)
def tV{H:Type}{s:TypeId×Value->H}{P:Program}{W:World}{D:Nat}{B:Nat->Bool}{d:Bool}{t e:TypeId}{fs:Array Field}{v:Value}{r:Nat}{x:DataW H×List MemPlace}(Q:α->Prop)(hk:0<k)
 (ht:P.underlying t=some (.slice e))(I:P.underlying e=some (.struct fs))(m:oneCellFields P fs=true)(G:P.cellsOf e=fs.size)(L:fs.size=k)
 (q:∀g:Nat->Option Value,(∀(j:Nat)(fd:Field),fs[j]? = some fd->∃u n y,g j=some u/\DataW.trod s P W D B d n fd.type [u]=some y)->∃y:α,(∀j u,(f y)[j]? = some u->g j=some u)/\Q y)
 (h:DataW.trod s P W D B d r t [v]=some x):∃(A:OA)(l:List α)(c:Nat),v = U A l.length c/\l.length<=c/\c<=maxLen/\Row W W.heap.size A (l.flatMap f)/\∀y∈l,Q y:=by
 obtain b|⟨a,len,cap,b,M,J,N⟩:=MB ht I m G h
 .injection b with b _;exact⟨_,[],0,b,o_,o_,.inl rfl,s_⟩
 .injection b with b _;obtain⟨l,z,C⟩:=KP (λi p=>(∀j u,(f p)[j]? = some u->W.cell? _=some u)/\Q p) len (λi hi=>q (λj=>W.cell? (a.add (i*k+j))) (λj fd E=>r_))
  refine⟨some a,l,_,r_,o_,J,uk λi u R=> ?_,λp F=> ?_⟩
  .obtain⟨hi,O⟩:=Bm hf hk R;have:=(C _ hi).1 _ u O;rw[Nat.mul_comm,Nat.div_add_mod]at this;omega
  .obtain⟨i,hi,rfl⟩:=getElem_of_mem F;grind
end
structure dU where
 name:ByteArray
 At:OA
 ar:List ByteArray
 ct:Nat
 Au:OA
 up:List Int
 cu:Nat
def uC(t:dU):LV:=[T t.name,U t.At t.ar.length t.ct,U t.Au t.up.length t.cu]
def yW t:(uC t).length=3:=rfl
structure iV(w:World)(B:Nat)(t:dU):Prop where
 name:t.name.size<=maxLen
 ar:Row w B t.At (t.ar.map .string)
 up:Row w B t.Au (t.up.map (.int .i64))
 nt:t.ar.length<=maxLen
 nu:t.up.length<=maxLen
 sz:∀s∈t.ar,s.size<=maxLen
structure au where
 name:ByteArray
 A:OA
 ai:List dU
 c:Nat
def sZ(d:au):LV:=[T d.name,U d.A d.ai.length d.c]
def mT d:(sZ d).length=2:=rfl
structure dB(w:World)(B:Nat)(d:au):Prop where
 name:d.name.size<=maxLen
 n:d.ai.length<=maxLen
 row:Row w B d.A (d.ai.flatMap uC)
 ai:∀t∈d.ai,iV w B t
structure aN where
 A:OA
 af:List au
 c:Nat
 Am:OA
 aC:List ByteArray
 cm:Nat
def Pw(s:aN):Value:= .agg #[U s.A s.af.length s.c,U s.Am s.aC.length s.cm]
structure cQ(w:World)(B:Nat)(s:aN):Prop where
 n:s.af.length<=maxLen
 row:Row w B s.A (s.af.flatMap sZ)
 af:∀d∈s.af,dB w B d
 nm:s.aC.length<=maxLen
 aC:Row w B s.Am (s.aC.map .string)
 sz:∀x∈s.aC,x.size<=maxLen
section
variable{w w':World}{B:Nat}
def iV.below{t:dU}(h:iV w B t)(b:Below B w w'):iV w' B t:=⟨h.name,h.ar.below b,h.up.below b,h.nt,h.nu,h.sz⟩
def iV.more{t:dU}{b:Nat}(h:iV w B t)(c:B<=b):iV w b t:=⟨h.name,h.ar.more c,h.up.more c,h.nt,h.nu,h.sz⟩
def dB.below{d:au}(h:dB w B d)(b:Below B w w'):dB w' B d:=⟨h.name,h.n,h.row.below b,λt ht=>(h.ai t ht).below b⟩
def dB.more{d:au}{c:Nat}(h:dB w B d)(b:B<=c):dB w c d:=⟨h.name,h.n,h.row.more b,λt ht=>(h.ai t ht).more b⟩
def cQ.below{s:aN}(h:cQ w B s)(b:Below B w w'):cQ w' B s:=⟨h.n,h.row.below b,λd hd=>(h.af d hd).below b,h.nm,h.aC.below b,h.sz⟩
def cQ.more{s:aN}{c:Nat}(h:cQ w B s)(b:B<=c):cQ w c s:=⟨h.n,h.row.more b,λd hd=>(h.af d hd).more b,h.nm,h.aC.more b,h.sz⟩
end
def dB.cU{w B d}(h:dB w B d) k(hk:k<d.ai.length) :
 ∃b off,d.A=some ⟨b,off,none⟩/\b<B/\C w b (off+k*3) (T d.ai[k].name)/\C w b (off+k*3+1) (U d.ai[k].At d.ai[k].ar.length d.ai[k].ct)/\C w b (off+k*3+2) (U d.ai[k].Au d.ai[k].up.length d.ai[k].cu):=by
 obtain⟨b,off,e,f,c⟩:=Row.rec yW h.row o_ k hk;exact⟨b,_,e,f,c 0 _ rfl,c 1 _ rfl,c 2 _ rfl⟩
def cQ.aj{w B s}(h:cQ w B s) k(hk:k<s.af.length) :
 ∃b off,s.A=some ⟨b,off,none⟩/\b<B/\C w b (off+k*2) (T s.af[k].name)/\C w b (off+k*2+1) (U s.af[k].A s.af[k].ai.length s.af[k].c):=by
 obtain⟨b,off,e,f,d⟩:=Row.rec mT h.row o_ k hk;exact⟨b,_,e,f,d 0 _ rfl,d 1 _ rfl⟩
structure Rw where
 A:OA
 ar:List ByteArray
 c:Nat
 Av:OA
 cj:List Int
 cv:Nat
def ur(r:Rw):LV:=[U r.A r.ar.length r.c,U r.Av r.cj.length r.cv]
def Eg r:(ur r).length=2:=rfl
structure kQ(w:World)(B:Nat)(r:Rw):Prop where
 n:r.ar.length<=maxLen
 ar:Row w B r.A (r.ar.map .string)
 sz:∀s∈r.ar,s.size<=maxLen
 nv:r.cj.length<=maxLen
 cj:Row w B r.Av (r.cj.map (.int .i64))
 wf:∀n∈r.cj,(Lit.int .i64 n).wf=true
def kQ.below{w w' B r}(h:kQ w B r)(b:Below B w w'):kQ w' B r:=⟨h.n,h.ar.below b,h.sz,h.nv,h.cj.below b,h.wf⟩
def kQ.more{w B c r}(h:kQ w B r)(b:B<=c):kQ w c r:=⟨h.n,h.ar.more b,h.sz,h.nv,h.cj.more b,h.wf⟩
structure Pos where
 cU:Int
 key:Int
section
variable{H:Type}{enc:TypeId×Value->H}{W:World}{b0:Nat}{sp:Nat->Bool}{held:Bool}{fuel:Nat}{x:DataW H×List MemPlace}{v:Value}
def MC(h:DataW.trod enc Tryz.prog W b0 sp held fuel 68 [v]=some x) :
 ∃(A:OA)(l:List dU)(c:Nat),v = U A l.length c/\l.length<=c/\c<=maxLen/\Row W W.heap.size A (l.flatMap uC)/\∀t∈l,iV W W.heap.size t:=by
 refine tV yW _ o_ Tryz.underlying68 Tryz.underlying104 k_ k_ rfl (λg p=> ?_) h;obtain⟨F,n0,J,c0,D⟩:=p 0 _ rfl;obtain⟨C,z,_,m⟩:=DataW.trod_string Tryz.underlying9 D;obtain⟨G,n1,I,c1,t1⟩:=p 1 _ rfl;obtain⟨A1,y,E,rfl,q,d,s,r⟩:=tW Tryz.underlying23 Tryz.underlying9 k_ t1;obtain⟨L,n2,H,c2,t2⟩:=p 2 _ rfl;obtain⟨A2,l2,B,rfl,f,e,n⟩:=Mt Tryz.underlying84 Tryz.underlying3 k_ t2;cases z;refine⟨⟨C,_,y,E,_,_,B⟩,λj u b=> ?_,m,s,n,o_,o_,r⟩;match j,b with
 |0,b=>cases b;omega
 |1,b=>cases b;omega
 |2,b=>cases b;omega
 |j+3,b=>trivial
def Ms(h:DataW.trod enc Tryz.prog W b0 sp held fuel 22 [v]=some x) :
 ∃(A:OA)(l:List au)(c:Nat),v = U A l.length c/\l.length<=c/\c<=maxLen/\Row W W.heap.size A (l.flatMap sZ)/\∀t∈l,dB W W.heap.size t:=by
 refine tV mT _ o_ Tryz.underlying22 Tryz.underlying70 k_ k_ rfl (λg p=> ?_) h;obtain⟨B,n0,E,c0,y⟩:=p 0 _ rfl;obtain⟨s,r,_,e⟩:=DataW.trod_string Tryz.underlying9 y;obtain⟨C,n1,D,c1,t1⟩:=p 1 _ rfl;obtain⟨A1,q,z,rfl,f,d,n,m⟩:=MC t1;cases r;refine⟨⟨s,_,q,z⟩,λj u b=> ?_,e,o_,n,m⟩;match j,b with
 |0,b=>cases b;omega
 |1,b=>cases b;omega
 |j+2,b=>trivial
def MD{t e:TypeId}(ht:Tryz.prog.underlying t=some (.slice e))(p:Tryz.prog.underlying e=some (.int .i64))(r:Tryz.prog.cellsOf e=1)(h:DataW.trod enc Tryz.prog W b0 sp held fuel t [v]=some x) :
 ∃(A:OA)(l:List Int)(c:Nat),v = U A l.length c/\l.length<=c/\c<=maxLen/\Row W W.heap.size A (l.map (.int .i64))/\∀n∈l,(Lit.int .i64 n).wf=true:=by
 obtain⟨b,_⟩|⟨a,len,cap,zs,b,_,s,q,z,_,g,f⟩:=open_ints ht p r h
 .injection b with b _;exact⟨_,[],0,b,o_,o_,.inl rfl,s_⟩
 .injection b with b _;have d:(zs.take len).length=len:=by grind
  refine⟨some a,zs.take len,_,r_,o_,q,uk λi u m=> ?_,λn y=>f n (mem_of_mem_take y)⟩;grind
def My(h:DataW.trod enc Tryz.prog W b0 sp held fuel 26 [v]=some x) :
 ∃(A:OA)(l:List Rw)(c:Nat),v = U A l.length c/\l.length<=c/\c<=maxLen/\Row W W.heap.size A (l.flatMap ur)/\∀t∈l,kQ W W.heap.size t:=by
 refine tV Eg _ o_ Tryz.underlying26 Tryz.underlying83 k_ k_ rfl (λg s=> ?_) h;obtain⟨E,n0,H,c0,C⟩:=s 0 _ rfl;obtain⟨A0,z,y,rfl,n,e,f,m⟩:=tW Tryz.underlying23 Tryz.underlying9 k_ C;obtain⟨F,n1,G,c1,t1⟩:=s 1 _ rfl;obtain⟨A1,B,D,rfl,p,d,r,q⟩:=MD Tryz.underlying81 Tryz.underlying2 k_ t1;refine⟨⟨_,z,y,_,B,D⟩,λj u b=> ?_,o_,f,m,o_,r,q⟩;match j,b with
 |0,b=>cases b;omega
 |1,b=>cases b;omega
 |j+2,b=>trivial
def Mz{base:Nat}{d:DataW H}{p:List MemPlace}(C:Value.okWide Tryz.prog W .any base 25 v)(h:DataW.Trod enc Tryz.prog W 0 (λ_=>true) true 25 v d p):∃s,v=Pw s/\cQ W W.heap.size s:=by
 obtain⟨cs,rfl,e⟩:=okWide_struct Tryz.underlying25 C;have D:cs.size=2:=e.trans k_;obtain⟨l⟩:=cs;match l,D with
 | [V,T],_=>
  obtain⟨z,x⟩:=h;obtain⟨u,n,y,B,M⟩:=tf Tryz.underlying25 k_ k_ x 0 _ rfl;obtain⟨U,R,O,b,q⟩:=tf Tryz.underlying25 k_ k_ x 1 _ rfl;simp[Value.cells]at B b;subst B b;obtain⟨A,l,c,rfl,I,F,N,G⟩:=Ms M;obtain⟨E,L,J,rfl,g,m,f,r⟩:=tW Tryz.underlying23 Tryz.underlying9 k_ q;exact⟨⟨A,l,c,E,L,J⟩,rfl,o_,N,G,o_,f,r⟩
end
end Tc
namespace Base
open List Go.RowKit
section
variable{P:Program}
def Pf(w:World)(base:Nat)(t ty e:TypeId)(i:TypeInfo)(size c:Nat)(ht:P.underlying t=some (.slice e))(hi:P.info? e=some i)
 (v:Value)(n:Nat)(xs:List Value)(b:w.ownsRow base e size v n xs) :
 (Builtin.append_ #[t,t] ty #[v,.slice none 0 c]).run P w = .ok v w:=by
 obtain⟨rfl,rfl⟩|⟨g,cap,cur,rfl,_,_,d,_⟩:=b.2
 .simp[Builtin.append_,run_underlying ht,sizeOf,typeInfo,hi,Builtin.lenOf,Builtin.firstCells]
 .simp[Builtin.append_,run_underlying ht,sizeOf,typeInfo,hi,Builtin.lenOf,Builtin.firstCells,d,storeCells]
def Pe(w:World)(base:Nat)(t ty e:TypeId)(i:TypeInfo)(z:Value)(size bytes:Nat)(ht:P.underlying t=some (.slice e))(hi:P.info? e=some i)(J:i.zero=some z)
 (q:i.size=size)(G:i.bytes=bytes)(F:z.cells.size=size)(E:0<size)
 (v:Value)(n:Nat)(xs:List Value)(f:w.ownsRow base e size v n xs)(A:Option Addr)(m c B:Nat)(d:List Value)(M:d.length=m*size)(s:Row w B A d)(h1:∀u∈d,u.oneCell'=true)
 (T:n+m<1048576*64)(L:bytes<=256)(g:base<=w.heap.size) :
 ∃x w',(Builtin.append_ #[t,t] ty #[v,U A m c]).run P w = .ok x w'/\w'.ownsRow base e size x (n+m) (xs++d)/\App w w' v x:=by
 obtain _|⟨b,off,p⟩:=A
 .have y:d=[]:=by
   obtain s|⟨b,off,C,_⟩:=s
   . omega
   .cases C
  subst y;obtain rfl:m=0:=by
   have h0:m*size=0:=by grind
   obtain h|h:=Nat.mul_eq_zero.1 h0
   . omega
   .omega
  refine⟨v,w,Pf w _ t _ e i _ c ht hi v n _ f,o_,⟨World.grownBy.refl w _,.inl rfl⟩⟩
 .have r:∀j u,d[j]? = some u->w.cell? ((⟨b,off,p⟩:Addr).add j)=some u:=by
   intro j u H;obtain rfl|⟨R,I,C,_,N⟩:=s
   .grind
   .simp at C;obtain⟨rfl,rfl,rfl⟩:=C;rw[jS];grind
  obtain⟨x,w',s,h2,O,_,D⟩:=run_append_own_at w _ t ty e i z _ _ ht hi J q G F E v n _ f _ m c d M r h1 (by unfold maxLen;omega)
   (by have:(n+m)*bytes<=(1048576*64)*256:=Nat.mul_le_mul o_ L;omega) g
  refine⟨x,_,s,h2,O,?_⟩;grind
def Fu{o:Oper}{a:Act}{K:Act->World->Prop}{Q:Exit->Act->World->Prop}(s x:Operand)(t:TypeId)
 (D:o.op = .call { callee:= .builtin .append,args:=#[s,x],argTypes:=#[t,t] })
 (base:Nat)(e:TypeId)(i:TypeInfo)(z:Value)(size bytes:Nat)(ht:P.underlying t=some (.slice e))(hi:P.info? e=some i)(E:i.zero=some z)
 (f:i.size=size)(C:i.bytes=bytes)(y:z.cells.size=size)(r:0<size)
 (w:World)(v:Value)(n:Nat)(xs:List Value)(F:a.eval s=v)(g:w.ownsRow base e size v n xs)
 (A:Option Addr)(m c B:Nat)(b:List Value)(hx:a.eval x = U A m c)(H:b.length=m*size)(J:Row w B A b)(h1:∀u∈b,u.oneCell'=true)
 (L:n+m<1048576*64)(G:bytes<=256)(d:base<=w.heap.size)
 (h:∀p w',w'.ownsRow base e size p (n+m) (xs++b)->App w w' v p->K (a.put o.dst p) w') :
 o.wp P a w K Q:=by
 obtain⟨p,w',q,h2,I⟩:=Pe w _ t o.type e i z _ _ ht hi E f C y r v n _ g A m c B b H J h1 L G d;unfold Oper.wp execOp;simp only[D,resolve,invoke,builtin,Sem.run_bind,Sem.run_pure,Result.andThen_ok,map_toArray,map_cons,map_nil,F,hx,q];exact h p _ h2 I
def nL{p:Array Oper}{d:List Oper}{o:Oper}{a:Act}{Q:Exit->Act->World->Prop}(C:o.guard=none)(s x:Operand)(t:TypeId)
 (F:o.op = .call { callee:= .builtin .append,args:=#[s,x],argTypes:=#[t,t] })
 (base:Nat)(e:TypeId)(i:TypeInfo)(z:Value)(size bytes:Nat)(ht:P.underlying t=some (.slice e))(hi:P.info? e=some i)(G:i.zero=some z)
 (g:i.size=size)(E:i.bytes=bytes)(D:z.cells.size=size)(y:0<size)
 (w:World)(v:Value)(n:Nat)(xs:List Value)(H:a.eval s=v)(q:w.ownsRow base e size v n xs)
 (A:Option Addr)(m c B:Nat)(b:List Value)(hx:a.eval x = U A m c)(J:b.length=m*size)(M:Row w B A b)(h1:∀u∈b,u.oneCell'=true)
 (N:n+m<1048576*64)(I:bytes<=256)(f:base<=w.heap.size)
 (h:∀r w',w'.ownsRow base e size r (n+m) (xs++b)->App w w' v r->wpList P p Q d (a.put o.dst r) w') :
 wpList P p Q (o::d) a w:=by
 refine wpList_plain C λK hK=> ?_;exact Fu s x t F _ e i z _ _ ht hi G g E D y w v n _ H q A m c B b hx J M h1 N I f λr w' h2 L=>hK _ _ (h r _ h2 L)
end
section
variable{P:Program}
def zX{wr w' o v d}(h:App (wr.alloc o) w' v d):App wr w' v d:=by
 have h2:=h.grown;refine⟨⟨h2.os,h2.tape,h2.output,Nat.le_trans s_ h2.size,λk hk b=>(h2.block k o_ b).trans (Below.heap_alloc _ _ _ hk)⟩,?_⟩;obtain c|⟨k,c,e⟩:=h.j4
 .grind
 .exact .inr ⟨k,c,Nat.le_trans s_ e⟩
def uj(wr:World) cs e:Row (wr.alloc (.cells cs e)) (wr.alloc (.cells cs e)).heap.size (some ⟨wr.heap.size,0,none⟩) cs.toList:=by
 refine .inr ⟨_,0,rfl,s_,λi v b=> ?_⟩;rw[(aa.new _ e _).cell,Nat.zero_add];grind
def Fq{o:Oper}{a:Act}{K:Act->World->Prop}{Q:Exit->Act->World->Prop}(s x:Operand)(t:TypeId)
 (y:o.op = .call { callee:= .builtin .append,args:=#[s,x],argTypes:=#[t,t] })
 (base:Nat)(e:TypeId)(i:TypeInfo)(z:Value)(size bytes:Nat)(ht:P.underlying t=some (.slice e))(hi:P.info? e=some i)(A:i.zero=some z)
 (b:i.size=size)(r:i.bytes=bytes)(p:z.cells.size=size)(f:0<size)
 (wr:World)(cs:Array Value)(m:cs.size=size)(q:∀u∈cs.toList,u.oneCell'=true)(v:Value)(n:Nat)(xs:List Value)(B:a.eval s=v)(c:wr.ownsRow base e size v n xs)
 (hx:a.eval x = U (some ⟨wr.heap.size,0,none⟩) 1 1)
 (E:n+1<1048576*64)(C:bytes<=256)(g:base<=wr.heap.size)
 (h:∀d w',w'.ownsRow base e size d (n+1) (xs++cs.toList)->App wr w' v d->K (a.put o.dst d) w') :
 o.wp P a (wr.alloc (.cells cs e)) K Q:=
 Fu s x t y _ e i z _ _ ht hi A b r p f _ v n _ B (c.alloc _) _ 1 1 _ _ hx o_ (uj _ _ e) q E C o_ λd w' h2 D=>h d _ h2 (zX D)
def je{f:Array Oper}{b:List Oper}{o:Oper}{a:Act}{Q:Exit->Act->World->Prop}(r:o.guard=none)(s x:Operand)(t:TypeId)
 (C:o.op = .call { callee:= .builtin .append,args:=#[s,x],argTypes:=#[t,t] })
 (base:Nat)(e:TypeId)(i:TypeInfo)(z:Value)(size bytes:Nat)(ht:P.underlying t=some (.slice e))(hi:P.info? e=some i)(D:i.zero=some z)
 (d:i.size=size)(B:i.bytes=bytes)(y:z.cells.size=size)(p:0<size)
 (wr:World)(cs:Array Value)(q:cs.size=size)(A:∀u∈cs.toList,u.oneCell'=true)(v:Value)(n:Nat)(xs:List Value)(E:a.eval s=v)(g:wr.ownsRow base e size v n xs)
 (hx:a.eval x = U (some ⟨wr.heap.size,0,none⟩) 1 1)
 (H:n+1<1048576*64)(F:bytes<=256)(c:base<=wr.heap.size)
 (h:∀m w',w'.ownsRow base e size m (n+1) (xs++cs.toList)->App wr w' v m->wpList P f Q b (a.put o.dst m) w') :
 wpList P f Q (o::b) a (wr.alloc (.cells cs e)):=by
 refine wpList_plain r λK hK=> ?_;exact Fq s x t C _ e i z _ _ ht hi D d B y p _ _ q A v n _ E g hx H F c λm w' h2 G=>hK _ _ (h m _ h2 G)
def rS{d:Array Oper}{o:Oper}{a:Act}{K:Act->World->Prop}{Q:Exit->Act->World->Prop}{E:Prop}(q:o.guard=none)(s x:Operand)(t:TypeId)
 (B:o.op = .call { callee:= .builtin .append,args:=#[s,x],argTypes:=#[t,t] })
 (base:Nat)(e:TypeId)(i:TypeInfo)(z:Value)(size bytes:Nat)(ht:P.underlying t=some (.slice e))(hi:P.info? e=some i)(C:i.zero=some z)
 (c:i.size=size)(A:i.bytes=bytes)(r:z.cells.size=size)(g:0<size)
 (wr:World)(cs:Array Value)(m:cs.size=size)(y:∀u∈cs.toList,u.oneCell'=true)(v:Value)(n:Nat)(xs:List Value)(D:a.eval s=v)(f:wr.ownsRow base e size v n xs)
 (hx:a.eval x = U (some ⟨wr.heap.size,0,none⟩) 1 1)
 (G:n+1<1048576*64)(F:bytes<=256)(b:base<=wr.heap.size)
 (h:∀p w',w'.ownsRow base e size p (n+1) (xs++cs.toList)->App wr w' v p->K (a.put o.dst p) w') :
 if Region.wanted o (yielded d a.tmps)=true then o.wp P a (wr.alloc (.cells cs e)) K Q else E:=by
 have H:Region.wanted o (yielded d a.tmps)=true:=by simp[Region.wanted,q]
 rw[if_pos H];exact Fq s x t B _ e i z _ _ ht hi C c A r g _ _ m y v n _ D f hx G F b h
end
section
variable{wr w':World}{v v':Value}{base:Nat}{e:TypeId}{size n:Nat}{xs:List Value}
def App.ew{B:Nat}{a:World}(h:App wr w' v v')(d:Below B a wr)(b:wr.ownsRow base e size v n xs)(f:B<=base)(c:B<=wr.heap.size):Below B a w':=
 d.grown h.grown c (λk hk=>Nat.le_trans f (b.lt k hk).1)
def App.bI{k:Nat}(h:App wr w' v v')(hk:k<wr.heap.size)(b:v.ownBlock≠some k):w'.heap[k]? = wr.heap[k]?:= h.grown.block k hk (λe=>b e.symm)
def cI(h:wr.ownsRow base e size v n xs):∃A c,v = U A n c:=by
 obtain⟨rfl,rfl⟩|⟨g,cap,cur,rfl,_⟩:=h.2
 .grind
 .grind
def dF{A:Option Addr}{c:Nat}(h:wr.ownsRow base e size (U A n c) n xs):Row wr wr.heap.size A xs:=by
 obtain⟨h1,h0⟩|⟨g,cap,cur,b,_,d,_⟩:=h.2
 .left;have:=h.1;rw[h0]at this;grind
 .cases b;refine .inr ⟨g,0,rfl,(h.lt g rfl).2,λi v b=> ?_⟩;have:=h.cells (g:=g) rfl i v b;rw[jS]at this;omega
def Row.app{B:Nat}{A:Option Addr}{c:List Value}(f:Row wr B A c)(h:App wr w' v v')(p:B<=wr.heap.size)(d:∀b off,A=some ⟨b,off,none⟩->c≠[]->v.ownBlock≠some b):Row w' B A c:=by
 obtain f|⟨b,off,e,g,m⟩:=f
 .exact .inl f
 .by_cases h0:c=[]
  .exact .inl h0
  .refine .inr ⟨b,_,e,g,λi u n=> ?_⟩;have:=m i u n;unfold World.cell? at this⊢;rw[(h.bI (by omega) (d b _ e h0))];omega
end
end Base
end Go.Proofs.YtibjlpkpljnicaaGreatDoor
