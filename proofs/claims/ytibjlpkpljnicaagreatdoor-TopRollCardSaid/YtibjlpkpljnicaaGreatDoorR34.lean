/- Parts. -/
import Derived.Test.YtibjlpkpljnicaaGreatDoorR26
import Derived.Sort.KeysCollected
set_option maxRecDepth 100000
set_option maxHeartbeats 8000000
set_option linter.all false
namespace Go.Proofs.YtibjlpkpljnicaaGreatDoor
namespace Tc
open List Go.RowKit Base Go.Maps Go.WideMaps Go.Proofs.Tryz
def mR(v:Value):Option (DataW Value×List MemPlace):=some (.held v,[])
abbrev aY(w:World)(k:TypeId)(b n:Nat)(D:DataW Value):Prop:=w.ownsMap prog k mR b n D
section
variable{w w':World}{k t e:TypeId}{b n:Nat}{D:DataW Value}{z key val:Value}{kl:Lit}
def aY.same(h:aY w k b n D)(c:w'.heap[b]? = w.heap[b]?):aY w' k b n D:=by
 obtain⟨d,cl,h1,h2⟩:=h;exact⟨d,_,c.trans h1,h2⟩
def aY.tight(h:aY w k b n D):aY w k b (Maps.size D) D:=by
 obtain⟨c,cl,h1,h2,e,rfl⟩:=h;refine⟨c,_,h1,h2,?_,rfl⟩;have d:Maps.size (DataW.map ((c.toList.map (WideElems.rg prog k mR)).foldr DataW.insert []))=c.size:=by simp[Maps.size,length_sorted]
 omega
def aY.look(h:aY w k b n D)(K:Keyed prog k)(ht:prog.underlying t=some (.map k e))(d:(zeroValue e).run prog w = .ok z w)(c:keyOf prog k key=some kl) :
 ∃v,(Instr.lookup t (.map (some b)) key true).run prog w = .ok (.tuple #[v,.bool (has D kl)]) w/\D.atKey kl (.held z) = .held v/\(has D kl=false->v=z):=by
 obtain⟨v,ps,h1,h2⟩:=h.look_ok K ht d rfl c;injection h2 with h2;injection h2 with h2 g;refine⟨v,h1,h2.symm,λf=> ?_⟩;rw[atKey_of_not_has f]at h2;grind
end
def CS:∀(N:Nat)(l:LN),l.Nodup->(∀x∈l,x<N)->l.length<=N
 |0,l,_,h=>by
  cases l with
  |nil=>exact ae _
  |cons a l=>exact absurd (h a mem_cons_self) o_
 |N+1,l,c,h=>by
  have h1:=CS N _ (c.erase N) (λx hx=>r_)
  grind
def xT:Lit->Nat
 | .int _ x=>x.toNat
 |_=>0
def aY.ints{w b n D}(h:aY w 3 b n D):∃d,D = .map d/\∀p∈d,∃a:Int,p.1 = .int .i64 a:=by
 obtain⟨d,e,hk⟩:=h.keysOf;refine⟨d,e,λp f=> ?_⟩;obtain⟨key,c⟩:=hk p f;cases key<;>simp[keyOf,mapKey]at c;grind
def aY.strs{w b n D}(h:aY w 9 b n D):∃d,D = .map d/\∀p∈d,∃x:List UInt8,p.1 = .string x:=by
 obtain⟨d,e,hk⟩:=h.keysOf;refine⟨d,e,λp f=> ?_⟩;obtain⟨key,c⟩:=hk p f;obtain⟨x,_,e,_⟩:=Maps.keyOf_str underlying9 c;grind
def aY.dw{w b n N D}(h:aY w 3 b n D)(hk:∀kl,has D kl=true->∃i:Nat,i<N/\kl = .int .i64 (i:Nat)):Maps.size D<=N:=by
 obtain⟨m,d,c⟩:=h.tidy lL;obtain⟨g,rfl,u⟩:=h.ints;injection d with d;subst d;have H:∀p∈g,∃i:Nat,i<N/\p.1 = .int _ _:=λp c=>by
  apply hk _;obtain⟨a,y⟩:=u p c;rw[has_eq,any_eq_true];exact⟨p,c,by rw[y];simp[Lit.sameKey]⟩
 show g.length<=N;have:=CS N (g.map λp=>xT p.1) (by
  rw[nodup_iff_pairwise_ne,pairwise_map];refine c.imp_of_mem λ{p q} c s f e=>f ?_;obtain⟨i,_,r⟩:=H p c;obtain⟨j,_,v⟩:=H q s;rw[r,v]at e⊢;have:i=j:=by trivial
  rw[this]) (λx hx=>by
  obtain⟨p,c,rfl⟩:=mem_map.1 hx;obtain⟨i,hi,e⟩:=H p c;rw[e];trivial)
 grind
structure jL(D:DataW Value)(tx:Nat->Option ByteArray):Prop where
 map:IsMap D
 ok:∀kl,has D kl=true->∃(i:Nat)(s:ByteArray),i<4096/\kl = .int .i64 (i:Nat)/\tx i=some s/\D.atKey kl (.held (.string ByteArray.empty)) = .held (.string s)
def jL.nil tx:jL (.map []) tx:=⟨isMap_empty,λkl h=>by cases h⟩
def jL.put{D tx}(h:jL D tx){i s}(hi:i<4096)(c:tx i=some s):jL (D.put (.int .i64 (i:Nat)) (.held (.string s))) tx:=by
 have f:WideAt.IsKeyLit (.int .i64 i):=trivial;refine⟨h.map.put _ _,λkl hk=> ?_⟩;by_cases e:kl = .int .i64 (i:Nat)
 .subst e;exact⟨i,s,hi,rfl,c,atKey_put_same h.map f _ _⟩
 .rw[has_put_other e]at hk;obtain⟨j,d,h1,h2,g,b⟩:=h.ok _ hk;exact⟨j,d,h1,h2,g,by rw[atKey_put_other e];omega⟩
def jL.del{D tx}(h:jL D tx) k:jL (D.del k) tx:=by
 refine⟨h.map.del _,λkl hk=> ?_⟩;by_cases e:kl=k
 .subst e;rw[has_del_same]at hk;cases hk
 .rw[has_del_other e]at hk;obtain⟨j,b,h1,h2,d,c⟩:=h.ok _ hk;exact⟨j,b,h1,h2,d,by rw[atKey_del_other e];omega⟩
def kB(A:OA)(n c:Nat)(g:Ag):Value:= .agg #[U A n c,I g.c,I g.s0,I g.n0,I g.x0,I g.s1,I g.n1,I g.x1,I g.s2,I g.n2,I g.x2]
abbrev nZ:Value:=kB none 0 0 az
abbrev gJ(key:LN):Lit:= .string (cS key)
def lz(wd:Nat)(key:LN):Prop:=key.length=wd/\∀y∈key,y<200
def BD{wd a b}(c:lz wd a)(d:lz wd b)(h:gJ a=gJ b):a=b:=by
 injection h with h;exact BE (c.1.trans d.1.symm) c.2 d.2 h
structure fV(w:World)(D:DataW Value)(P:List (LN×Ag))(wd:Nat)(U:Nat->Prop):Prop where
 map:IsMap D
 only:∀kl,has D kl=true->∃x∈P,kl=gJ x.1
 key:∀x∈P,lz wd x.1
 each:∀x∈P,has D (gJ x.1)=true/\∃A c g,D.atKey (gJ x.1) (.held nZ) = .held (kB A x.1.length c g)/\bW (λk=>k == x.1) P=some g/\Row w w.heap.size A (an x.1)/\x.1.length<=c/\∀k,cE A (an x.1) k->U k
section
variable{w w':World}{D:DataW Value}{P:List (LN×Ag)}{wd:Nat}{U U':Nat->Prop}
def fV.nil w wd U:fV w (.map []) [] wd U:=⟨isMap_empty,λkl h=>(by cases h),λx h=>r_,λx h=>r_⟩
def fV.same(h:fV w D P wd U)(e:w.heap.size<=w'.heap.size)(m:∀k,U k->k<w.heap.size->w'.heap[k]? = w.heap[k]?)(f:∀k,U k->U' k):fV w' D P wd U':=
 ⟨h.map,h.only,h.key,λx hx=>by
  obtain⟨h1,A,c,g,h2,p,b,n,d⟩:=h.each x hx;exact⟨h1,A,c,g,h2,p,(fO b (λk hk=>m k (d k hk) (Row.bU b hk))).more e,n,λk hk=>f k (d k hk)⟩⟩
def fV.BC(h:fV w D P wd U){key:LN}(hk:lz wd key):has D (gJ key)=true↔∃x∈P,x.1=key:=by
 constructor
 .intro b;obtain⟨x,hx,e⟩:=h.only _ b;exact⟨x,hx,(BD hk (h.key x hx) e).symm⟩
 .rintro⟨x,hx,rfl⟩;exact(h.each x hx).1
def fV.bJ(h:fV w D P wd U){key:LN}(hk:lz wd key){v:Value}(b:D.atKey (gJ key) (.held nZ) = .held v)(e:has D (gJ key)=false->v=nZ):∃A n c g,v=kB A n c g/\bW (λk=>k == key) P=some g:=by
 by_cases d:has D (gJ key)=true
 .obtain⟨x,hx,rfl⟩:=(h.BC hk).1 d;obtain⟨_,A,c,g,h2,f,_⟩:=h.each x hx;grind
 .refine⟨_,0,0,_,e r_,Qu λhx=>d ((h.BC hk).2 hx)⟩
def fV.put(h:fV w D P wd U)(F:w.heap.size<=w'.heap.size)(z:∀k,U k->k<w.heap.size->w'.heap[k]? = w.heap[k]?)(I:∀k,U k->U' k){key:LN}(hk:lz wd key){a r:Ag}(B:bW (λk=>k == key) (P++[(key,a)])=some r){A:OA}{c:Nat}(m:Row w' w'.heap.size A (an key))(v:key.length<=c)(H:∀k,cE A (an key) k->U' k) :
 fV w' (D.put (gJ key) (.held (kB A key.length c r))) (P++[(key,a)]) wd U':=by
 have s:WideAt.IsKeyLit (gJ key):=trivial;have d:∀x∈P++[(key,a)],lz _ _:=λx hx=>by
  obtain hx|hx:=mem_append.1 hx
  .exact h.key x hx
  grind
 refine⟨h.map.put _ _,λkl f=> ?_,d,λx hx=> ?_⟩
 .by_cases e:kl=gJ key
  .exact⟨_,mem_append_right _ mem_cons_self,e⟩
  .rw[has_put_other e]at f;obtain⟨x,hx,p⟩:=h.only _ f;grind
 .by_cases e:x.1=key
  .rw[e];exact⟨has_put_same h.map s _,A,c,r,atKey_put_same h.map s _ _,B,m,v,H⟩
  .have n:x∈P:=r_
   have b:gJ _≠gJ _:=λp=>e (BD (h.key x n) hk p);obtain⟨h1,y,G,g,h2,E,u,C,q⟩:=h.each x n;exact⟨by rw[has_put_other b];omega,y,G,g,by rw[atKey_put_other b];omega,by rw[Qv e];omega,(fO u (λk hk=>z k (q k hk) (Row.bU u hk))).more F,C,λk hk=>I k (q k hk)⟩
end
def JG{wd a b}(d:lz wd a)(e:lz wd b)(h:cS a<=cS b)(c:cS a≠cS b):aI a b<0:=by
 obtain h1|h1|h1:=Int.lt_trichotomy (aI a b) 0
 .omega
 .exact absurd (congrArg _ (nW h1)) c
 .have h2:=jU a b;have f:=tw (e.1.trans d.1.symm) e.2 d.2 (by omega);grind
def fV.keys{w w0 b n D P wd U}(h:fV w D P wd U)(hm:aY w0 9 b n D){ss:List (List UInt8)}(hp:ss.Perm (Go.strKeys D)) :
 ∃ks:List LN,ss.mergeSort (λx y=>decide (x<=y))=ks.map cS/\ks.Pairwise (λa b=>aI a b<0)/\∀key,key∈ks↔∃x∈P,x.1=key:=by
 obtain⟨es',e',hpw⟩:=hm.tidy jH;obtain⟨es,rfl,hI⟩:=hm.strs;injection e' with e'
 subst e'
 have hes:∀p∈es,∃x∈P,p.1=gJ _:=λp hp=>h.only _ (by
  obtain⟨a,ea⟩:=hI p hp;rw[has_eq,any_eq_true]
  exact⟨p,hp,by rw[ea];simp[Lit.sameKey]⟩)
 have hk:∀p∈es,∃x,p.1 = .string x:=o_
 have hperm:=(mergeSort_perm _ (λx y=>decide (x<=y))).trans hp;have hnd:(Go.strKeys (.map es)).Nodup:=by
  show(es.map λp=>Go.strOf p.1).Nodup;rw[nodup_iff_pairwise_ne,pairwise_map];refine hpw.imp_of_mem λ{p q} hp' hq' hne e=>hne ?_
  obtain⟨a,ha⟩:=hk p hp';obtain⟨b,hb⟩:=hk q hq';rw[ha,hb]at e⊢;exact congrArg _ e
 have hmem:∀s,s∈ss.mergeSort (λx y=>decide _)↔∃x∈P,s=cS x.1:=λs=>by
  rw[hperm.mem_iff];show s∈es.map (λp=>Go.strOf p.1)↔_;rw[mem_map];constructor
  .rintro⟨p,hp',rfl⟩;obtain⟨x,hx,e⟩:=hes p hp';exact⟨x,hx,by rw[e];rfl⟩
  .rintro⟨x,hx,rfl⟩;have:=(h.each x hx).1;rw[has_eq,any_eq_true]at this;obtain⟨p,hp',e⟩:=this;obtain⟨a,ha⟩:=hk p hp';rw[ha]at e;exact⟨p,hp',by rw[ha];simpa[Lit.sameKey,Go.strOf]using e⟩
 have hnd2:=hperm.nodup_iff.2 hnd;have tr:∀a b c:List UInt8,decide (a<=b)=true->decide (b<=c)=true->decide (a<=c)=true:=λa b c h1 h2=>r_
 have to:∀a b:List UInt8,(decide (a<=b)||decide (b<=a))=true:=λa b=>r_
 have hsort:=pairwise_mergeSort tr to ss;generalize ss.mergeSort (λx y=>decide (x<=y))=L at*;have H:∀L:List _,L.Nodup->L.Pairwise (λa b=>decide (a<=b)=true)->(∀s∈L,∃x∈P,s=cS x.1)->∃ks:List _,L=ks.map cS/\ks.Pairwise (λa b=>aI a b<0)/\∀k∈ks,∃x∈P,x.1=k:=by
  intro L
  induction L with
  |nil=>simp
  |cons s L ih=>
   intro h1 h2 h3;obtain⟨n1,n2⟩:=nodup_cons.1 h1;obtain⟨p1,p2⟩:=pairwise_cons.1 h2;obtain⟨ks,e,hup,hin⟩:=ih n2 p2 (λt ht=>h3 t (mem_cons_of_mem _ ht));obtain⟨x,hx,rfl⟩:=h3 s mem_cons_self;refine⟨_,o_,pairwise_cons.2 ⟨λk hk=> ?_,hup⟩,λk hk=> ?_⟩
   .obtain⟨y,hy,rfl⟩:=hin k hk;have hm:cS y.1∈L:=r_
    exact JG (h.key x hx) (h.key y hy) (of_decide_eq_true (p1 _ hm)) (λe'=>n1 r_)
   grind
 obtain⟨ks,e,h1,h2⟩:=H L hnd2 hsort λs hs=>(hmem s).1 hs
 refine⟨_,e,h1,λkey=>⟨h2 _,?_⟩⟩;rintro⟨x,hx,rfl⟩;have:=(hmem _).2 ⟨x,hx,rfl⟩;rw[e]at this;obtain⟨k,hk,e'⟩:=mem_map.1 this;obtain⟨y,hy,rfl⟩:=h2 k hk
 rwa[<-BE ((h.key y hy).1.trans (h.key x hx).1.symm) (h.key y hy).2 (h.key x hx).2 e']
end Tc
namespace Tc
open List Go.RowKit Base Go.Proofs.Tryz
def nP(p:aQ)(I:World->(Nat->Prop)->Prop)(F:Nat->Prop)(w:World)(e:Ending)(w':World):Prop:=∃(nd:Nd)(b:Nat->Prop),e = .returned (.tuple #[.agg (aZ nd),.int .i64 0])/\aK nd=p/\du w' w'.heap.size nd/\(∀k,mE nd k->w.heap.size<=k/\¬b k)/\(∀l∈nd.ls,l.cs.length<=l.c)/\I w' b/\Mv F w w' b
structure mh(I:World->(Nat->Prop)->Prop)(gs:Nat)(top:Int)(nx:Nat)(ns:List aQ)(pl:Nat->Nat):Prop where
 lt:∀w F,I w F->∀k,F k->k<w.heap.size
 same:∀w w' F,I w F->w.heap.size<=w'.heap.size->(∀k,F k->w'.heap[k]? = w.heap[k]?)->I w' F
 top:∀w F,I w F->Calls prog 108 #[Y gs 0] w λe w'=>e = .returned (.int .i64 top)/\w'=w
 node:∀w F i n,I w F->ns[i]? = some n->Calls prog 247 #[Y gs 0,.int .i64 (pl i:Nat)] w (nP (cH (decide (n.aj+1=nx)) pl n) I F w)
def qn(A:OA)(l:List Sn)(k:Nat):Prop:=cE A (l.flatMap oL) k\/∃s∈l,cE s.At (an s.take) k\/cE s.Ai (an s.dz) k
def fU.same{w w' B A l}(h:fU w B A l)(c:∀k,qn A l k->w'.heap[k]? = w.heap[k]?):fU w' B A l:=
 ⟨fO h.row (λk hk=>c k (.inl hk)),λs b=>⟨fO (h.each s b).take (λk hk=>c k (.inr ⟨s,b,.inl hk⟩)),fO (h.each s b).dz (λk hk=>c k (.inr ⟨s,b,.inr hk⟩))⟩⟩
def fU.bU{w B A l}(h:fU w B A l){k}(hk:qn A l k):k<B:=by
 obtain hk|⟨s,b,hk|hk⟩:=hk
 .exact Row.bU h.row hk
 .exact Row.bU (h.each s b).take hk
 .exact Row.bU (h.each s b).dz hk
structure Wt where
 I:World->(Nat->Prop)->Prop
 gs:Nat
 gw:Nat
 go:Nat
 gm:Nat
 gn:Nat
 Ax:OA
 cx:Nat
 ys:List Fa
 m:Nat
 As:OA
 cs:Nat
 sns:List Sn
 wd:Nat
 B:Nat
def Wt.own(c:Wt)(k:Nat):Prop:=k=c.gw\/k=c.go\/k=c.gm\/k=c.gn
def Wt.R(c:Wt)(k:Nat):Prop:=qn c.As c.sns k
def Wt.F(c:Wt)(b V:Nat->Prop)(d:Value)(k:Nat):Prop:=b k\/V k\/c.own k\/d.ownBlock=some k
def Wt.C(c:Wt)(b:Value):AV:=#[.pointer (some ⟨c.gs,0,none⟩),.slice c.Ax c.ys.length c.cx,.int .i64 c.m,.slice c.As c.sns.length c.cs,.pointer (some ⟨c.go,0,none⟩),b,.slice (some ⟨c.gn,0,none⟩) c.sns.length c.sns.length,.int .i64 0]
def Wt.T(c:Wt):AV:=#[.int .i64 c.wd,.int .i64 500,.map (some c.gm)]
structure Wt.Ok(c:Wt):Prop where
 same:∀w w' F,c.I w F->w.heap.size<=w'.heap.size->(∀k,F k->w'.heap[k]? = w.heap[k]?)->c.I w' F
 wo:c.gw≠c.go
 wm:c.gw≠c.gm
 wn:c.gw≠c.gn
 om:c.go≠c.gm
 Mm:c.go≠c.gn
 mn:c.gm≠c.gn
 len:c.ys.length=c.sns.length
 n1:1<=c.sns.length
 n16:c.sns.length<=16
 m1:1<=c.m
 m3:c.m<=3
 PJ:∀w F,c.I w F->cG w w.heap.size c.Ax c.ys
structure Wt.Dy(c:Wt)(w:World)(Fs V:Nat->Prop)(kv:Value)(D:DataW Value)(pre aS:LN)(P:List (LN×Ag)):Prop where
 src:c.I w Fs
 box:aa w c.gw 213 (c.C kv)
 keys:w.ownsRow c.B 3 1 kv pre.length (an pre)
 kg:aa w c.gn 3 (an aS).toArray
 lV:aS.length=c.sns.length
 tab:aa w c.go 299 c.T
 map:aY w 9 c.gm P.length D
 gH:fV w D P c.wd V
 ke:∀k,V k->k<w.heap.size
 fs:∀k,Fs k->k<w.heap.size/\¬c.own k/\¬V k/\kv.ownBlock≠some k
 fv:∀k,V k->¬c.own k/\kv.ownBlock≠some k
 fk:∀k,kv.ownBlock=some k->¬c.own k
 lR:fU w w.heap.size c.As c.sns
 ro:∀k,c.R k->¬c.F Fs V kv k
section
variable{c:Wt}{w w' w1:World}{Fs Fs' V V' S F F':Nat->Prop}{kv kv':Value}{D D':DataW Value}{pre pre' aS went':LN}{P P':List (LN×Ag)}
def Wt.Dy.mlt(h:c.Dy w Fs V kv D pre aS P):c.gm<w.heap.size:=by
 obtain⟨b,cl,h1,_⟩:=h.map;grind
def Wt.Dy.oE(h:c.Dy w Fs V kv D pre aS P){k:Nat}(hk:c.own k):k<w.heap.size:=by
 obtain rfl|rfl|rfl|rfl:=hk
 .exact h.box.lt
 .exact h.tab.lt
 .exact h.mlt
 .exact h.kg.lt
def Wt.Dy.kE(h:c.Dy w Fs V kv D pre aS P){k:Nat}(hk:kv.ownBlock=some k):k<w.heap.size:=(h.keys.lt k hk).2
def Wt.Dy.fY(h:c.Dy w Fs V kv D pre aS P){k:Nat}(hk:c.F Fs V kv k):k<w.heap.size:=by
 obtain hk|hk|hk|hk:=hk
 .exact(h.fs k hk).1
 .exact h.ke k hk
 .exact h.oE hk
 .exact h.kE hk
def Wt.Dy.qj(h:c.Dy w Fs V kv D pre aS P){k:Nat}(hk:c.R k):k<w.heap.size:=h.lR.bU hk
def Wt.Dy.EB(h:c.Dy w Fs V kv D pre aS P)(hi:c.I w' Fs')(f:Mv Fs w w' Fs')(n:∀k,Fs' k->k<w'.heap.size):c.Dy w' Fs' V kv D pre aS P/\Mv (c.F Fs V kv) w w' (c.F Fs' V kv):=by
 have m:=f.ax.size;have g:∀k,c.own k->¬Fs k:=λk hk b=>(h.fs k b).2.1 hk;have u:∀k,V k->¬Fs k:=λk hk b=>(h.fs k b).2.2.1 hk;have hk:∀k,kv.ownBlock=some k->¬Fs k:=λk hk b=>(h.fs k b).2.2.2 hk;have p:∀k,c.R k->¬Fs k:=λk hk b=>h.ro k hk (.inl b);have d:∀k,k<w.heap.size->¬Fs k->w'.heap[k]? = w.heap[k]?:= λk hk r=>f.ax.block k hk r;refine⟨⟨hi,(d _ h.box.lt (g _ (.inl rfl))).trans h.box,fN h.keys (λk e=>d k (h.kE e) (hk k e)),(d _ h.kg.lt (g _ (.inr (.inr (.inr rfl))))).trans h.kg,h.lV,(d _ h.tab.lt (g _ (.inr (.inl rfl)))).trans h.tab,h.map.same (d _ h.mlt (g _ (.inr (.inr (.inl rfl))))),h.gH.same m (λk e s=>d k s (u k e)) (λk e=>e),λk e=>bh (h.ke k e) m,λk e=> ?_,h.fv,h.fk,(h.lR.same (λk e=>d k (h.lR.bU e) (p k e))).more m,λk e b=> ?_⟩,⟨f.ax.more (λk e=> .inl e),λk e=> ?_⟩⟩
 .refine⟨n k e,?_⟩;obtain e|⟨e,_⟩:=f.sub k e
  .grind
  .exact⟨λq=>by have:=h.oE q;omega,λq=>by have:=h.ke k q;omega,λq=>by have:=h.kE q;omega⟩
 .obtain b|b:=b
  .obtain q|⟨q,_⟩:=f.sub k b
   .grind
   .have:=h.qj e;omega
  .exact h.ro k e (.inr b)
 .obtain e|e:=e
  .obtain q|q:=f.sub k e
   .exact .inl (.inl q)
   .exact .inr q
  .exact .inl (.inr e)
def Wt.Dy.below(h:c.Dy w Fs V kv D pre aS P)(ok:c.Ok)(b:E w w'):c.Dy w' Fs V kv D pre aS P:=
 (h.EB (ok.same w _ _ h.src b.size (λk e=>b.block k (h.fs k e).1)) ((Mv.start _ w).below b) (λk e=>bh (h.fs k e).1 b.size)).1
def Wt.Dy.next(h:c.Dy w Fs V kv D pre aS P)(ok:c.Ok)(ht:aq S w w')(n:∀k,S k->c.own k\/kv.ownBlock=some k)
 (h1:aa w' c.gw 213 (c.C kv'))(h2:w'.ownsRow c.B 3 1 kv' pre'.length (an pre'))(A:aa w' c.gn 3 (an went').toArray)(u:went'.length=c.sns.length)(v:aa w' c.go 299 c.T)(y:aY w' 9 c.gm P'.length D')(s:fV w' D' P' c.wd V')
 (d:∀k,V' k->V k\/(w.heap.size<=k/\k<w'.heap.size))(hk:∀k,kv'.ownBlock=some k->kv.ownBlock=some k\/(w.heap.size<=k/\k<w'.heap.size))(m:∀k,V' k->kv'.ownBlock≠some k) :
 c.Dy w' Fs V' kv' D' pre' went' P'/\Mv (c.F Fs V kv) w w' (c.F Fs V' kv'):=by
 have f:=ht.size;have p:∀k,k<w.heap.size->¬(c.own k\/kv.ownBlock=some k)->w'.heap[k]? = w.heap[k]?:= λk hk x=>ht.block k hk (λe=>x (n k e));have g:∀k,Fs k->¬(c.own k\/kv.ownBlock=some k):=λk e q=>q.elim (h.fs k e).2.1 (h.fs k e).2.2.2;have z:∀k,c.R k->¬(c.own k\/kv.ownBlock=some k):=λk e q=>h.ro k e (.inr (.inr q));refine⟨⟨ok.same w _ _ h.src f (λk e=>p k (h.fs k e).1 (g k e)),h1,h2,A,u,v,y,s,λk e=> ?_,λk e=>⟨bh (h.fs k e).1 f,(h.fs k e).2.1,λq=> ?_,λq=> ?_⟩,λk e=>⟨λq=> ?_,m k e⟩,λk e q=> ?_,(h.lR.same (λk e=>p k (h.lR.bU e) (z k e))).more f,λk e b=> ?_⟩,⟨ht.more (λk e=> .inr (.inr (n k e))),λk e=> ?_⟩⟩
 .obtain q|q:=d k e
  .exact bh (h.ke k q) f
  .omega
 .obtain q|q:=d k q
  .exact(h.fs k e).2.2.1 q
  .have:=(h.fs k e).1;omega
 .obtain q|q:=hk k q
  .grind
  .have:=(h.fs k e).1;omega
 .obtain r|r:=d k e
  .exact(h.fv k r).1 q
  .have:=h.oE q;omega
 .obtain r|r:=hk k e
  .exact h.fk k r q
  .have:=h.oE q;omega
 .obtain b|b|b|b:=b
  .exact h.ro k e (.inl b)
  .obtain q|q:=d k b
   .exact h.ro k e (.inr (.inl q))
   .have:=h.qj e;omega
  .grind
  .obtain q|q:=hk k b
   .grind
   .have:=h.qj e;omega
 .obtain e|e|e|e:=e
  .exact .inl (.inl e)
  .obtain q|q:=d k e
   .exact .inl (.inr (.inl q))
   .exact .inr q
  .exact .inl (.inr (.inr (.inl e)))
  .obtain q|q:=hk k e
   .exact .inl (.inr (.inr (.inr q)))
   .exact .inr q
end
def ML{w:World}{B e A n c xs}(h:w.ownsRow B e 1 (U A n c) n xs){k}(hk:k<=n)(u:0<n):w.ownsRow B e 1 (U A k c) k (xs.take k):=by
 obtain⟨h1,h2⟩:=h;obtain⟨_,h0⟩|⟨g,cap,cur,m,s,q,r,d,b,ht⟩:=h2
 .omega
 .injection m with p _ f;subst p f;refine⟨o_,.inr ⟨g,c,_,rfl,s,q,o_,d,b,?_⟩⟩;grind
section
variable{c:Wt}{w w' wc w5:World}{Fs V V':Nat->Prop}{kv kv5:Value}{D D':DataW Value}{pre aS:LN}{P P':List (LN×Ag)}
def Wt.Dy.inc(h:c.Dy w Fs V kv D pre aS P)(ok:c.Ok){i:Nat}(hi:i<aS.length)(x:Nat) :
 c.Dy (w.setCell (M c.gn i) (N x)) Fs V kv D pre (aS.set i x) P/\Mv (c.F Fs V kv) w (w.setCell (M c.gn i) (N x)) (c.F Fs V kv):=by
 have b:c.own _:= .inr (.inr (.inr rfl));have ht:aq (·=c.gn) w (w.setCell (M c.gn i) (N x)):= .set _ _ _ rfl;refine h.next ok ht (λk e=> .inl (e▸b)) (h.box.ax ht (λe=>ok.wn e)) (fN h.keys λk e=>ht.block k (h.kE e) (λq=>h.fk k e (q▸b))) ?_ (by rw[length_set];exact h.lV) (h.tab.ax ht (λe=>ok.Mm e)) (h.map.same (ht.block _ h.mlt (λe=>ok.mn e))) (h.gH.same o_ (λk e d=>ht.block k d (λq=>(h.fv k e).1 (q▸b))) (λk e=>e)) (λk e=> .inl e) (λk e=> .inl e) (λk e=>(h.fv k e).2);have:=h.kg.set i (N x);rw[show(an _).toArray.setIfInBounds i _=(an (aS.set i x)).toArray by unfold an;simp]at this;omega
def Wt.Dy.push(h:c.Dy w Fs V kv D pre aS P)(ok:c.Ok)(hb:E w wc){key:Nat}(hown:w5.ownsRow c.B 3 1 kv5 (pre.length+1) (an pre++[N key]))(ha:App wc w5 kv kv5) :
 c.Dy (w5.setCell (M c.gw 5) kv5) Fs V kv5 D (pre++[key]) aS P/\Mv (c.F Fs V kv) w (w5.setCell (M c.gw 5) kv5) (c.F Fs V kv5):=by
 have hz1:=hb.size;have hz2:=ha.grown.size;have ho:c.own _:= .inl rfl;have hk5:∀k,kv5.ownBlock=some k->kv.ownBlock=some k\/(w.heap.size<=k/\k<w5.heap.size):=λk hk=>by
  obtain e|⟨j,e,hj⟩:=ha.j4
  .grind
  .have:=(hown.lt k hk).2;grind
 have hgw5:kv5.ownBlock≠some _:=λe=>by
  obtain q|q:=hk5 _ e
  .exact h.fk _ q ho
  .have:=h.box.lt;omega
 have ht:aq (λk=>k=c.gw\/kv.ownBlock=some k) w (w5.setCell (M c.gw 5) kv5):=by
  have t1:aq (λk=>k=c.gw\/kv.ownBlock=some k) _ _:=⟨ha.grown.os,ha.grown.tape,ha.grown.output,o_,λk hk hn=>ha.bI hk (λe=>hn (.inr e))⟩
  exact((aq.below hb).trans t1).trans (.set _ _ _ (.inl rfl))
 have hn:∀k,c.own k->k≠c.gw->¬(k=c.gw\/kv.ownBlock=some k):=λk h1 h2 q=>q.elim h2 (λe=>h.fk k e h1)
 have hsz:(w5.setCell (M c.gw 5) kv5).heap.size=w5.heap.size:=s_
 refine h.next ok ht (λk e=>e.elim (λe=> .inl (e▸ho)) .inr) ?_ ?_ (h.kg.ax ht (hn _ (.inr (.inr (.inr rfl))) (Ne.symm ok.wn))) h.lV (h.tab.ax ht (hn _ (.inr (.inl rfl)) (Ne.symm ok.wo))) (h.map.same (ht.block _ h.mlt (hn _ (.inr (.inr (.inl rfl))) (Ne.symm ok.wm)))) (h.gH.same o_ (λk e hl=>ht.block k hl (λq=>q.elim (λq=>(h.fv k e).1 (q▸ho)) (h.fv k e).2)) (λk e=>e)) (λk e=> .inl e) (λk e=> ?_) (λk e q=> ?_)
 .have hb5:aa _ _ _ _:=(ha.bI (bh h.box.lt o_) (λe=>h.fk _ e ho)).trans (h.box.under hb);exact hb5.set 5 _
 .rw[aE,show an _=an pre++[N key] by unfold an;simp];exact fN hown λk e=>Below.heap_setCell _ _ _ k (λq=>hgw5 r_)
 .grind
 .obtain r|r:=hk5 k q
  .exact(h.fv k e).2 r
  .have:=h.ke k e;omega
def Wt.Dy.pop{A:OA}{n cc key:Nat}(h:c.Dy w Fs V (U A (n+1) cc) D (pre++[key]) aS P)(ok:c.Ok)(g:pre.length=n) :
 c.Dy (w.setCell (M c.gw 5) (U A n cc)) Fs V (U A n cc) D pre aS P/\Mv (c.F Fs V (U A (n+1) cc)) w (w.setCell (M c.gw 5) (U A n cc)) (c.F Fs V (U A n cc)):=by
 have f:c.own _:= .inl rfl;have d:(Value.slice A n cc).ownBlock=(Value.slice A (n+1) cc).ownBlock:=by cases A<;>rfl
 have ht:aq (·=c.gw) w (w.setCell (M c.gw 5) (U A n cc)):= .set _ _ _ rfl;have hk:=h.keys;rw[aE,g,length_singleton]at hk;have b:=ML hk (Nat.le_succ n) o_;rw[show(an _).take n=an pre by unfold an;grind]at b;refine h.next ok ht (λk e=> .inl (e▸f)) (h.box.set 5 _) ?_ (h.kg.ax ht (λe=>ok.wn e.symm)) h.lV (h.tab.ax ht (λe=>ok.wo e.symm)) (h.map.same (ht.block _ h.mlt (λe=>ok.wm e.symm))) (h.gH.same o_ (λk e m=>ht.block k m (λq=>(h.fv k e).1 (q▸f))) (λk e=>e)) (λk e=> .inl e) (λk e=> .inl (d▸e)) (λk e=>by rw[d];exact(h.fv k e).2);rw[g];exact fN b λk e=>ht.block k (h.kE (d▸e)) (λq=>h.fk k (d▸e) (q▸f))
structure zB(c:Wt)(w w':World)(V:Nat->Prop)(D':DataW Value)(P':List (LN×Ag))(V':Nat->Prop):Prop where
 ax:aq (·=c.gm) w w'
 map:aY w' 9 c.gm P'.length D'
 gH:fV w' D' P' c.wd V'
 new:∀k,V' k->V k\/(w.heap.size<=k/\k<w'.heap.size)
def Wt.Dy.put(h:c.Dy w Fs V kv D pre aS P)(ok:c.Ok)(b:zB c w w' V D' P' V'):c.Dy w' Fs V' kv D' pre aS P'/\Mv (c.F Fs V kv) w w' (c.F Fs V' kv):=by
 have d:c.own _:= .inr (.inr (.inl rfl));have ht:=b.ax;refine h.next ok ht (λk e=> .inl (e▸d)) (h.box.ax ht (λe=>ok.wm e)) (fN h.keys λk e=>ht.block k (h.kE e) (λq=>h.fk k e (q▸d))) (h.kg.ax ht (λe=>ok.mn e.symm)) h.lV (h.tab.ax ht (λe=>ok.om e)) b.map b.gH b.new (λk e=> .inl e) (λk e q=> ?_);obtain r|r:=b.new k e
 .exact(h.fv k r).2 q
 .have:=h.kE q;omega
def Wt.Dy.err(h:c.Dy w Fs V kv D pre aS P)(ok:c.Ok):c.Dy (w.setCell ⟨c.gw,7,none⟩ (.int .i64 0)) Fs V kv D pre aS P/\Mv (c.F Fs V kv) w (w.setCell ⟨c.gw,7,none⟩ (.int .i64 0)) (c.F Fs V kv):=by
 have b:c.own _:= .inl rfl;have ht:aq (·=c.gw) w (w.setCell ⟨c.gw,7,none⟩ (.int .i64 0)):= .set _ _ _ rfl;exact h.next ok ht (λk e=> .inl (e▸b)) (h.box.set 7 _) (fN h.keys λk e=>ht.block k (h.kE e) (λq=>h.fk k e (q▸b))) (h.kg.ax ht (λe=>ok.wn e.symm)) h.lV (h.tab.ax ht (λe=>ok.wo e.symm)) (h.map.same (ht.block _ h.mlt (λe=>ok.wm e.symm))) (h.gH.same o_ (λk e d=>ht.block k d (λq=>(h.fv k e).1 (q▸b))) (λk e=>e)) (λk e=> .inl e) (λk e=> .inl e) (λk e=>(h.fv k e).2)
end
section
def IQ(N:Nat)(b:Value)(w:World):(binOp .eql 115 (.func (.func N) #[b] #[]) .nilFunc).run prog w = .ok (.bool false) w:=by
 rfl
attribute [local go_sem] IQ
abbrev EA(N:Nat)(b:Value)(top r:Int):AV:=#[.func (.func N) #[b] #[],I top,I r]
structure qK(I:World->(Nat->Prop)->Prop):Prop where
 lt:∀w F,I w F->∀k,F k->k<w.heap.size
 same:∀w w' F,I w F->w.heap.size<=w'.heap.size->(∀k,F k->w'.heap[k]? = w.heap[k]?)->I w' F
def iq(I:World->(Nat->Prop)->Prop)(N:Nat)(c:Value)(gs:Nat)(top:Int)(w:World)(F:Nat->Prop):Prop:=∃(r:Int)(b:Nat->Prop),aa w gs 118 (EA N c top r)/\¬b gs/\I w b/\F=λk=>k=gs\/b k
section
variable{I:World->(Nat->Prop)->Prop}{N gs:Nat}{rv:Value}{top:Int}
def iq.ok(h:qK I):qK (iq I N rv gs top):=by
 refine⟨λw F d k hk=> ?_,λw w' F d f e=> ?_⟩
 .obtain⟨r,b,h1,h2,c,rfl⟩:=d;obtain rfl|hk:=hk
  .exact h1.lt
  .exact h.lt w b c k hk
 .obtain⟨r,b,h1,h2,c,rfl⟩:=d;exact⟨r,b,(e _ (.inl rfl)).trans h1,h2,h.same w _ b c f λk hk=>e k (.inr hk),rfl⟩
def EF{w:World}{F:Nat->Prop}(h:iq I N rv gs top w F):Calls prog 108 #[Y gs 0] w λe w'=>e = .returned (.int .i64 top)/\w'=w:=by
 obtain⟨r,c,h1,h2,b,rfl⟩:=h;obtain⟨c0,c1,c2,_⟩:=h1.three;go_in;go_wp2;go_ret;simp
def Eu(g:qK I)(T:∀(args:AV)(w:World),(callFunc N args).run prog w = .ok (.enter N args) w){at_:Nat}{p:aQ}(hN:∀w F,I w F->Calls prog N #[rv,.int .i64 (at_:Nat)] w (nP p I F w)){w:World}{F:Nat->Prop}(h:iq I N rv gs top w F) :
 Calls prog 247 #[Y gs 0,.int .i64 (at_:Nat)] w (nP p (iq I N rv gs top) F w):=by
 obtain⟨r,H,h1,h2,V,rfl⟩:=h;have L:=J (g.lt w H V);have s:=(ah _ w).alloc (ae _) (.cells zN 157);have y:=J (aa.new w 157 zN);have m:=J (h1.under s);obtain⟨G,d2⟩:=e_ (IntKind.i64.wrap (r+1));have u:=h1.lt;obtain⟨D,E⟩:=e_ (w.alloc (.cells zN 157));rw[E]at s y m;have u:aq (·=gs) w (D.setCell (M _ 2) (.int .i64 G)):=(aq.below s).trans (.set _ _ _ rfl);have a1:Kp (aa (D.setCell (M _ 2) (.int _ G)) _ _ (EA N _ _ G)):=m.set 2 _;have b6:=J (y.aJ (p:=(M gs 2)) o_ (.int .i64 G));have O:=J (g.same w _ H V u.size λk hk=>u.block k (L k hk) (λe=>h2 (e▸hk)));obtain⟨HC,d6,R,H2⟩:=j4_ (hN _ H O) u g h2;have W:(D.setCell (M gs 2) (.int .i64 G)).heap.size=w.heap.size+1:=by rw[<-E];simp
 have a9:=J W;obtain⟨c0,c1,c2,O,f1,f2⟩:=m.three;have q:decide ((at_:Int)<0)=false:=o_;clear h1 h2 V s u g hN W;go_in;go_upto_region 4 with fail;generalize D.setCell _ _=u at*;clear c0 c1 c2 O f1 f2 m y d2 E;obtain⟨c0,c1,c2,O,f1,f2⟩:=a1.three;go_wp2_with(simp only[T]);apply HC.mono;rintro e n⟨nd,D,rfl,a5,V,a0,a2,a6,d⟩;obtain⟨a8,B,a7,C,z⟩:=j5_ a5 V a2 a6 d;have Z:∀k,D k->k≠w.heap.size/\k≠gs:=λk hk=>by
  obtain q|⟨q,_⟩:=d.sub k hk
  .exact⟨λe=>by have:=L k q;omega,λe=>H2 (e▸q)⟩
  .have:=a9.o;omega
 have A:=J Z;have c:Kp _:=a0;have X:=J (d.box b6 (λe=>by have:=L _ e;omega)).1;have a4:=J (d.box a1 H2).1;clear a5 V a0 a2 a6 d Z c0 c1 c2 O f1 f2 HC;obtain⟨L,⟨O,f1,f2,L,L,f5,f6,L,L,L,h0,L,L,L⟩⟩:=aa.bK X;have b:Kp (∀k,k≠w.heap.size->(aH n _ 0 (cO nd)).heap[k]? = n.heap[k]?):=λk hk=>ee hk _ _ _;have O:=J (nH w.heap.size (cO nd) n 0);have L:Kp (aa _ _ _ (aZ _)):=dS X (cO nd) rfl;have x:Kp (nP p (iq I N _ _ _) (λk=>k=gs\/H k) w _ _):=(by
  have V:=a9.o;refine⟨_,λk=>k=gs\/D k,rfl,a8,?_,λk hk=>⟨by have:=(c k hk).1;omega,λe=> ?_⟩,a7,⟨G,D,(b _ o_).trans a4,λe=>(A _ e).2 rfl,R.same n _ D C (by rw[O];omega) λk hk=>b k (A k hk).1,rfl⟩,?_⟩
  .rw[O];exact⟨fO B.row λk hk=>b k (by have:=(c k (.inl hk)).1;omega),λl G=>fO (B.each l G) λk hk=>b k (by have:=(c k (.inr ⟨l,G,hk⟩)).1;omega)⟩
  .obtain rfl|e:=e
   .have:=(c _ hk).1;omega
   .exact(c k hk).2 e
  .have m2:Mv (λk=>k=gs\/H k) w u (λk=>k=gs\/H k):=⟨d6.more λk e=> .inl e,λk e=> .inl e⟩;have m3:Mv (λk=>k=gs\/H k) u n (λk=>k=gs\/D k):=⟨z.ax.more λk e=> .inr e,λk e=>by
    obtain e|e:=e
    .exact .inl (.inl e)
    .obtain q|q:=z.sub k e
     .exact .inl (.inr q)
     .exact .inr q⟩
   exact(m2.trans m3).aH o_ 0 _)
 obtain⟨b0,d8,d4,V,⟨a3,f,⟨e0,d7,d9,c6,c4,d0,D,c3,d3,u⟩⟩⟩:=nd;clear a8 B a7 C z A c a4 b O;dsimp only[aZ,cO]at x L⊢;generalize G:aH n _ 0 _=O at*;simp only[aH,Nat.zero_add,Nat.reduceAdd]at G;obtain⟨y0,y1,y2,y3,O,y5,y6,y7,y8,y9,d5,G,b9,d1⟩:=(aa.bK L).1;go_wp2;refine bodyPost_ret (v:= .tuple #[.agg #[.int _ _,U _ _ V,.int _ _,.int _ _,.int _ _,.int _ _,.int _ _,.int _ _,.int _ _,.int _ _,.int _ D,.int _ _,.int _ _,.int _ u],.int _ 0]) ?_ rfl x;simp[results,go_sem,y0,y1,y2,y3,O,y5,y6,y7,y8,y9,d5,G,b9,d1]
end
end
end Tc
end Go.Proofs.YtibjlpkpljnicaaGreatDoor
