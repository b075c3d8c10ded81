/- Parts. -/
import Derived.Test.YtibjlpkpljnicaaGreatDoorR29
import Derived.Test.YtibjlpkpljnicaaGreatDoorR35
import Derived.Test.YtibjlpkpljnicaaGreatDoorR39
set_option maxRecDepth 100000
set_option maxHeartbeats 8000000
set_option linter.all false
namespace Go.Proofs.YtibjlpkpljnicaaGreatDoor
namespace Tc
open List Go.RowKit Base Go.Proofs.Tryz
structure jg(I:World->(Nat->Prop)->Prop)(gs:Nat)(ys:List Fa)(s:aN)(qs:List Pk)(fs:List Fa)(st:St)(m:Nat)(top:Int)(pl:Nat->Nat):Prop where
 src:mh I gs top s.af.length st.nodes pl
 zj:ys.map Fa.keys=s.af.map aW
 m1:1<=m
 m3:m<=3
 nY:top<0\/∃root:Nat,top=(pl root:Int)/\fR s fs st/\st.parts[root]? = some (0,aT fs (λ_=>true))
 none_:top<0->fs=[]
 bO:cJ s
 fact:iE s fs
 dw:il m fs
 q:iT s qs
 node:∀(id:Nat) n,st.nodes[id]? = some n->∃h:n.aj<ys.length,im (decide (n.aj+1=ys.length)) (ys[n.aj]'h).keys m (cH (decide (n.aj+1=s.af.length)) pl n)
section
variable{I:World->(Nat->Prop)->Prop}{gs:Nat}{ys:List Fa}{s:aN}{qs:List Pk}{fs:List Fa}{st:St}{m:Nat}{top:Int}{pl:Nat->Nat}
def qy{i:Nat}{x:au×Pk}(h:(s.af.zip qs)[i]? = some x):s.af[i]? = some x.1/\qs[i]? = some x.2:=by
 grind
def wF{i:Nat}{d:au}{p:Pk}(h1:s.af[i]? = some d)(h2:qs[i]? = some p):(s.af.zip qs)[i]? = some (d,p):=by
 grind
def jg.yl(h:jg I gs ys s qs fs st m top pl):ys.length=s.af.length:=by
 have:=congrArg length h.zj;grind
def jg.yk(h:jg I gs ys s qs fs st m top pl){i:Nat}{d:au}(hd:s.af[i]? = some d)(hi:i<ys.length):ys[i].keys=aW d:=by
 have h1:=congrArg (λl=>l[i]?) h.zj;grind
def jg.gone(h:jg I gs ys s qs fs st m top pl){sns:List Sn}(M:sns.length=qs.length)(E:∀(i:Nat) d p G,s.af[i]? = some d->qs[i]? = some p->sns[i]? = some G->jh d p G):zo I gs ys sns s fs st (s.af.zip qs) m top pl:=by
 have N:=h.q.len;have r:sns.length=s.af.length:=o_;have L:=h.yl;have h1:=h.bO.n1;have h2:=h.bO.n2;have n:∀(i:Nat) hi,∃d p,s.af[i]? = some d/\qs[i]? = some p/\jh d p sns[i]/\gz d p/\da d:=λi hi=>by
  have c:i<s.af.length:=o_;have g:i<qs.length:=o_;exact⟨_,_,gE c,gE g,E i _ _ _ (gE c) (gE g) (gE hi),h.q.ok i _ _ (gE c) (gE g),h.bO.af i c⟩
 have B:(s.af.zip qs).length=s.af.length:=o_
 refine⟨by rw[r];exact h.src,o_,o_,o_,h.m1,h.m3,⟨o_,λi hi z=> ?_⟩,λy J=> ?_,λx hx=> ?_,h.nY,h.none_,h.bO,h.fact,h.dw,λi x hx=> ?_,B,o_,λi x hx=> ?_,by rw[r];exact h.node⟩
 .obtain⟨d,p,c,g,v,C,H⟩:=n i hi;have ht:=v.t;have b:=v.take;have f:=v.dz;unfold iN at ht;unfold nG at b;unfold ql at f;rcases e:gj p with _|t
  .grind
  .rw[e]at ht b f;dsimp only at ht b f;obtain⟨t1,_,_⟩:=lU C e;have u:=h.yk c z;have A:t<ys[i].keys.length:=by rw[u];unfold aW;rw[lM];omega
   refine .inr ⟨t,ht,A,?_,by rw[b];exact Ei d p t,λkey hk=> ?_⟩
   .grind
   .rw[b]at hk;have D:=uu hk;have F:ys[i].keys[t]=(bE d t).length:=by
     simp only[u];unfold aW bE;rw[getElem_map,gE t1];rfl
    omega
 .obtain⟨i,hi,rfl⟩:=getElem_of_mem J;have c:i<s.af.length:=o_;rw[h.yk (gE c) hi];unfold aW;rw[lM];have:=(h.bO.af i c).n2;omega
 .obtain⟨i,hi,rfl⟩:=getElem_of_mem hx;obtain⟨d,p,c,g,v,C,H⟩:=n i hi;rw[v.take];unfold nG;split
  .simp
  .rename_i t e;obtain⟨t1,_,_⟩:=lU C e;have D:=EL (d:=d) (p:=p) (t:=t);have F:(bE d t)=(d.ai[t]'t1).ar:=by unfold bE;rw[gE t1];rfl
   rw[F]at D;have:=(H.ai t t1).n2;omega
 .grind
 grind
def xz fs:∀(L:List (au×Pk))(a:Nat)(K:cL)(pre:LN),(∀x∈L,da x.1/\gz x.1 x.2)->∀x∈bZ fs L a K pre,∃r,x.1=pre++r/\fS L r
 | [],a,K,pre,_,x,hx=>by
  unfold bZ at hx;split at hx
  .rw[mem_singleton.1 hx];exact⟨_,s_,rfl⟩
  .grind
 |(d,p)::L,a,K,pre,n,x,hx=>by
  have c:∀x∈L,da _/\gz _ _:=λx hx=>n x (mem_cons_of_mem _ hx);obtain⟨hd,f⟩:=n _ mem_cons_self;dsimp only at hd f;rw[bZ]at hx;split at hx
  .rename_i e;obtain⟨r,h1,h2⟩:=xz _ L _ _ _ c x hx;refine⟨r,h1,?_⟩;have b:¬p.g=true:=λb=>by
    unfold gj at e;grind
   rw[fS,if_neg b];omega
  .rename_i t e;obtain⟨k,hk,hx⟩:=mem_flatMap.1 hx;split at hx
   .grind
   .obtain⟨r,h1,h2⟩:=xz _ L _ _ _ c x hx;unfold fZ at h1;by_cases b:p.g=true
    .rw[if_pos b]at h1;refine⟨fu d t p.bG k::r,r_,?_⟩;rw[fS,if_pos b];obtain⟨t1,_,v⟩:=lU f e;have m:=uu hk;refine⟨_,r,rfl,?_,h2⟩;have y:=v b;have s:(bE d t)=(d.ai[t]'t1).ar:=by unfold bE;rw[gE t1];rfl
     rw[s]at m;have q:=rz hd (k:=p.bG-t) (by have:=f.bG;omega) m;unfold bE;rw[gE f.bG];show fu d t p.bG k<(d.ai[p.bG]'f.bG).ar.length;unfold fu;grind
    .rw[if_neg b,append_nil]at h1;refine⟨r,h1,?_⟩;rw[fS,if_neg b];omega
def jg.keys(h:jg I gs ys s qs fs st m top pl){ps:List (LN×Ag)}(ht:ev (gG fs (s.af.zip qs)) ps):∀x∈ps,fS (s.af.zip qs) x.1:=λx hx=>by
 obtain⟨y,b,e⟩:=(ht.keys _).1 ⟨x,hx,rfl⟩;unfold gG at b;split at b
 .cases b
 .obtain⟨r,h1,h2⟩:=xz _ _ 0 (λ_=>true) _ (λz g=>by
   obtain⟨i,hi⟩:=getElem?_of_mem g;obtain⟨d,n⟩:=qy hi;have f:=aO d;have c:=h.bO.af i f.1;rw[f.2]at c;exact⟨c,h.q.ok i _ _ d n⟩) y b
  grind
end
structure Gp where
 A:OA
 names:List ByteArray
 c:Nat
 ag:Ag
abbrev mV(g:Gp):LV:=[U g.A g.names.length g.c,I g.ag.c,I g.ag.s0,I g.ag.n0,I g.ag.x0,I g.ag.s1,I g.ag.n1,I g.ag.x1,I g.ag.s2,I g.ag.n2,I g.ag.x2]
abbrev YA(g:Gp):AV:=#[.slice g.A g.names.length g.c,.int .i64 g.ag.c,.int .i64 g.ag.s0,.int .i64 g.ag.n0,.int .i64 g.ag.x0,.int .i64 g.ag.s1,.int .i64 g.ag.n1,.int .i64 g.ag.x1,.int .i64 g.ag.s2,.int .i64 g.ag.n2,.int .i64 g.ag.x2]
def Jn g:(mV g).length=11:=rfl
def a7A(g:Gp):∀u∈(YA g).toList,u.oneCell'=true:=by
 intro u hu;simp only[YA,mem_cons,not_mem_nil,or_false]at hu;rcases hu with rfl|rfl|rfl|rfl|rfl|rfl|rfl|rfl|rfl|rfl|rfl<;>rfl
def BJ:(prog.info? 80).map (λi=>(i.zero,i.size,i.bytes))=some (some (.agg #[Z,I 0,I 0,I 0,I 0,I 0,I 0,I 0,I 0,I 0,I 0]),11,104):=k_
def hZ(g:Gp):List ByteArray×Ag:=(g.names,g.ag)
structure iR(w:World)(B:Nat)(A:OA)(l:List Gp):Prop where
 row:Row w B A (l.flatMap mV)
 each:∀g∈l,Row w B g.A (g.names.map .string)
def iR.below{w w' B A l}(h:iR w B A l)(b:Below B w w'):iR w' B A l:=⟨h.row.below b,λg c=>(h.each g c).below b⟩
def iR.more{w B b A l}(h:iR w B A l)(c:B<=b):iR w b A l:=⟨h.row.more c,λg d=>(h.each g d).more c⟩
def pM(A:OA)(l:List Gp)(k:Nat):Prop:=cE A (l.flatMap mV) k\/∃g∈l,cE g.A (g.names.map .string) k
def zl(I:World->(Nat->Prop)->Prop)(d:Nat->Prop)(P:List (LN×Ag))(f:List (au×Pk))(w:World)(e:Ending)(w':World):Prop:=
 ∃(A:OA)(l:List Gp)(c:Nat)(ps:List (LN×Ag))(b:Nat->Prop),e = .returned (.tuple #[U A l.length c,.int .i64 0])/\ev P ps/\l.map hZ=(ps.map λx=>(cX f x.1,x.2))/\(iR w' w'.heap.size A l/\∀x∈l,x.names.length<=x.c)/\(∀k,pM A l k->w.heap.size<=k/\¬b k)/\I w' b/\Mv d w w' b
structure jM(w:World)(B:Nat)(v:Value)(g:Gp):Prop where
 row:Row w w.heap.size g.A (g.names.map .string)
 off:∀k,cE g.A (g.names.map .string) k->B<=k/\k<w.heap.size/\v.ownBlock≠some k
def jM.below{w w' B v g}(h:jM w B v g)(b:Below w.heap.size w w'):jM w' B v g:=
 ⟨(h.row.below b).more b.size,λk hk=>⟨(h.off k hk).1,bh (h.off k hk).2.1 b.size,(h.off k hk).2.2⟩⟩
def jM.app{w w' B v f g}(h:jM w B v g)(b:App w w' v f):jM w' B f g:=by
 have d:=b.grown.size;refine⟨(fO h.row λk hk=>b.bI (h.off k hk).2.1 (h.off k hk).2.2).more d,λk hk=> ?_⟩;have h1:=h.off k hk;refine⟨o_,o_,λe=> ?_⟩;obtain c|⟨j,c,m⟩:=b.j4
 .grind
 grind
def jM.new{w B n c v A b ag}(h:w.ownsRow B 9 1 (.slice A n c) n (b.map .string)){B0}(f:B0<=B)(d:∀j,v.ownBlock=some j->j<B):jM w B0 v ⟨A,b,c,ag⟩:=
 ⟨kG h,λk hk=>by
  have h1:=rI h hk;grind⟩
def xg A n c p m q g v e f r d s:∀u∈(#[.slice A n c,.int .i64 p,.int .i64 m,.int .i64 q,.int .i64 g,.int .i64 v,.int .i64 e,.int .i64 f,.int .i64 r,.int .i64 d,.int .i64 s]:AV).toList,u.oneCell'=true:=by
 intro u b;simp at b;rcases b with rfl|rfl|rfl|rfl|rfl|rfl|rfl|rfl|rfl|rfl|rfl<;>rfl
def xY{α}[DecidableEq α]:∀(a b:List α),a.Nodup->(∀x∈a,x∈b)->a.length<=b.length
 | [],_,_,_=>av _
 |x::xs,b,f,c=>by
  obtain⟨h1,h2⟩:=nodup_cons.1 f;have hx:=c x mem_cons_self;have g:=xY _ (b.erase x) h2 (λy d=>(mem_erase_of_ne (λe=>h1 r_)).2 (c y (mem_cons_of_mem _ d)));grind
def uy{P r}(h:ev P r):r.length<=P.length:=by
 have:=xY (r.map Prod.fst) (P.map Prod.fst) (by
  rw[nodup_iff_pairwise_ne,pairwise_map];refine h.up.imp λ{x y} b e=> ?_;rw[e,nX]at b;omega) (λk hk=>by
  obtain⟨x,hx,rfl⟩:=mem_map.1 hk;obtain⟨y,c,e⟩:=(h.keys _).1 ⟨x,hx,rfl⟩;grind)
 grind
def Jl{m fs}(h:il m fs) L:(gG fs L).length<=40:=by
 unfold gG;split
 .simp
 .rename_i b;have h1:=rN h L 0 (λ_=>true) [] (by
   rw[pY];grind)
  rw[pY,length_range]at h1;have:=h.n;omega
def wE{I:World->(Nat->Prop)->Prop}{gs ys s b fs st m top pl}(a:jg I gs ys s b fs st m top pl) Ax Aq cx cq z w(hI:I w z)(j1:∀w F,I w F->cG w w.heap.size Ax ys)(hs:∀W,aq z w W->cQ W W.heap.size s)(hq:∀W,aq z w W->fH W W.heap.size Aq b) :
 Calls prog 15 #[.pointer (some ⟨gs,0,none⟩),.agg (aG s),.agg #[.slice Ax ys.length cx,.int .i64 (m:Nat)],.agg #[.slice Aq b.length cq]] w (zl I z (gG fs (s.af.zip b)) (s.af.zip b) w):=by
 have D:=(ah _ w).alloc (ae _) (.cells (aG s) 25);have J:=kp (aa.new w 25 (aG s));obtain⟨y,d4⟩:=e_ (w.alloc (.cells (aG s) 25));rw[d4]at D J;have U:=D.alloc D.size (.cells #[.slice Ax ys.length cx,.int .i64 m] 43);have d2:=kp (aa.new y 43 #[.slice Ax ys.length cx,.int .i64 m]);have V:=kp (J.o.alloc (.cells #[.slice Ax ys.length cx,.int .i64 m] 43));obtain⟨u,L⟩:=e_ (y.alloc (.cells #[.slice Ax ys.length cx,.int .i64 m] 43));rw[L]at U d2 V;have d8:=U.alloc U.size (.cells #[.slice Aq b.length cq] 29);obtain⟨X,Y,y⟩:=j3_ (aa.new u 29 #[.slice Aq b.length cq]) (d2.o.alloc (.cells #[.slice Aq b.length cq] 29)) (V.o.alloc (.cells #[.slice Aq b.length cq] 29));obtain⟨E,f0⟩:=e_ (u.alloc (.cells #[.slice Aq b.length cq] 29));rw[f0]at d8 X Y y;have Z:=kp d8;have h7:=U.size;have E:=kp hs;have G:=kp hq;have M:=kp (λW u=>Mj s b _ cq W (E W u) a.bO (G W u) a.q);have b9:=kp (λW u Ak ck keys O n8 b7=>Lf s b _ _ Ak cq ck keys W (E W u) a.bO (G W u) a.q (λi d p h1 h2=>wF h1 h2) (by rw[length_zip];have:=a.q.len;omega) O n8 b7);have O:=kp (λW sns As cs h1 h2 E hs' hR'=>Pc (a.gone (sns:=sns) h1 h2) _ As cx cs z W E j1 hs' hR');obtain⟨Ha,G,h0,E⟩:=j4_ a a.src.lt a.src.same hI;obtain⟨nq,b8⟩:=e_ b.length;obtain⟨ny,h3⟩:=e_ ys.length;obtain⟨nd,f6⟩:=e_ s.af.length;obtain⟨nm,g9⟩:=e_ s.aC.length;unfold aG at*;rw[f6,g9]at J V y d4 M b9⊢;rw[b8]at X f0 M b9 O⊢;rw[h3]at d2 Y L O⊢;have m0:=kp b8;clear D U d8 hI j1 hs hq a b8 h3 f6 g9;generalize D:zl I z _ _ w=Q at*;have HQ:=kp D;clear D;obtain⟨s0,s1,_,_⟩:=y.o.two;obtain⟨q0,_⟩:=X.o.one;go_in;go_wp2_with fail;have D:=Z.o.size;apply(M _ (aq.below Z)).mono;rintro e U⟨As,sns,cs,rfl,f7,J,D,i2,N⟩;have p4:=bu y N;have k9:=bu Y N;have n3:=bu X N;have V:=ay Z N;have y:=h0 w U z E V.o.size (λk hk=>V.o.block k (G w z E k hk));have M:=kp (O U _ _ cs (by rw[f7,m0]) J y D (λk hk O=>by
  have h1:=i2 k hk;have h2:=G w z E k O;omega))
 clear N J D i2 y d4 L f0 s0 s1 q0;obtain⟨y,y⟩:=e_ sns.length;rw[y]at M⊢;clear y f7;obtain⟨x0,x1,_,_⟩:=k9.o.two;go_wp2_with fail;apply M.o.mono;rintro e C⟨v,l,d0,rfl,D,Z,b7,y,U,J⟩;obtain⟨Af,cf,rfl⟩:=Z.form;have L:∀k,w.heap.size<=k->¬z k:=λk hk O=>by have:=G w z E k O;omega
 have p8:=kp (J.box p4 (L _ o_)).1;have k7:=kp (J.box n3 (L _ h7)).1;have f8:=kp Z.jW;have R:=kp (((Mv.start z w).below V).trans J);obtain⟨h5,i8,m8,a6,p5⟩:=j5_ R.o.ax (G C _ U) U D y;have E:l.length<=60:=by
  have h1:=uy D;rw[lM]at h1;have:=Jl Ha.o.dw (s.af.zip b);omega
 have k3:=R.o.ax.size;clear D Z b7 y U J M L x0 x1;obtain⟨n,D⟩:=e_ l.length;rw[D]at E⊢;have Hn:=kp D;clear D;obtain⟨i0,o2,o4,m5,p9⟩:=info_parts BJ;go_wp2;go_loopw [13,39] (λE D wr=>∃(k:Nat)(gp:List Gp)(A1:OA)(c1:Nat),k<=n/\D = .int .i64 (k:Nat)/\E = .slice A1 k c1/\Kp (gp.length=k/\∀x∈gp,x.names.length<=x.c)/\Kp (gp.map hZ=(((l.take k).map Tc.pl).map λx=>(cX (s.af.zip b) x.1,x.2)))/\wr.ownsRow C.heap.size 80 11 (.slice A1 k c1) k (gp.flatMap mV)/\Kp (∀g∈gp,jM wr C.heap.size (.slice A1 k c1) g)/\Below C.heap.size C wr) (λ_ D _=>n-(intOf D).toNat)
 case atStart=>exact⟨0,[],_,0,o_,rfl,rfl,kp ⟨rfl,λx h=>r_⟩,kp rfl,cK _ _ _ _,kp (λx h=>r_),bR⟩
 .obtain⟨k,gp,A1,c1,hk,rfl,rfl,g4,i7,r,e9,u⟩:=hrel;obtain⟨wo,rfl⟩:∃wo,wo=wr:=⟨_,rfl⟩;have L:=kp r;have D:=kp u;clear r u;by_cases u:k<n
  .have c:k<l.length:=by rw[Hn];omega
   have M:=(f8.o.below D).more D.o.size;obtain⟨u,u,rfl,_,c0,i1,c2,c3,c4,c5,c6,c7,U,c9,i4⟩:=M.cells k c;have V:=M.keys _ (gM c);have y:=p5 _ (gM c);have g6:=kp (Ha.o.keys a6 _ (mem_map.2 ⟨_,gM c,rfl⟩));have E:Kp (∀g:Gp,hZ g=(cX _ (l[k]'c).keys,(l[k]'c).ag)->(gp++[g]).map _=(((l.take _).map Tc.pl).map λx=>(cX _ _,x.2))):=(λg B=>by
    rw[take_succ_eq_append_getElem c,map_append,map_append,map_append,i7.out,map_singleton,B];rfl)
   generalize(l[k]'c)=f at*;obtain⟨u,keys,J,⟨ac,s0,n0,x0,s1,n1,x1,s2,n2,x2⟩⟩:=f;dsimp only at c0 i1 c2 c3 c4 c5 c6 c7 U c9 i4 V y E;dsimp only[Tc.pl]at g6;obtain⟨nk,G⟩:=e_ keys.length;have Z:=(ah _ wo).alloc (ae _) (.cells #[.slice u nk J,.int .i64 ac,.int .i64 s0,.int .i64 n0,.int .i64 x0,.int .i64 s1,.int .i64 n1,.int .i64 x1,.int .i64 s2,.int .i64 n2,.int .i64 x2] 89);obtain⟨j2,m9,g5⟩:=j3_ (aa.new wo 89 #[.slice u nk J,.int .i64 ac,.int .i64 s0,.int .i64 n0,.int .i64 x0,.int .i64 s1,.int .i64 n1,.int .i64 x1,.int .i64 s2,.int .i64 n2,.int .i64 x2]) Z ((V.below Z).more Z.size);rw[G]at c0 y;have h9:=kp G;have g7:=kp y;clear M V Z G y;have y:0<=(k:Int):=o_
   have y:k<(n:Int):=o_
   go_upto_region 11 with fail;clear c0 i1 c2 c3 c4 c5 c6 c7 U c9 i4;generalize wo.alloc _=y at*;generalize G:wo.heap.size=gf at*;have M:=kp G;clear G;have G:Kp (Below wo.heap.size _ y):=(by rw[M];omega);have A:=kp (D.o.trans (G.o.mono D.o.size));have V:=kp (h5.o.trans (aq.below A));have M:=kp (b9 y V u J _ g5 (by rw[h9];exact g7) g6);rw[h9]at M;obtain⟨n9,o1,_,_⟩:=(p8.o.under A).two;obtain⟨m7,_⟩:=(k7.o.under A).one;have aD:=aa.dk j2;go_wp2_with fail;apply M.o.mono;rintro e w7⟨u,rfl,u,M⟩;obtain⟨V,Z,rfl⟩:=bY u;have o7:=kp u;have b2:=ay G M;have a7:=ay A M;have p7:=bu j2 M;have a5:=G.o.size;have J:=kp (bS L b2);have j3:=kp (λg B=>(e9.out g B).below b2);have f9:=kp (jM.new (ag:=⟨ac,s0,n0,x0,s1,n1,x1,s2,n2,x2⟩) o7 (aF D.o.size a5) (λj y=>bh (L.o.lt j y).2 a5));clear M u n9 o1 m7 aD;obtain⟨G,u⟩:=e_ ((cX (s.af.zip b) keys).length);have p3:=kp u;rw[u];clear u;have aD:=aa.dk p7;have u:k+1<1048576*64:=o_
   have M:=a7.o.size;go_upto_region 15 with(at_builtin;apply je rfl _ _ _ rfl _ 80 _ _ _ _ underlying47 o2 o4 m5 p9 rfl d_ _ _ rfl (xg _ _ _ _ _ _ _ _ _ _ _ _ _) (.slice _ k _) k _ rfl J rfl u d_ M;intro u w8 u T;obtain⟨G,U,h8⟩:=cI u;subst h8;have d1:=kp u;have H:=kp T;clear u T);have l4:=kp (H.o.ew a7 J o_ M);have M:Kp (∀g∈gp++[(⟨V,_,Z,_⟩:Gp)],jM _ _ (.slice G _ U) g):=(λg B=>by
    obtain B|B:=mem_append.1 B
    .exact(j3 g B).app H
    .rw[mem_singleton.1 B];exact f9.o.app H)
   have g0:Kp ((gp++[(⟨V,cX (s.af.zip b) keys,Z,⟨ac,s0,n0,x0,s1,n1,x1,s2,n2,x2⟩⟩:Gp)]).length=k+1/\∀x∈gp++[(⟨V,cX (s.af.zip b) keys,Z,⟨ac,s0,n0,x0,s1,n1,x1,s2,n2,x2⟩⟩:Gp)],x.names.length<=x.c):=⟨by rw[length_append,g4.out.1];rfl,λx B=>by
    obtain B|B:=mem_append.1 B
    .exact g4.out.2 x B
    .rw[mem_singleton.1 B];exact(tY o7).1⟩
   have J:=kp (E (⟨V,_,Z,_⟩:Gp) rfl);have u:Kp (w8.ownsRow _ _ _ (.slice G _ U) _ ((gp++[(⟨V,_,Z,⟨_,_,_,_,_,_,_,_,_,_⟩⟩:Gp)]).flatMap _)):=(by
    rw[flatMap_append];have h:=d1.o;rw[<-p3]at h;exact h)
   clear aD;go_wp2;exact⟨⟨_,_,G,U,o_,o_,rfl,g0,J,u,M,l4⟩,o_⟩
  .obtain rfl:k=n:=o_
   have u:Kp (Q (.returned (.tuple #[.slice _ _ c1,.int _ 0])) _):=(by
    rw[<-HQ];have G:=i8.o;have r:=L.o;have E:∀j,pM A1 _ j->C.heap.size<=j:=λj y=>by
     obtain⟨_,off,rfl⟩|⟨g,B,y⟩:=y
     .exact(r.lt j rfl).1
     .exact((e9.out g B).off j y).1
    refine⟨_,_,_,_,_,rfl,a6,?_,⟨⟨?_,λg B=>(e9.out g B).row⟩,g4.out.2⟩,λj y=>⟨aF k3 (E j y),λO=>r_⟩,h0 C _ _ m8 D.o.size (λj O=>D.o.block j (G j O)),R.o.below D⟩
    .have h:=i7.out;rw[take_of_length_le (by rw[Hn];omega)]at h;omega
    .exact dF r)
   rw[g4.out.1]at u;go_wp2;exact u
structure uQ(s:aN)(fs:List Fa):Prop where
 n:fs.length<=40
 ga:∀x∈aw fs,GA s.aC.length 1 x.2
 key:∀f∈fs,f.keys.length=s.af.length/\∀(i:Nat) d k,s.af[i]? = some d->f.keys[i]? = some k->k<(bE d 0).length
def fS.len:∀{L:List (au×Pk)}{ks:LN},fS L ks->ks.length<=L.length
 | [],ks,h=>by rw[fS]at h;grind
 |(d,p)::L,ks,h=>by
  rw[fS]at h;split at h
  .obtain⟨k,r,rfl,_,h⟩:=h;exact Nat.succ_le_succ h.len
  .exact Nat.le_succ_of_le h.len
def jl:Pk:=⟨0,0,.empty,.empty,none,[],0,false,0⟩
def Np{d}(h:0<d.ai.length):gz d jl:=⟨.inl ⟨rfl,rfl⟩,h,⟨av _,λ_=>rfl⟩,⟨av _,λ_=>rfl⟩,λ_=>rfl,h,λ_=>rfl⟩
def DE{s}(h:cJ s):iT s (replicate s.af.length jl):=⟨length_replicate,λi d p hd b=>by
 obtain⟨h1,rfl⟩:=aO hd;rw[getElem?_replicate,if_pos h1]at b;injection b with b;subst b;exact Np (h.af i h1).n1⟩
def yn:∀(L:List (au×Pk))(a:Nat)(k:LN),(∀x∈L,x.2=jl)->eo L a k=true/\dO L a k=[]
 | [],_,_,_=>⟨rfl,rfl⟩
 |(d,p)::L,a,k,hx=>by
  obtain rfl:=hx _ mem_cons_self;obtain⟨h1,h2⟩:=yn L (a+1) k λx b=>hx x (mem_cons_of_mem _ b);trivial
def R2 ps L(h:∀x∈L,x.2=jl):dH ps L=ps.map λx=>([],x.2):=by
 unfold dH;rw[filter_eq_self.2 λx _=>(yn L 0 _ h).1];exact map_congr_left λx _=>by rw[(yn L 0 _ h).2]
def QL{ps r L a}(h:∀x∈L,x.2=jl)(b:ps≠[])(c:bW (λ_=>true) ps=some a)(ht:ev (dH ps L) r):r=[([],a)]:=by
 rw[R2 _ L h]at ht;refine ht.one ⟨pairwise_singleton _ _,λkey=>⟨?_,?_⟩,λx hx=> ?_⟩
 .rintro⟨x,hx,rfl⟩;rw[mem_singleton.1 hx];obtain⟨y,ys,rfl⟩:=exists_cons_of_ne_nil b;simp
 .simp
 .rw[mem_singleton.1 hx];show _=some a;rw[<-c];unfold bW;rw[filter_map,map_map];rfl
def RE{c:List au}{n}:∀x∈c.zip (replicate n jl),x.2=jl:=λx hx=>by
 obtain⟨a,b⟩:=x;exact eq_of_mem_replicate (of_mem_zip hx).2
def ev.yT{m:Nat}{W r:List (LN×Ag)}(h:ev W r)(hn:W.length<=40)(Us:∀x∈W,GA m 1 x.2)(K:LN->Bool):bW K r=bW K W:=by
 have hp:=mergeSort_perm W λa b=>decide (aI a.1 b.1<=0)
 have hsr:mg (W.mergeSort λa b=>decide (aI a.1 b.1<=0)):=by
  have:=pairwise_mergeSort (le:=λa b:LN×Ag=>decide (aI a.1 b.1<=0)) (λa b c hab RU=>decide_eq_true (sX (of_decide_eq_true hab) (of_decide_eq_true RU))) (λa b=>by
   rw[Bool.or_eq_true,decide_eq_true_iff,decide_eq_true_iff,jU a.1 b.1]
   omega) W
  exact this.imp λh=>of_decide_eq_true h
 obtain⟨r',h1,_,h3,_⟩:=rf (m:=m) (n:=64) (by decide) _ 0 [] ⟨by rw[hp.length_eq];omega,ae _,λ_ h=>(by cases h),λx hx=>Us x (hp.mem_iff.1 hx),.nil,hsr,λ_ h=>(by cases h)⟩;rw[h.one (Jc hn Us hp hsr h1),h3 K,nil_append];exact EG _ (λx hx=>Us x (hp.mem_iff.1 hx)) (by rw[hp.length_eq];omega) hp
def ev.aio{m:Nat}{W r T:List (LN×Ag)}(h:ev W r)(hn:W.length<=40)(Us:∀x∈W,GA m 1 x.2)(f:LN->LN)(ht:ev (r.map λx=>(f x.1,x.2)) T):ev (W.map λx=>(f x.1,x.2)) T:=by
 have e:∀(l:List (LN×Ag))(Q:LN->Bool),bW Q (l.map λx=>(f x.1,x.2))=bW (λk=>Q (f k)) l:=λl Q=>by
  unfold bW;rw[filter_map,map_map];rfl
 refine ht.move (λQ=>by rw[e,e,h.yT hn Us]) λkey=> ?_
 constructor
 .rintro⟨x,hx,rfl⟩;obtain⟨y,hy,rfl⟩:=mem_map.1 hx;obtain⟨z,hz,e1⟩:=(h.keys y.1).1 ⟨y,hy,rfl⟩;exact⟨_,mem_map.2 ⟨z,hz,rfl⟩,by rw[e1]⟩
 .rintro⟨x,hx,rfl⟩;obtain⟨y,hy,rfl⟩:=mem_map.1 hx;obtain⟨z,hz,e1⟩:=(h.keys y.1).2 ⟨y,hy,rfl⟩;exact⟨_,mem_map.2 ⟨z,hz,rfl⟩,by rw[e1]⟩
section
attribute [local go_sem] zZ
def iR.cells{w:World}{B:Nat}{A:OA}{l:List Gp}(h:iR w B A l)(k:Nat)(hk:k<l.length) :
 ∃b off,A=some ⟨b,off,none⟩/\b<B/\C w b (off+k*11) (U l[k].A l[k].names.length l[k].c)/\C w b (off+k*11+1) (I l[k].ag.c)/\C w b (off+k*11+2) (I l[k].ag.s0)/\C w b (off+k*11+3) (I l[k].ag.n0)/\C w b (off+k*11+4) (I l[k].ag.x0)/\C w b (off+k*11+5) (I l[k].ag.s1)/\C w b (off+k*11+6) (I l[k].ag.n1)/\C w b (off+k*11+7) (I l[k].ag.x1)/\C w b (off+k*11+8) (I l[k].ag.s2)/\C w b (off+k*11+9) (I l[k].ag.n2)/\C w b (off+k*11+10) (I l[k].ag.x2):=by
 obtain⟨b,off,e,f,d⟩:=Row.rec Jn h.row o_ k hk;exact⟨b,_,e,f,d 0 _ rfl,d 1 _ rfl,d 2 _ rfl,d 3 _ rfl,d 4 _ rfl,d 5 _ rfl,d 6 _ rfl,d 7 _ rfl,d 8 _ rfl,d 9 _ rfl,d _ _ rfl⟩
def zT(A1 A2:OA)(u l2:List Gp)(c1 c2:Nat)(w:World)(h1:iR w w.heap.size A1 u)(h2:iR w w.heap.size A2 l2)(he:u.map hZ=l2.map hZ)(hn:u.length<=1000)(hk:∀g∈u,g.names.length<=1000) :
 Calls prog 18 #[U A1 u.length c1,U A2 l2.length c2] w (cy (λr=>r=true) w):=by
 have HR:=J (λw' X=>cy.mono (P:=λr=>r=true) (w:=w) (w':=w') rfl X);have Y:=congrArg length he;rw[lM,lM]at Y;have y:=J (λW(e:E w W)=>(h1.below e).more e.size);have G:=J (λW(e:E w W)=>(h2.below e).more e.size);have D:Kp (∀ k a(b:k<l2.length),hZ u[k]=hZ l2[k]):=(λk a b=>by
  have:=congrArg (λl=>l[k]?) he;grind)
 have Z:=J hk;generalize cy (λr=>r=true) w=Q at*;obtain⟨n,H⟩:=e_ u.length;rw[<-Y,H];have z:=J (And.intro H (Y.symm.trans H));rw[H]at hn;clear h1 h2 he hk Y H;go_in;go_wp2;go_loopw [14] (λB wr=>∃k:Nat,k<=n/\B = N k/\E w wr) (λB _=>n-(intOf B).toNat)
 case atStart=>exact⟨0,o_,rfl,bR⟩
 .obtain⟨k,hk,rfl,X⟩:=hrel;obtain⟨wo,rfl⟩:∃wo,wo=wr:=⟨_,rfl⟩;have V:=J X;clear X;by_cases T:k<n
  .have f:k<u.length:=by rw[z.1];omega
   have s:k<l2.length:=by rw[z.2];omega
   have z:=D k f s;have D:=J (λW e=>(y W e).cells k f);have C:=J (λW e=>(G W e).cells k s);have O:=J (λW e=>(y W e).each _ (gM f));have M:=J (λW e=>(G W e).each _ (gM s));have L:=Z _ (gM f);generalize(u[k]'f)=x at*;generalize(l2[k]'s)=y at*;clear f s;obtain⟨G,Z,G,ag⟩:=x;obtain⟨G,G,G,G⟩:=y;injection z with c d;dsimp only at c d L D C O M;subst c d;obtain⟨ac,s0,n0,x0,s1,n1,x1,s2,n2,x2⟩:=ag;dsimp only at D C;obtain⟨m,y⟩:=e_ Z.length;rw[y]at L D C;have Hm:=J y;clear y;have y:0<=(k:Int):=o_;have y:k<(n:Int):=o_;obtain⟨y,y,c,_,R,p1,p2,p3,p4,p5,p6,p7,p8,L,a6⟩:=D _ V;obtain⟨y,y,d,_,F,q1,q2,q3,q4,q5,q6,q7,G,q9,y⟩:=C _ V;subst c d;go_upto_region 6 with fail;go_quiet (fail);have z:=J (below_drewN V nq);clear R p1 p2 p3 p4 p5 p6 p7 p8 L a6 F q1 q2 q3 q4 q5 q6 q7 G q9 y;generalize wo.drewN _=y at*;obtain⟨G,G,c,_,R,_⟩:=D y z;obtain⟨G,G,d,_,F,_⟩:=C y z;injection c with c;injection c with c y _;injection d with d;injection d with d L _;subst c d y L;go_wp2;clear R F;go_loopw [49] (λv wr=>∃q:Nat,q<=m/\v = N q/\E w wr) (λv _=>m-(intOf v).toNat)
   case atStart=>exact⟨0,o_,rfl,z⟩
   .obtain⟨q,z,rfl,G⟩:=hrel;have p:=J G;clear G;by_cases I:q<m
    .have A:q<(Z.map Value.string).length:=by rw[lM,Hm];omega
     obtain⟨z,z,rfl,_,t1⟩:=Row.at_ (O _ p) A;obtain⟨z,z,rfl,_,t2⟩:=Row.at_ (M _ p) A;rw[getElem_map]at t1 t2;generalize(Z[q]'(by rw[Hm];omega))=z at*;obtain⟨_,_,c,_,R,_⟩:=D _ p;obtain⟨_,_,d,_,F,_⟩:=C _ p;injection c with c;injection c with c y _;injection d with d;injection d with d L _;subst c d y L;have y:0<=(q:Int):=o_;have y:q<(m:Int):=o_;clear A;go_upto_region 11 with fail;go_quiet (fail);have Hd:=J (below_drewN p nq);clear R F t1 t2;go_wp2;exact⟨⟨q+1,o_,o_,Hd⟩,o_⟩
    . go_wp2;exact⟨⟨k+1,o_,o_,p⟩,o_⟩
  .have y:=J (HR _ V);go_wp2;exact y
end
end Tc
namespace Tc
open List Go.RowKit Base
def Vx(d:au)(p:Pk):Pk:=if p.bG+1<d.ai.length then{ p with bG:=p.bG+1 }else{ p with g:=false,bG:=0 }
def TL:List (au×Pk)->Nat->List (au×Pk)
 | [],_=>[]
 |(d,p)::L,0=>(d,Vx d p)::L
 |x::L,n+1=>x::TL L n
def Vw:List (au×Pk)->Nat->LN->LN
 | [],_,ks=>ks
 |(d,p)::_,0,ks=>(if p.bG+1<d.ai.length then [((d.ai[p.bG]?).map λt=>lh t (ks.headD 0)).getD 0]else [])++ks.tail
 |x::L,n+1,ks=>if x.2.g=true then ks.headD 0::Vw L n ks.tail else Vw L n ks
def aip(d:au)(p:Pk):(Vx d p).t=p.t/\(∀k,dY d (Vx d p) k=dY d p k):=by
 unfold Vx;split<;>exact⟨rfl,λ_=>rfl⟩
def adI:∀(L:List (au×Pk))(n a:Nat)(k:LN),eo (TL L n) a k=eo L a k
 | [],_,_,_=>by rfl
 |(d,p)::L,0,a,k=>by
  obtain⟨h1,h2⟩:=aip d p;rw[TL,eo,eo,h1,h2]
 |(d,p)::L,n+1,a,k=>by rw[TL,eo,eo,adI]
def adH:∀(L:List (au×Pk))(n a:Nat)(k:LN),(∀x,L[n]? = some x->x.2.g=true/\x.2.bG<x.1.ai.length)->dO (TL L n) a k=Vw L n (dO L a k)
 | [],_,_,_,_=>by rfl
 |(d,p)::L,0,a,k,h=>by
  obtain⟨b,c⟩:=h _ rfl;dsimp only at b c;rw[TL,Vw,dO,dO,if_pos b];unfold Vx;split
  .dsimp only;rw[bN,gE c];rfl
  rfl
 |(d,p)::L,n+1,a,k,h=>by
  rw[TL,Vw,dO,dO,adH L n _ k h];grind
def aiu(ps:List (LN×Ag))(L:List (au×Pk))(n:Nat)(h:∀x,L[n]? = some x->x.2.g=true/\x.2.bG<x.1.ai.length):dH ps (TL L n)=(dH ps L).map λx=>(Vw L n x.1,x.2):=by
 unfold dH;rw[map_map];have e:(ps.filter λx=>eo (TL L n) 0 _)=ps.filter λx=>eo L 0 x.1:=filter_congr λx _=>by rw[adI]
 rw[e];exact map_congr_left λx _=>by rw[adH L n 0 _ h];rfl
def a8I:∀(L:List (au×Pk))(n:Nat)(ks:LN)(d:au)(p:Pk),L[n]? = some (d,p)->p.g=true->fS L ks ->
 cX (TL L n) (Vw L n ks)=(cX L ks).take (qw (L.take n))++(if p.bG+1<d.ai.length then [eI d (p.bG+1) (((d.ai[p.bG]?).map λt=>lh t (ks.getD (qw (L.take n)) 0)).getD 0)]else [])++(cX L ks).drop (qw (L.take n)+1) /\
 qw (L.take n)<ks.length/\(cX L ks)[qw (L.take n)]? = some (eI d p.bG (ks.getD (qw (L.take n)) 0))/\ks.getD (qw (L.take n)) 0<(bE d p.bG).length
 | [],_,_,_,_,h,_,_=>by simp at h
 |(c,p')::L,0,ks,d,p,h,e,hk=>by
  injection h with h
  injection h with h1 h2
  subst h1 h2;rw[fS,if_pos e]at hk;obtain⟨k,r,rfl,v,x⟩:=hk;have f:qw (((c,p')::L).take 0)=0:=rfl;rw[f,TL,Vw];refine⟨?_,s_,by rw[cX,if_pos e];rfl,v⟩;show cX ((c,Vx c p')::L) ((if p'.bG+1<c.ai.length then [((c.ai[p'.bG]?).map λt=>lh t k).getD 0]else [])++r)=_;rw[cX,cX,if_pos e];unfold Vx;grind
 |(c,p')::L,n+1,ks,d,p,h,e,hk=>by
  by_cases b:p'.g=true
  .rw[fS,if_pos b]at hk;obtain⟨k,r,rfl,v,x⟩:=hk;obtain⟨q,u,m,s⟩:=a8I L n r d p h e x;have f:qw (((c,p')::L).take (n+1))=qw (L.take n)+1:=by
    rw[take_succ_cons,ze,if_pos b,Nat.add_comm]
   have y:(k::r).getD (qw (L.take n)+1) 0=r.getD (qw (L.take n)) 0:=s_
   rw[f,y];refine⟨?_,o_,?_,s⟩
   .rw[TL,Vw,if_pos b];show cX ((c,p')::TL L n) (k::Vw L n r)=_;rw[cX,cX,if_pos b,if_pos b];grind
   .rw[cX,if_pos b];exact m
  .rw[fS,if_neg b]at hk;obtain⟨q,u,m,s⟩:=a8I L n _ d p h e hk;have f:qw (((c,p')::L).take (n+1))=qw (L.take n):=by
    rw[take_succ_cons,ze,if_neg b,Nat.zero_add]
   rw[f];refine⟨?_,u,by rw[cX,if_neg b];omega,s⟩;rw[TL,Vw,if_neg b,cX,cX,if_neg b,if_neg b];omega
def a8H:∀(L:List (au×Pk))(n:Nat)(ks:LN),(∀x∈L,da x.1/\gz x.1 x.2)->(∀x,L[n]? = some x->x.2.g=true)->fS L ks->fS (TL L n) (Vw L n ks)
 | [],_,_,_,_,h=>h
 |(d,p)::L,0,ks,q,c,hk=>by
  have c:=c _ rfl;obtain⟨hd,y⟩:=q _ mem_cons_self;dsimp only at c hd y;rw[fS,if_pos c]at hk;obtain⟨k,r,rfl,f,m⟩:=hk;rw[TL,Vw];unfold Vx;split
  .rename_i v;rw[fS];dsimp only;rw[if_pos c];refine⟨_,r,rfl,?_,m⟩;have e:=y.bG;have z:(bE d p.bG)=(d.ai[p.bG]'e).ar:=by unfold bE;rw[gE e];rfl
   rw[z]at f;have s:=rz hd v f;unfold bE;rw[gE v,gE e];show lh (d.ai[p.bG]'e) k<_;have A:dp d p.bG 1 k=lh (d.ai[p.bG]'e) k:=by
    rw[dp,Nat.add_zero,gE e];rfl
   grind
  .rw[fS];grind
 |(d,p)::L,n+1,ks,q,c,hk=>by
  have u:=λks h=>a8H L n ks (λx hx=>q x (mem_cons_of_mem _ hx)) (λx hx=>c x hx) h;rw[TL,Vw];by_cases b:p.g=true
  .rw[fS,if_pos b]at hk;obtain⟨k,r,rfl,f,m⟩:=hk;rw[fS,if_pos b,if_pos b];grind
  .rw[fS,if_neg b]at hk;rw[fS,if_neg b,if_neg b];grind
def Xz:List ByteArray->List ByteArray->Bool
 |a::x,b::y=>if a.toList == b.toList then Xz x y else tK a b
 |_,_=>false
def a8y{d:au}{t k:Nat}(h:k<(bE d t).length):eI d t k=(bE d t)[k]:=by
 unfold eI;rw[gE h];rfl
def aiB{d:au}(h:da d){t k:Nat}(hk:k<(bE d t).length):eu (bE d t):=by
 unfold bE at hk⊢;rcases e:d.ai[t]? with _|x
 .grind
 .obtain⟨h1,rfl⟩:=aO e;exact(h.ai t h1).row
def ady{d:au}(h:da d){t i j:Nat}(hi:i<(bE d t).length)(b:j<(bE d t).length):tK (eI d t i) (eI d t j)=decide (i<j)/\((eI d t i).toList == (eI d t j).toList)=decide (i=j):=by
 rw[a8y hi,a8y b];have c:=aiB h hi;refine⟨c.less hi b,?_⟩;by_cases e:i=j
 .grind
 .rw[decide_eq_false e];have h1:=c.less hi b;have h2:=c.less b hi;grind
def a2C:∀(L:List (au×Pk))(ks:LN),fS L ks->(cX L ks).length=ks.length
 | [],ks,h=>by rw[fS]at h;subst h;rfl
 |(d,p)::L,ks,h=>by
  rw[fS]at h;rw[cX];by_cases b:p.g=true
  .rw[if_pos b]at h;obtain⟨k,r,rfl,_,h2⟩:=h;rw[if_pos b];show _+1=r.length+1;rw[show(k::r).tail=r from rfl,a2C L r h2]
  .rw[if_neg b]at h;rw[if_neg b];exact a2C L _ h
def a5E:∀(L:List (au×Pk))(a b:LN),(∀x∈L,da x.1)->fS L a->fS L b->(cX L a=cX L b↔a=b)/\Xz (cX L a) (cX L b)=decide (aI a b<0)
 | [],a,b,_,c,f=>by
  rw[fS]at c f;subst c f;trivial
 |(d,p)::L,a,b,s,c,f=>by
  have u:=λa b c f=>a5E L a b (λx hx=>s x (mem_cons_of_mem _ hx)) c f;rw[fS]at c f;rw[cX,cX];by_cases m:p.g=true
  .rw[if_pos m]at c f;obtain⟨i,r,rfl,h1,h2⟩:=c;obtain⟨j,q,rfl,v,y⟩:=f;rw[if_pos m,if_pos m];obtain⟨n1,n2⟩:=ady (s _ mem_cons_self) h1 v;obtain⟨n,A⟩:=u r q h2 y;dsimp only[headD_cons,tail_cons]at*;constructor
   .grind
   .rw[Xz,n2,n1,A];show _=decide ((if i<j then(-1:Int)else if j<i then 1 else aI r q)<0);grind
  grind
def ev.ins{P X Y:List (LN×Ag)}{key:LN}{a:Ag}(h:ev P (X++Y))(hx:∀x∈X,aI x.1 key<0)(m:∀y∈Y,aI key y.1<0):ev (P++[(key,a)]) (X++(key,a)::Y):=by
 have g:¬ ∃x∈P,x.1=key:=λr=>by
  obtain⟨z,b,e⟩:=(h.keys _).2 r;obtain b|b:=mem_append.1 b
  .have:=hx z b;rw[e,nX]at this;omega
  .have:=m z b;rw[e,nX]at this;omega
 have p:∀z∈X++Y,z.1≠key:=λz b e=>g ((h.keys _).1 ⟨z,b,e⟩);obtain⟨s,n,q⟩:=pairwise_append.1 h.up;refine⟨pairwise_append.2 ⟨s,pairwise_cons.2 ⟨m,n⟩,λx c y d=> ?_⟩,λk=> ?_,λx c=> ?_⟩
 .grind
 .have h1:=h.keys k;constructor
  .rintro⟨x,c,rfl⟩;obtain b|b:=mem_append.1 c
   .obtain⟨y,h2,f⟩:=h1.1 ⟨x,mem_append_left _ b,rfl⟩;grind
   .obtain rfl|b:=mem_cons.1 b
    .simp
    .obtain⟨y,h2,f⟩:=h1.1 ⟨x,mem_append_right _ b,rfl⟩;grind
  .rintro⟨x,c,rfl⟩;obtain b|b:=mem_append.1 c
   .obtain⟨y,h2,f⟩:=h1.2 ⟨x,b,rfl⟩;grind
   grind
 .have b:x=(key,a)\/x∈X++Y:=r_
  obtain rfl|b:=b
  .rw[uw,Qu g];show cW az (([(key,a)].filter λx=>x.1 == key).map Prod.snd)=_;rw[show([(key,a)]).filter (λx=>x.1 == key)=[(key,a)] by simp];rfl
  .rw[Qv (p x b)];exact h.sum x b
def ev.put{P X Y:List (LN×Ag)}{key:LN}{a b j:Ag}(h:ev P (X++(key,b)::Y))(q:aR b a=some j):ev (P++[(key,a)]) (X++(key,j)::Y):=by
 have hk:∀x:LN,(∃z∈X++(key,j)::Y,z.1=x)↔∃z∈X++(key,b)::Y,z.1=x:=λx=>by
  constructor
  all_goals
   rintro⟨z,c,rfl⟩;obtain c|c:=mem_append.1 c
   .grind
   .obtain rfl|c:=mem_cons.1 c
    .exact⟨_,mem_append_right _ mem_cons_self,rfl⟩
    grind
 obtain⟨v,r,m⟩:=pairwise_append.1 h.up;obtain⟨n,s⟩:=pairwise_cons.1 r;have p:=(h.keys key).1 ⟨_,mem_append_right _ mem_cons_self,rfl⟩;refine⟨pairwise_append.2 ⟨v,pairwise_cons.2 ⟨n,s⟩,λx d y f=> ?_⟩,λk=> ?_,λx d=> ?_⟩
 .obtain rfl|f:=mem_cons.1 f
  .exact m x d (key,b) mem_cons_self
  grind
 .rw[hk,h.keys];constructor
  .rintro⟨z,c,rfl⟩;grind
  grind
 .have g:=h.sum _ (mem_append_right _ mem_cons_self);have c:x=(key,j)\/(x∈X++(key,b)::Y/\x.1≠key):=by
   obtain c|c:=mem_append.1 d
   .refine .inr ⟨mem_append_left _ c,λe=> ?_⟩;have:=m x c _ mem_cons_self;rw[e,nX]at this;omega
   .obtain c|c:=mem_cons.1 c
    .grind
    .refine .inr ⟨mem_append_right _ (mem_cons_of_mem _ c),λe=> ?_⟩;have:=n x c;rw[e,nX]at this;omega
  obtain rfl|⟨c,u⟩:=c
  .rw[uw];dsimp only at g⊢;rw[g];show cW b (([(key,a)].filter λx=>x.1 == key).map Prod.snd)=_;rw[show([(key,a)]).filter (λx=>x.1 == key)=[(key,a)] by simp];show(aR b a).bind some=_;rw[q];rfl
  .rw[Qv u];exact h.sum x c
def a7z:∀(k:Nat)(x y:List ByteArray),x.length=y.length->k<=x.length->(∀i,i<k->x[i]? = y[i]?)->Xz x y=Xz (x.drop k) (y.drop k)
 |0,_,_,_,_,_=>rfl
 |_+1,[],_,_,h,_=>by cases h
 |_+1,_::_,[],h,_,_=>by cases h
 |k+1,a::x,b::y,h,hk,c=>by
  have h0:=c 0 o_;injection h0 with h0;subst h0;rw[Xz,if_pos s_];exact a7z k x y r_ r_ λi hi=>r_
def agl(x y:Gp)(w:World)(hx:Row w w.heap.size x.A (x.names.map .string))(hy:Row w w.heap.size y.A (y.names.map .string))(hn:x.names.length<=1000) :
 Calls Tryz.prog 123 #[.agg (YA x),.agg (YA y)] w λe w'=>e = .returned (.bool (decide (x.names=y.names)))/\Below w.heap.size w w':=by
 have Hx:=kp (λW(G:Below _ w W)=>(hx.below G).more G.size);have Hy:=kp (λW(G:Below _ w W)=>(hy.below G).more G.size);obtain⟨V,C⟩:∃V,decide (x.names=y.names)=V:=⟨_,rfl⟩;have H:=kp (show x.names.length≠y.names.length->false=V fromλh=>r_);have e1:=kp (show∀ k a(b:k<y.names.length),x.names[k]≠y.names[k]->false=V fromλk a b h=>r_);have B:=kp (show x.names.length=y.names.length->(∀i,i<x.names.length->x.names[i]? = y.names[i]?)->true=V fromλh1 h2=>by
  rw[<-C];refine(decide_eq_true (ext_getElem? λi=> ?_)).symm;grind)
 rw[C];have HQ:=kp (show∀b w',b=V->Below _ w _->(λ(e:Ending) w'=>e = .returned _/\Below w.heap.size w w') (.returned (.bool b)) w' fromλb w' h p=>⟨by rw[h],p⟩);generalize(λ(e:Ending) w'=>e = .returned _/\Below _ w _)=Q at*;clear C hx hy;obtain⟨D,xs,z,⟨a0,a1,a2,a3,a4,a5,a6,a7,a8,a9⟩⟩:=x;obtain⟨q,ys,u,⟨U,v,F,Y,G,L,b6,Z,V,O⟩⟩:=y;unfold YA;dsimp only at*;obtain⟨n,I⟩:∃n,xs.length=n:=⟨_,rfl⟩;obtain⟨m,R⟩:∃m,ys.length=m:=⟨_,rfl⟩;rw[I]at hn⊢;rw[R];rw[I,R]at H B;have HN:=kp I;have HM:=kp R;clear I R;have J:=(ah _ w).alloc (ae _) (.cells #[.slice D n z,.int .i64 a0,.int .i64 a1,.int .i64 a2,.int .i64 a3,.int .i64 a4,.int .i64 a5,.int .i64 a6,.int .i64 a7,.int .i64 a8,.int .i64 a9] 80);have f:=aa.new w 80 #[.slice D n z,.int .i64 a0,.int .i64 a1,.int .i64 a2,.int .i64 a3,.int .i64 a4,.int .i64 a5,.int .i64 a6,.int .i64 a7,.int .i64 a8,.int .i64 a9];obtain⟨r,Sf⟩:∃r,w.alloc (.cells #[.slice D n z,.int .i64 a0,.int .i64 a1,.int .i64 a2,.int .i64 a3,.int .i64 a4,.int .i64 a5,.int .i64 a6,.int .i64 a7,.int .i64 a8,.int .i64 a9] 80)=r:=⟨_,rfl⟩;rw[Sf]at J f;have ng:=J.alloc J.size (.cells #[.slice q m u,.int .i64 U,.int .i64 v,.int .i64 F,.int .i64 Y,.int .i64 G,.int .i64 L,.int .i64 b6,.int .i64 Z,.int .i64 V,.int .i64 O] 80);have c:=aa.new r 80 #[.slice q m u,.int .i64 U,.int .i64 v,.int .i64 F,.int .i64 Y,.int .i64 G,.int .i64 L,.int .i64 b6,.int .i64 Z,.int .i64 V,.int .i64 O];have d:=f.alloc (.cells #[.slice q m u,.int .i64 U,.int .i64 v,.int .i64 F,.int .i64 Y,.int .i64 G,.int .i64 L,.int .i64 b6,.int .i64 Z,.int .i64 V,.int .i64 O] 80);obtain⟨g,Sr⟩:∃g,r.alloc (.cells #[.slice q m u,.int .i64 U,.int .i64 v,.int .i64 F,.int .i64 Y,.int .i64 G,.int .i64 L,.int .i64 b6,.int .i64 Z,.int .i64 V,.int .i64 O] 80)=g:=⟨_,rfl⟩;rw[Sr]at ng c d;have HX:=kp d;have HY:=kp c;have X:=kp ng;have G:g.cell? _=some (.slice D n z):=d.cell 0;have N:g.cell? _=some (.slice q m u):=c.cell 0;clear J ng f d c;by_cases L:n=m;rotate_left
 .have O:(n != (m:Int))=true:=o_
  have E:=kp (HQ _ g (H L) X);go_enter Tryz.func123,Tryz.ntmps123;go_wp2;exact E
 .subst L
  go_enter Tryz.func123,Tryz.ntmps123;go_wp2;clear G N Sf Sr;go_loopw [16] (λL wr=>∃k:Nat,k<=n/\L = .int .i64 (k:Nat)/\(∀i,i<k->xs[i]? = ys[i]?)/\Below g.heap.size g wr) (λL _=>n-(intOf L).toNat)
  case atStart=>exact⟨0,o_,rfl,λi h=>o_,bR⟩
  case round=>
   obtain⟨k,hk,rfl,V,p⟩:=hrel;have O:=kp V;have xD:=kp p;have L:=ay X p;have G:wr.cell? _=some (.slice D n z):=(HX.o.under p).cell 0;have N:wr.cell? _=some (.slice q n u):=(HY.o.under p).cell 0;clear p V;by_cases u:k<n
   .have M:k<xs.length:=by rw[HN];omega
    have T:k<ys.length:=by rw[HM];omega
    obtain⟨v,u,rfl,_,t1⟩:=Row.at_ (Hx _ L) (by rw[lM];exact M);obtain⟨F,u,rfl,_,t2⟩:=Row.at_ (Hy _ L) (by rw[lM];exact T);rw[getElem_map]at t1 t2;have Hd:=kp (e1 k M T);have V:=kp (show xs[k]=ys[k]->∀i,i<k+1->xs[i]? = ys[i]? fromλh i hi=>by
     by_cases e:i=k
     .grind
     .exact O i o_)
    generalize(xs[k]'M)=s at*;generalize(ys[k]'T)=t at*;have u:0<=(k:Int):=o_
    have u:k<(n:Int):=o_
    by_cases u:s=t
    .subst u;go_upto_region 6 with fail;go_quiet (fail);have D:=kp (below_drewN xD nq);clear G N t1 t2;go_wp2;exact⟨⟨_,o_,o_,V rfl,D⟩,o_⟩
    .have V:(s.toList == t.toList)=false:=by
      rw[beq_eq_false_iff_ne];intro h;rw[Lib.toList_data,Lib.toList_data]at h;exact u (by cases s;cases t;simpa using h)
     go_upto_region 6 with fail;go_quiet (fail);have D:=kp (below_drewN xD nq);clear G N t1 t2;have E:=kp (HQ _ _ (Hd u) (X.o.trans (D.o.mono X.o.size)));go_wp2;exact E
   .have u:k=n:=o_
    have E:=kp (HQ _ _ (B trivial λi a=>O i o_) L);clear u;go_wp2;exact E
def agk(x y:Gp)(w:World)(hx:Row w w.heap.size x.A (x.names.map .string))(hy:Row w w.heap.size y.A (y.names.map .string))(hn:x.names.length<=1000)(R:x.names.length=y.names.length) :
 Calls Tryz.prog 124 #[.agg (YA x),.agg (YA y)] w λe w'=>e = .returned (.bool (Xz x.names y.names))/\Below w.heap.size w w':=by
 have Hx:=kp (λW(I:Below _ w W)=>(hx.below I).more I.size);have Hy:=kp (λW(I:Below _ w W)=>(hy.below I).more I.size);obtain⟨V,U⟩:∃V,Xz x.names y.names=V:=⟨_,rfl⟩;have e6:=kp (show∀ k a(b:k<y.names.length),(∀i,i<k->x.names[i]? = y.names[i]?)->(x.names[k].toList == y.names[k].toList)=false->Op.bytesLess _ _=V fromλk a b h u=>by
  rw[<-U,a7z k _ _ R o_ h,drop_eq_getElem_cons a,drop_eq_getElem_cons b,Xz,u];rfl)
 have B:=kp (show(∀i,i<x.names.length->x.names[i]? = y.names[i]?)->false=V fromλh=>by
  rw[<-U,a7z _ _ _ R o_ h,drop_length];rfl)
 rw[U];have HQ:=kp (show∀b w',b=V->Below _ w _->(λ(e:Ending) w'=>e = .returned _/\Below w.heap.size w w') (.returned (.bool b)) w' fromλb w' h q=>⟨by rw[h],q⟩);generalize(λ(e:Ending) w'=>e = .returned _/\Below _ w _)=Q at*;clear U hx hy;obtain⟨D,xs,z,⟨a0,a1,a2,a3,a4,a5,a6,a7,a8,a9⟩⟩:=x;obtain⟨C,ys,J,⟨Z,u,G,O,b4,N,b6,V,b8,X⟩⟩:=y;unfold YA;dsimp only at*;obtain⟨n,L⟩:∃n,xs.length=n:=⟨_,rfl⟩;have hM:=R.symm.trans L;rw[L]at hn B⊢;rw[hM];have HN:=kp L;have HM:=kp hM;clear L hM R;have M:=(ah _ w).alloc (ae _) (.cells #[.slice D n z,.int .i64 a0,.int .i64 a1,.int .i64 a2,.int .i64 a3,.int .i64 a4,.int .i64 a5,.int .i64 a6,.int .i64 a7,.int .i64 a8,.int .i64 a9] 80);have f:=aa.new w 80 #[.slice D n z,.int .i64 a0,.int .i64 a1,.int .i64 a2,.int .i64 a3,.int .i64 a4,.int .i64 a5,.int .i64 a6,.int .i64 a7,.int .i64 a8,.int .i64 a9];obtain⟨F,Sf⟩:∃F,w.alloc (.cells #[.slice D n z,.int .i64 a0,.int .i64 a1,.int .i64 a2,.int .i64 a3,.int .i64 a4,.int .i64 a5,.int .i64 a6,.int .i64 a7,.int .i64 a8,.int .i64 a9] 80)=F:=⟨_,rfl⟩;rw[Sf]at M f;have L:=M.alloc M.size (.cells #[.slice C n J,.int .i64 Z,.int .i64 u,.int .i64 G,.int .i64 O,.int .i64 b4,.int .i64 N,.int .i64 b6,.int .i64 V,.int .i64 b8,.int .i64 X] 80);have g:=aa.new F 80 #[.slice C n J,.int .i64 Z,.int .i64 u,.int .i64 G,.int .i64 O,.int .i64 b4,.int .i64 N,.int .i64 b6,.int .i64 V,.int .i64 b8,.int .i64 X];have c:=f.alloc (.cells #[.slice C n J,.int .i64 Z,.int .i64 u,.int .i64 G,.int .i64 O,.int .i64 b4,.int .i64 N,.int .i64 b6,.int .i64 V,.int .i64 b8,.int .i64 X] 80);obtain⟨v,Sr⟩:∃v,F.alloc (.cells #[.slice C n J,.int .i64 Z,.int .i64 u,.int .i64 G,.int .i64 O,.int .i64 b4,.int .i64 N,.int .i64 b6,.int .i64 V,.int .i64 b8,.int .i64 X] 80)=v:=⟨_,rfl⟩;rw[Sr]at L g c;have HX:=kp c;have HY:=kp g;have V:=kp L;have d:v.cell? _=some (.slice D n z):=c.cell 0;clear M L f c g;go_enter Tryz.func124,Tryz.ntmps124;go_wp2;clear d Sf Sr;go_loopw [9] (λL wr=>∃k:Nat,k<=n/\L = .int .i64 (k:Nat)/\(∀i,i<k->xs[i]? = ys[i]?)/\Below v.heap.size v wr) (λL _=>n-(intOf L).toNat)
 case atStart=>exact⟨0,o_,rfl,λi h=>o_,bR⟩
 case round=>
  obtain⟨k,hk,rfl,O,q⟩:=hrel;have L:=kp O;have xD:=kp q;have U8:=ay V q;have d:wr.cell? _=some (.slice D n z):=(HX.o.under q).cell 0;have m:wr.cell? _=some (.slice C n J):=(HY.o.under q).cell 0;clear q O;by_cases D:k<n
  .have O:k<xs.length:=by rw[HN];omega
   have Y:k<ys.length:=by rw[HM];omega
   obtain⟨u,u,rfl,_,t1⟩:=Row.at_ (Hx _ U8) (by rw[lM];exact O);obtain⟨G,u,rfl,_,t2⟩:=Row.at_ (Hy _ U8) (by rw[lM];exact Y);rw[getElem_map]at t1 t2;have Hd:=kp (e6 k O Y L);have G:=kp (show xs[k]=ys[k]->∀i,i<k+1->xs[i]? = ys[i]? fromλh i hi=>by
    by_cases e:i=k
    .grind
    .exact L i o_)
   generalize(xs[k]'O)=s at*;generalize(ys[k]'Y)=t at*;have u:0<=(k:Int):=o_
   have u:k<(n:Int):=o_
   have E:=kp (And.intro (And.intro d m) (And.intro t1 t2));by_cases D:s=t
   .subst D;go_upto_region 4 with fail;go_quiet (fail);have u:=kp (below_drewN xD nq);clear d m t1 t2 E;go_wp2;exact⟨⟨_,o_,o_,G rfl,u⟩,o_⟩
   .have G:(s.toList == t.toList)=false:=by
     rw[beq_eq_false_iff_ne];intro h;rw[Lib.toList_data,Lib.toList_data]at h;exact D (by cases s;cases t;simpa using h)
    go_upto_region 4 with fail;go_quiet (fail);have u:=kp (below_drewN xD nq);clear d m t1 t2;have D:=kp (λW h=>HQ _ W (Hd G) h);have H:=kp (V.o.trans (u.o.mono V.o.size));obtain⟨⟨d,m⟩,t1,t2⟩:=E.o;obtain⟨wn,r⟩:∃wn,wr.drewN nq=wn:=⟨_,rfl⟩;have T:=kp (show(∀p:Addr,wn.cell? p=wr.cell? p)fromλp=>by rw[<-r];rfl);rw[r]at u H⊢;have d:=(T _).trans d;have m:=(T _).trans m;have t1:=(T _).trans t1;have t2:=(T _).trans t2;clear r;go_upto_region 5 with fail;go_quiet (fail);have u:=kp (below_drewN H nq);clear d m t1 t2;go_wp2;exact D _ u
  .have u:k=n:=o_
   have D:=kp (HQ _ _ (B λi a=>L i o_) U8);clear u;go_wp2;exact D
def adC{B:Nat}{e:TypeId}{sz g n c:Nat}:∀(b xs:LV)(o:Nat)(w:World),w.ownsRow B e sz (.slice (some ⟨g,0,none⟩) n c) n xs->o+b.length<=xs.length ->
 (aH w g o b).ownsRow B e sz (.slice (some ⟨g,0,none⟩) n c) n (xs.take o++b++xs.drop (o+b.length))
 | [],xs,o,w,h,_=>by simpa[aH]using h
 |v::b,xs,o,w,h,p=>by
  rw[length_cons]at p;have h1:=adC b _ (o+1) _ (dG h (i:=o) o_ v) o_;obtain⟨P,x,R,rfl,rfl⟩:∃P x R,xs=P++x::R/\o=P.length:=⟨xs.take o,xs[o]' o_,xs.drop (o+1),o_,o_⟩;have e:(P++x::R).set P.length v=(P++[v])++R:=s_
  rw[e]at h1;have f:((P++[v])++R).take (P.length+1)=P++[v]:=r_
  have m:((P++[v])++R).drop (P.length+1+b.length)=R.drop b.length:=by
   rw[show P.length+1+b.length=(P++[v]).length+b.length by simp,drop_length_add_append]
  have d:(P++x::R).drop (P.length+(v::b).length)=R.drop b.length:=s_
  rw[f,m]at h1;rw[d,take_left];simpa[aH]using h1
def a5F(w:World)(e:TypeId)(sz:Nat):(w.alloc (.cells #[] e)).ownsRow w.heap.size e sz (.slice (some ⟨w.heap.size,0,none⟩) 0 0) 0 []:=
 ⟨s_,.inr ⟨_,0,_,rfl,o_,aa.new w e _,o_,o_,s_,s_⟩⟩
def a8B{w:World}{B n c:Nat}{A:OA}{xs:LV}{e:TypeId}{sz:Nat}(h:w.ownsRow B e sz (.slice A n c) n xs)(f:0<n):∃g,A=some ⟨g,0,none⟩/\B<=g:=by
 obtain⟨_,h0⟩|⟨g,cap,cur,e,b,_⟩:=h.2
 .omega
 grind
def a0X{w w':World}{g:Nat}{s b c m n r f d p q u:Value}(x:w'.heap[g]? = w.heap[g]?)(h:w.cell? ⟨g,0,none⟩=some s/\w.cell? ⟨g,1,none⟩=some b/\w.cell? ⟨g,2,none⟩=some c/\w.cell? ⟨g,3,none⟩=some m/\w.cell? ⟨g,4,none⟩=some n/\w.cell? ⟨g,5,none⟩=some r/\w.cell? ⟨g,6,none⟩=some f/\w.cell? ⟨g,7,none⟩=some d/\w.cell? ⟨g,8,none⟩=some p/\w.cell? ⟨g,9,none⟩=some q/\w.cell? ⟨g,10,none⟩=some u):w'.cell? ⟨g,0,none⟩=some s/\w'.cell? ⟨g,1,none⟩=some b/\w'.cell? ⟨g,2,none⟩=some c/\w'.cell? ⟨g,3,none⟩=some m/\w'.cell? ⟨g,4,none⟩=some n/\w'.cell? ⟨g,5,none⟩=some r/\w'.cell? ⟨g,6,none⟩=some f/\w'.cell? ⟨g,7,none⟩=some d/\w'.cell? ⟨g,8,none⟩=some p/\w'.cell? ⟨g,9,none⟩=some q/\w'.cell? ⟨g,10,none⟩=some u:=by
 have v:=h;have e:∀i,w'.cell? _=w.cell? ⟨g,i,none⟩:=λi=>bF x;grind
def a5I{P:Program}{f:Array Oper}{o:Oper}{a:Act}{K:Act->World->Prop}{Q:Exit->Act->World->Prop}{E:Prop}(M:o.guard=none)(s x:Operand)(t:TypeId)
 (p:o.op = .call { callee:= .builtin .append,args:=#[s,x],argTypes:=#[t,t] })
 (base:Nat)(e:TypeId)(i:TypeInfo)(z:Value)(size bytes:Nat)(ht:P.underlying t=some (.slice e))(hi:P.info? e=some i)(F:i.zero=some z)
 (G:i.size=size)(g:i.bytes=bytes)(C:z.cells.size=size)(I:0<size)
 (w:World)(v:Value)(n:Nat)(xs:LV)(L:a.eval s=v)(H:w.ownsRow base e size v n xs)
 (A:OA)(m c B:Nat)(b:LV)(hx:a.eval x = .slice A m c)(r:b.length=m*size)(y:Row w B A b)(h1:∀u∈b,u.oneCell'=true)
 (D:n+m<1048576*64)(q:bytes<=256)(J:base<=w.heap.size)
 (h:∀d w',w'.ownsRow base e size d (n+m) (xs++b)->App w w' v d->K (a.put o.dst d) w') :
 if Region.wanted o (yielded f a.tmps)=true then o.wp P a w K Q else E:=by
 have N:Region.wanted o (yielded f a.tmps)=true:=by simp[Region.wanted,M]
 rw[if_pos N];exact Fu s x t p _ e i z _ _ ht hi F G g C I w v n _ L H A m c B b hx r y h1 D q J h
def a2f(l:List Gp):(l.flatMap mV).length=l.length*11:=by
 induction l with
 |nil=>rfl
 |cons f l b=>rw[flatMap_cons,aE,b,Jn,length_cons];omega
def aaW(l:List Gp)(k:Nat):(l.flatMap mV).take (k*11)=(l.take k).flatMap mV:=by
 induction l generalizing k with
 |nil=>simp
 |cons f l b=>
  cases k with
  |zero=>rfl
  |succ k=>
   rw[flatMap_cons,take_succ_cons,flatMap_cons,show(k+1)*11=(mV f).length+k*11 by rw[Jn];omega,take_length_add_append,b]
def a7B(l:List Gp)(k:Nat):(l.flatMap mV).drop (k*11)=(l.drop k).flatMap mV:=by
 induction l generalizing k with
 |nil=>simp
 |cons f l b=>
  cases k with
  |zero=>rfl
  |succ k=>
   rw[flatMap_cons,drop_succ_cons,show(k+1)*11=(mV f).length+k*11 by rw[Jn];omega,drop_length_add_append,b]
def a7C(l:List Gp):∀u∈l.flatMap mV,u.oneCell'=true:=λu b=>by
 obtain⟨f,_,c⟩:=mem_flatMap.1 b;exact a7A f u c
def gsA(A:OA)(k c:Nat):OA:=if c=k then A else A.map λa=>a.add (k*11)
def aif:(Tryz.prog.info? 80).map (·.size)=some 11:=by kernel_rfl
def aaY(A:OA)(n c k:Nat)(h:k<=c)(W:World):(Instr.slice 47 (.slice A n c) none (some (.int .i64 (k:Nat))) none).run Tryz.prog W = .ok (.slice A k c) W:=by
 have h1:k<=(c:Int):=o_
 simp[go_sem,h]
def aaX(A:OA)(n c k:Nat)(h:k<=n)(d:n<=c)(W:World):(Instr.slice 47 (.slice A n c) (some (.int .i64 (k:Nat))) none none).run Tryz.prog W = .ok (.slice (gsA A k c) (n-k) (c-k)) W:=by
 have h1:k<=(n:Int):=o_
 obtain⟨i,b,e⟩:=Option.map_eq_some_iff.1 aif;unfold gsA;by_cases hk:c=k
 .subst hk;cases A<;>simp[go_sem,h1,e]
 .cases A<;>simp[go_sem,h1,e]
def aaV{w:World}{B n c:Nat}{A:OA}{l:List Gp}(h:w.ownsRow B 80 11 (.slice A n c) n (l.flatMap mV))(k:Nat)(hk:k<=n):Row w w.heap.size (gsA A k c) ((l.drop k).flatMap mV):=by
 obtain⟨f,p⟩:=h;obtain⟨_,h0⟩|⟨g,cap,cur,e,y,d,x,u,z,ht⟩:=p
 .have:l=[]:=length_eq_zero_iff.1 (by rw[a2f]at f;omega);subst this;exact .inl s_
 .injection e with r _ m;subst r m;have s:=aa.lt d;unfold gsA;by_cases q:c=k
  .left;rw[<-a7B,drop_eq_nil_of_le o_]
  .rw[if_neg q];refine .inr ⟨g,k*11,by simp[Addr.add];omega,s,λi v b=> ?_⟩;rw[<-a7B,getElem?_drop,<-ht,getElem?_take]at b;split at b
   .rw[aa.cell d,<-Array.getElem?_toList];omega
   .cases b
def aaU{w:World}{B n c:Nat}{A:OA}{l:List Gp}(h:w.ownsRow B 80 11 (.slice A n c) n (l.flatMap mV)){k:Nat}(hk:k<=n):w.ownsRow B 80 11 (.slice A k c) k ((l.take k).flatMap mV):=by
 obtain⟨h1,h2⟩:=h;obtain⟨b,h0⟩|⟨g,cap,cur,b,e,f,s,r,q,ht⟩:=h2
 .obtain rfl:k=0:=o_
  subst h0;exact⟨s_,.inl ⟨b,rfl⟩⟩
 .injection b with m _ d;subst m d;have p:l.length=n:=by rw[a2f]at h1;omega
  refine⟨by rw[a2f,length_take,p];omega,.inr ⟨g,c,_,rfl,e,f,o_,r,q,?_⟩⟩;rw[<-aaW,<-ht,take_take];congr 1;omega
structure WE(w:World)(B:Nat)(A:OA)(c:Nat)(l:List Gp):Prop where
 own:w.ownsRow B 80 11 (.slice A l.length c) l.length (l.flatMap mV)
 each:∀x∈l,jM w B (.slice A l.length c) x
def WE.nil(w:World)(B:Nat):WE w B none 0 []:=⟨cK _ _ _ _,λ_ h=>r_⟩
def WE.below{w w':World}{B:Nat}{A:OA}{c:Nat}{l:List Gp}(h:WE w B A c l)(b:Below w.heap.size w w'):WE w' B A c l:=⟨bS h.own b,λx hx=>(h.each x hx).below b⟩
def WE.at_{w:World}{B:Nat}{A:OA}{c:Nat}{l:List Gp}(h:WE w B A c l):iR w w.heap.size A l:=⟨dF h.own,λg b=>(h.each g b).row⟩
def a2T(B:Nat)(A:OA)(c:Nat)(l:List Gp)(g:Gp)(w:World)(e:Ending)(w':World):Prop:=
 ∃(d:OA)(f:Nat)(b:List Gp),e = .returned (.slice d b.length f)/\WE w' B d f b/\aq (λk=>(Value.slice A l.length c).ownBlock=some k) w w' /\
  ((∃X y Y,l=X++y::Y/\y.names=g.names/\b=X++⟨g.A,g.names,g.c,(aR y.ag g.ag).getD az⟩::Y) \/
   ((∀x∈l,x.names≠g.names)/\∃X Y,l=X++Y/\(∀x∈X,Xz x.names g.names=true)/\(∀y,Y.head? = some y->Xz y.names g.names=false)/\b=X++g::Y))
def a3d:∀{L:List (au×Pk)}{ks:LN},fS L ks->ks.length=qw L
 | [],ks,h=>by rw[fS]at h;subst h;rfl
 |(d,p)::L,ks,h=>by
  rw[fS]at h;rw[ze];by_cases b:p.g=true
  .rw[if_pos b]at h⊢;obtain⟨k,r,rfl,_,h2⟩:=h;rw[length_cons,a3d h2];omega
  .rw[if_neg b]at h⊢;rw[a3d h];omega
def nmd(L:List (au×Pk))(x:LN×Ag):List ByteArray×Ag:=(cX L x.1,x.2)
def adF{L:List (au×Pk)}(v:∀x∈L,da x.1){P T:List (LN×Ag)}{l D:List Gp}{g:Gp}{key:LN}{a:Ag}(ht:ev P T)(r:l.map hZ=T.map (nmd L))(b:∀x∈T,fS L x.1)(hk:fS L key)(I:hZ g=(cX L key,a))
 (X1:∀x∈T,x.1=key->∃j,aR x.2 a=some j)
 (hr:(∃X y Y,l=X++y::Y/\y.names=g.names/\D=X++⟨g.A,g.names,g.c,(aR y.ag g.ag).getD az⟩::Y) \/
  ((∀x∈l,x.names≠g.names)/\∃X Y,l=X++Y/\(∀x∈X,Xz x.names g.names=true)/\(∀y,Y.head? = some y->Xz y.names g.names=false)/\D=X++g::Y)) :
 ∃u,ev (P++[(key,a)]) u/\D.map hZ=u.map (nmd L)/\∀x∈u,fS L x.1:=by
 have f:g.names=cX L _:=congrArg Prod.fst I;have G:g.ag=a:=congrArg Prod.snd I;obtain⟨X,y,Y,rfl,C,rfl⟩|⟨RI,X,Y,rfl,hX,Z,rfl⟩:=hr
 .rw[map_append]at r;obtain⟨m,p,rfl,h1,h2⟩:=map_eq_append_iff.1 r.symm;rw[map_cons]at h2;obtain⟨t,R,rfl,q,J⟩:=map_eq_cons_iff.1 h2;have M:cX L _=y.names:=congrArg Prod.fst q;have V:t.2=y.ag:=congrArg Prod.snd q;have N:=b t (mem_append_right _ mem_cons_self);have e:=(a5E L _ _ v N hk).1.1 r_;obtain⟨j,E⟩:=X1 t (mem_append_right _ mem_cons_self) e;obtain⟨tk,ta⟩:=t;dsimp only at e M V E;subst e;refine⟨_,ht.put E,?_,λx hx=> ?_⟩
  .rw[map_append,map_append,map_cons,map_cons,h1,J];congr 2;show(g.names,(aR y.ag g.ag).getD az)=(cX L tk,j);grind
  grind
 .rw[map_append]at r;obtain⟨m,p,rfl,h1,h2⟩:=map_eq_append_iff.1 r.symm;have O:∀x∈m++p,x.1≠key:=λx hx e=>by
   have s:nmd L x∈(X++Y).map hZ:=r_
   obtain⟨z,G,B⟩:=mem_map.1 s;have:z.names=cX L _:=congrArg Prod.fst B;grind
  have V:∀x∈m,aI x.1 key<0:=λx hx=>by
   have s:nmd L x∈X.map hZ:=r_
   obtain⟨z,G,B⟩:=mem_map.1 s;have H:z.names=cX L _:=congrArg Prod.fst B;have n:=hX z G;rw[H,f,(a5E L _ _ v (b x (mem_append_left _ hx)) hk).2]at n;grind
  have F:∀y∈p,aI key y.1<0:=by
   obtain⟨G,u2,G⟩:=pairwise_append.1 ht.up;obtain _|⟨t,R⟩:=p
   .simp
   .rw[map_cons]at h2;obtain⟨z,G,rfl,q,J⟩:=map_eq_cons_iff.1 h2.symm;have H:z.names=cX L _:=congrArg Prod.fst q;have n:=Z z rfl;rw[H,f,(a5E L _ _ v (b t (mem_append_right _ mem_cons_self)) hk).2]at n;have G:=of_decide_eq_false n;have G:=O t (mem_append_right _ mem_cons_self);have U:aI key t.1<0:=by
     have h0:aI _ _≠0:=λh=>G (nW h);have:=jU t.1 key;omega
    obtain⟨W,_⟩:=pairwise_cons.1 u2;intro y d;obtain rfl|d:=mem_cons.1 d
    . omega
    .have G:=sX (Int.le_of_lt U) (Int.le_of_lt (W y d));have h0:aI _ _≠0:=λh=>O y (mem_append_right _ (mem_cons_of_mem _ d)) (nW h).symm;omega
  refine⟨_,ht.ins V F,?_,λx hx=> ?_⟩
  .rw[map_append,map_append,map_cons,map_cons,h1,h2,I];rfl
  grind
end Tc
end Go.Proofs.YtibjlpkpljnicaaGreatDoor
