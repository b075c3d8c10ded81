/- Parts of a proof. -/
import Derived.Test.YtibjlpkpljnicaaGreatDoorL30
import Derived.Test.YtibjlpkpljnicaaGreatDoorL36
import Derived.Test.YtibjlpkpljnicaaGreatDoorL41
set_option maxRecDepth 100000
set_option maxHeartbeats 8000000
set_option linter.all false
namespace Go.Proofs.YtibjlpkpljnicaaGreatDoor
namespace Tc
open List Go.RowKit Base Go.Proofs.Tryz
structure jg(I:World->(Nat->Prop)->Prop)(gs:Nat)(ys:List Fa)(s:aN)(qs:List Pk)(fs:List Fa)(st:St)(m:Nat)(top:Int)(pl:Nat->Nat):Prop where
 src:mh I gs top s.af.length st.nodes pl
 zj:ys.map Fa.keys=s.af.map aW
 m1:1<=m
 m3:m<=3
 nY:top<0\/∃root:Nat,top=(pl root:Int)/\fR s fs st/\st.parts[root]? = some (0,aT fs (λ_=>true))
 none_:top<0->fs=[]
 bO:cJ s
 fact:iE s fs
 dw:il m fs
 q:iT s qs
 node:∀(id:Nat) n,st.nodes[id]? = some n->∃h:n.aj<ys.length,im (decide (n.aj+1=ys.length)) (ys[n.aj]'h).keys m (cH (decide (n.aj+1=s.af.length)) pl n)
section
variable{I:World->(Nat->Prop)->Prop}{gs:Nat}{ys:List Fa}{s:aN}{qs:List Pk}{fs:List Fa}{st:St}{m:Nat}{top:Int}{pl:Nat->Nat}
def qy{i:Nat}{x:au×Pk}(h:(s.af.zip qs)[i]? = some x):s.af[i]? = some x.1/\qs[i]? = some x.2:=by
 grind
def wF{i:Nat}{d:au}{p:Pk}(h1:s.af[i]? = some d)(h2:qs[i]? = some p):(s.af.zip qs)[i]? = some (d,p):=by
 grind
def jg.yl(h:jg I gs ys s qs fs st m top pl):ys.length=s.af.length:=by
 have:=congrArg length h.zj;grind
def jg.yk(h:jg I gs ys s qs fs st m top pl){i:Nat}{d:au}(hd:s.af[i]? = some d)(hi:i<ys.length):ys[i].keys=aW d:=by
 have h1:=congrArg (λl=>l[i]?) h.zj;grind
def jg.gone(h:jg I gs ys s qs fs st m top pl){sns:List Sn}(M:sns.length=qs.length)(E:∀(i:Nat) d p G,s.af[i]? = some d->qs[i]? = some p->sns[i]? = some G->jh d p G):zo I gs ys sns s fs st (s.af.zip qs) m top pl:=by
 have N:=h.q.len;have r:sns.length=s.af.length:=o_;have L:=h.yl;have h1:=h.bO.n1;have h2:=h.bO.n2;have n:∀(i:Nat) hi,∃d p,s.af[i]? = some d/\qs[i]? = some p/\jh d p sns[i]/\gz d p/\da d:=λi hi=>by
  have c:i<s.af.length:=o_;have g:i<qs.length:=o_;exact⟨_,_,gE c,gE g,E i _ _ _ (gE c) (gE g) (gE hi),h.q.ok i _ _ (gE c) (gE g),h.bO.af i c⟩
 have B:(s.af.zip qs).length=s.af.length:=o_
 refine⟨by rw[r];exact h.src,o_,o_,o_,h.m1,h.m3,⟨o_,λi hi z=> ?_⟩,λy J=> ?_,λx hx=> ?_,h.nY,h.none_,h.bO,h.fact,h.dw,λi x hx=> ?_,B,o_,λi x hx=> ?_,by rw[r];exact h.node⟩
 .obtain⟨d,p,c,g,v,C,H⟩:=n i hi;have ht:=v.t;have b:=v.take;have f:=v.dz;unfold iN at ht;unfold nG at b;unfold ql at f;rcases e:gj p with _|t
  .grind
  .rw[e]at ht b f;dsimp only at ht b f;obtain⟨t1,_,_⟩:=lU C e;have u:=h.yk c z;have A:t<ys[i].keys.length:=by rw[u];unfold aW;rw[lM];omega
   refine .inr ⟨t,ht,A,?_,by rw[b];exact Ei d p t,λkey hk=> ?_⟩
   .grind
   .rw[b]at hk;have D:=uu hk;have F:ys[i].keys[t]=(bE d t).length:=by
     simp only[u];unfold aW bE;rw[getElem_map,gE t1];rfl
    omega
 .obtain⟨i,hi,rfl⟩:=getElem_of_mem J;have c:i<s.af.length:=o_;rw[h.yk (gE c) hi];unfold aW;rw[lM];have:=(h.bO.af i c).n2;omega
 .obtain⟨i,hi,rfl⟩:=getElem_of_mem hx;obtain⟨d,p,c,g,v,C,H⟩:=n i hi;rw[v.take];unfold nG;split
  .simp
  .rename_i t e;obtain⟨t1,_,_⟩:=lU C e;have D:=EL (d:=d) (p:=p) (t:=t);have F:(bE d t)=(d.ai[t]'t1).ar:=by unfold bE;rw[gE t1];rfl
   rw[F]at D;have:=(H.ai t t1).n2;omega
 .grind
 grind
def xz fs:∀(L:List (au×Pk))(a:Nat)(K:cL)(pre:LN),(∀x∈L,da x.1/\gz x.1 x.2)->∀x∈bZ fs L a K pre,∃r,x.1=pre++r/\fS L r
 | [],a,K,pre,_,x,hx=>by
  unfold bZ at hx;split at hx
  .rw[mem_singleton.1 hx];exact⟨_,s_,rfl⟩
  .grind
 |(d,p)::L,a,K,pre,n,x,hx=>by
  have c:∀x∈L,da _/\gz _ _:=λx hx=>n x (mem_cons_of_mem _ hx);obtain⟨hd,f⟩:=n _ mem_cons_self;dsimp only at hd f;rw[bZ]at hx;split at hx
  .rename_i e;obtain⟨r,h1,h2⟩:=xz _ L _ _ _ c x hx;refine⟨r,h1,?_⟩;have b:¬p.g=true:=λb=>by
    unfold gj at e;grind
   rw[fS,if_neg b];omega
  .rename_i t e;obtain⟨k,hk,hx⟩:=mem_flatMap.1 hx;split at hx
   .grind
   .obtain⟨r,h1,h2⟩:=xz _ L _ _ _ c x hx;unfold fZ at h1;by_cases b:p.g=true
    .rw[if_pos b]at h1;refine⟨fu d t p.bG k::r,r_,?_⟩;rw[fS,if_pos b];obtain⟨t1,_,v⟩:=lU f e;have m:=uu hk;refine⟨_,r,rfl,?_,h2⟩;have y:=v b;have s:(bE d t)=(d.ai[t]'t1).ar:=by unfold bE;rw[gE t1];rfl
     rw[s]at m;have q:=rz hd (k:=p.bG-t) (by have:=f.bG;omega) m;unfold bE;rw[gE f.bG];show fu d t p.bG k<(d.ai[p.bG]'f.bG).ar.length;unfold fu;grind
    .rw[if_neg b,append_nil]at h1;refine⟨r,h1,?_⟩;rw[fS,if_neg b];omega
def jg.keys(h:jg I gs ys s qs fs st m top pl){ps:List (LN×Ag)}(ht:ev (gG fs (s.af.zip qs)) ps):∀x∈ps,fS (s.af.zip qs) x.1:=λx hx=>by
 obtain⟨y,b,e⟩:=(ht.keys _).1 ⟨x,hx,rfl⟩;unfold gG at b;split at b
 .cases b
 .obtain⟨r,h1,h2⟩:=xz _ _ 0 (λ_=>true) _ (λz g=>by
   obtain⟨i,hi⟩:=getElem?_of_mem g;obtain⟨d,n⟩:=qy hi;have f:=aO d;have c:=h.bO.af i f.1;rw[f.2]at c;exact⟨c,h.q.ok i _ _ d n⟩) y b
  grind
end
structure Gp where
 A:OA
 names:List ByteArray
 c:Nat
 ag:Ag
abbrev mV(g:Gp):LV:=[U g.A g.names.length g.c,I g.ag.c,I g.ag.s0,I g.ag.n0,I g.ag.x0,I g.ag.s1,I g.ag.n1,I g.ag.x1,I g.ag.s2,I g.ag.n2,I g.ag.x2]
def Jn g:(mV g).length=11:=rfl
def BJ:(prog.info? 80).map (λi=>(i.zero,i.size,i.bytes))=some (some (.agg #[Z,I 0,I 0,I 0,I 0,I 0,I 0,I 0,I 0,I 0,I 0]),11,104):=k_
def hZ(g:Gp):List ByteArray×Ag:=(g.names,g.ag)
structure iR(w:World)(B:Nat)(A:OA)(l:List Gp):Prop where
 row:Row w B A (l.flatMap mV)
 each:∀g∈l,Row w B g.A (g.names.map .string)
def iR.below{w w' B A l}(h:iR w B A l)(b:Below B w w'):iR w' B A l:=⟨h.row.below b,λg c=>(h.each g c).below b⟩
def iR.more{w B b A l}(h:iR w B A l)(c:B<=b):iR w b A l:=⟨h.row.more c,λg d=>(h.each g d).more c⟩
def pM(A:OA)(l:List Gp)(k:Nat):Prop:=cE A (l.flatMap mV) k\/∃g∈l,cE g.A (g.names.map .string) k
def zl(I:World->(Nat->Prop)->Prop)(d:Nat->Prop)(P:List (LN×Ag))(f:List (au×Pk))(w:World)(e:Ending)(w':World):Prop:=
 ∃(A:OA)(l:List Gp)(c:Nat)(ps:List (LN×Ag))(b:Nat->Prop),e = .returned (.tuple #[U A l.length c,.int .i64 0])/\ev P ps/\l.map hZ=(ps.map λx=>(cX f x.1,x.2))/\iR w' w'.heap.size A l/\(∀k,pM A l k->w.heap.size<=k/\¬b k)/\I w' b/\Mv d w w' b
structure jM(w:World)(B:Nat)(v:Value)(g:Gp):Prop where
 row:Row w w.heap.size g.A (g.names.map .string)
 off:∀k,cE g.A (g.names.map .string) k->B<=k/\k<w.heap.size/\v.ownBlock≠some k
def jM.below{w w' B v g}(h:jM w B v g)(b:Below w.heap.size w w'):jM w' B v g:=
 ⟨(h.row.below b).more b.size,λk hk=>⟨(h.off k hk).1,bh (h.off k hk).2.1 b.size,(h.off k hk).2.2⟩⟩
def jM.app{w w' B v f g}(h:jM w B v g)(b:App w w' v f):jM w' B f g:=by
 have d:=b.grown.size;refine⟨(fO h.row λk hk=>b.bI (h.off k hk).2.1 (h.off k hk).2.2).more d,λk hk=> ?_⟩;have h1:=h.off k hk;refine⟨o_,o_,λe=> ?_⟩;obtain c|⟨j,c,m⟩:=b.j4
 .grind
 grind
def jM.new{w B n c v A b ag}(h:w.ownsRow B 9 1 (.slice A n c) n (b.map .string)){B0}(f:B0<=B)(d:∀j,v.ownBlock=some j->j<B):jM w B0 v ⟨A,b,c,ag⟩:=
 ⟨kG h,λk hk=>by
  have h1:=rI h hk;grind⟩
def xg A n c p m q g v e f r d s:∀u∈(#[.slice A n c,.int .i64 p,.int .i64 m,.int .i64 q,.int .i64 g,.int .i64 v,.int .i64 e,.int .i64 f,.int .i64 r,.int .i64 d,.int .i64 s]:AV).toList,u.oneCell'=true:=by
 intro u b;simp at b;rcases b with rfl|rfl|rfl|rfl|rfl|rfl|rfl|rfl|rfl|rfl|rfl<;>rfl
def xY{α}[DecidableEq α]:∀(a b:List α),a.Nodup->(∀x∈a,x∈b)->a.length<=b.length
 | [],_,_,_=>av _
 |x::xs,b,f,c=>by
  obtain⟨h1,h2⟩:=nodup_cons.1 f;have hx:=c x mem_cons_self;have g:=xY _ (b.erase x) h2 (λy d=>(mem_erase_of_ne (λe=>h1 r_)).2 (c y (mem_cons_of_mem _ d)));grind
def uy{P r}(h:ev P r):r.length<=P.length:=by
 have:=xY (r.map Prod.fst) (P.map Prod.fst) (by
  rw[nodup_iff_pairwise_ne,pairwise_map];refine h.up.imp λ{x y} b e=> ?_;rw[e,nX]at b;omega) (λk hk=>by
  obtain⟨x,hx,rfl⟩:=mem_map.1 hk;obtain⟨y,c,e⟩:=(h.keys _).1 ⟨x,hx,rfl⟩;grind)
 grind
def Jl{m fs}(h:il m fs) L:(gG fs L).length<=40:=by
 unfold gG;split
 .simp
 .rename_i b;have h1:=rN h L 0 (λ_=>true) [] (by
   rw[pY];grind)
  rw[pY,length_range]at h1;have:=h.n;omega
def wE{I:World->(Nat->Prop)->Prop}{gs ys s b fs st m top pl}(a:jg I gs ys s b fs st m top pl) Ax Aq cx cq z w(hI:I w z)(j1:∀w F,I w F->cG w w.heap.size Ax ys)(hs:∀W,aq z w W->cQ W W.heap.size s)(hq:∀W,aq z w W->fH W W.heap.size Aq b) :
 Calls prog 15 #[.pointer (some ⟨gs,0,none⟩),.agg (aG s),.agg #[.slice Ax ys.length cx,.int .i64 (m:Nat)],.agg #[.slice Aq b.length cq]] w (zl I z (gG fs (s.af.zip b)) (s.af.zip b) w):=by
 have D:=(ah _ w).alloc (ae _) (.cells (aG s) 25);have J:=kp (aa.new w 25 (aG s));obtain⟨y,d4⟩:=e_ (w.alloc (.cells (aG s) 25));rw[d4]at D J;have U:=D.alloc D.size (.cells #[.slice Ax ys.length cx,.int .i64 m] 43);have d2:=kp (aa.new y 43 #[.slice Ax ys.length cx,.int .i64 m]);have V:=kp (J.o.alloc (.cells #[.slice Ax ys.length cx,.int .i64 m] 43));obtain⟨u,L⟩:=e_ (y.alloc (.cells #[.slice Ax ys.length cx,.int .i64 m] 43));rw[L]at U d2 V;have d8:=U.alloc U.size (.cells #[.slice Aq b.length cq] 29);obtain⟨X,Y,y⟩:=j3_ (aa.new u 29 #[.slice Aq b.length cq]) (d2.o.alloc (.cells #[.slice Aq b.length cq] 29)) (V.o.alloc (.cells #[.slice Aq b.length cq] 29));obtain⟨E,f0⟩:=e_ (u.alloc (.cells #[.slice Aq b.length cq] 29));rw[f0]at d8 X Y y;have Z:=kp d8;have h7:=U.size;have E:=kp hs;have G:=kp hq;have M:=kp (λW u=>Mj s b _ cq W (E W u) a.bO (G W u) a.q);have b9:=kp (λW u Ak ck keys O n8 b7=>Lf s b _ _ Ak cq ck keys W (E W u) a.bO (G W u) a.q (λi d p h1 h2=>wF h1 h2) (by rw[length_zip];have:=a.q.len;omega) O n8 b7);have O:=kp (λW sns As cs h1 h2 E hs' hR'=>Pc (a.gone (sns:=sns) h1 h2) _ As cx cs z W E j1 hs' hR');obtain⟨Ha,G,h0,E⟩:=j4_ a a.src.lt a.src.same hI;obtain⟨nq,b8⟩:=e_ b.length;obtain⟨ny,h3⟩:=e_ ys.length;obtain⟨nd,f6⟩:=e_ s.af.length;obtain⟨nm,g9⟩:=e_ s.aC.length;unfold aG at*;rw[f6,g9]at J V y d4 M b9⊢;rw[b8]at X f0 M b9 O⊢;rw[h3]at d2 Y L O⊢;have m0:=kp b8;clear D U d8 hI j1 hs hq a b8 h3 f6 g9;generalize D:zl I z _ _ w=Q at*;have HQ:=kp D;clear D;obtain⟨s0,s1,_,_⟩:=y.o.two;obtain⟨q0,_⟩:=X.o.one;go_in;go_wp2_with fail;have D:=Z.o.size;apply(M _ (aq.below Z)).mono;rintro e U⟨As,sns,cs,rfl,f7,J,D,i2,N⟩;have p4:=bu y N;have k9:=bu Y N;have n3:=bu X N;have V:=ay Z N;have y:=h0 w U z E V.o.size (λk hk=>V.o.block k (G w z E k hk));have M:=kp (O U _ _ cs (by rw[f7,m0]) J y D (λk hk O=>by
  have h1:=i2 k hk;have h2:=G w z E k O;omega))
 clear N J D i2 y d4 L f0 s0 s1 q0;obtain⟨y,y⟩:=e_ sns.length;rw[y]at M⊢;clear y f7;obtain⟨x0,x1,_,_⟩:=k9.o.two;go_wp2_with fail;apply M.o.mono;rintro e C⟨v,l,d0,rfl,D,Z,b7,y,U,J⟩;obtain⟨Af,cf,rfl⟩:=Z.form;have L:∀k,w.heap.size<=k->¬z k:=λk hk O=>by have:=G w z E k O;omega
 have p8:=kp (J.box p4 (L _ o_)).1;have k7:=kp (J.box n3 (L _ h7)).1;have f8:=kp Z.jW;have R:=kp (((Mv.start z w).below V).trans J);obtain⟨h5,i8,m8,a6,p5⟩:=j5_ R.o.ax (G C _ U) U D y;have E:l.length<=60:=by
  have h1:=uy D;rw[lM]at h1;have:=Jl Ha.o.dw (s.af.zip b);omega
 have k3:=R.o.ax.size;clear D Z b7 y U J M L x0 x1;obtain⟨n,D⟩:=e_ l.length;rw[D]at E⊢;have Hn:=kp D;clear D;obtain⟨i0,o2,o4,m5,p9⟩:=info_parts BJ;go_wp2;go_loopw [13,39] (λE D wr=>∃(k:Nat)(gp:List Gp)(A1:OA)(c1:Nat),k<=n/\D = .int .i64 (k:Nat)/\E = .slice A1 k c1/\Kp (gp.length=k)/\Kp (gp.map hZ=(((l.take k).map Tc.pl).map λx=>(cX (s.af.zip b) x.1,x.2)))/\wr.ownsRow C.heap.size 80 11 (.slice A1 k c1) k (gp.flatMap mV)/\Kp (∀g∈gp,jM wr C.heap.size (.slice A1 k c1) g)/\Below C.heap.size C wr) (λ_ D _=>n-(intOf D).toNat)
 case atStart=>exact⟨0,[],_,0,o_,rfl,rfl,kp rfl,kp rfl,cK _ _ _ _,kp (λx h=>r_),bR⟩
 .obtain⟨k,gp,A1,c1,hk,rfl,rfl,g4,i7,r,e9,u⟩:=hrel;obtain⟨wo,rfl⟩:∃wo,wo=wr:=⟨_,rfl⟩;have L:=kp r;have D:=kp u;clear r u;by_cases u:k<n
  .have c:k<l.length:=by rw[Hn];omega
   have M:=(f8.o.below D).more D.o.size;obtain⟨u,u,rfl,_,c0,i1,c2,c3,c4,c5,c6,c7,U,c9,i4⟩:=M.cells k c;have V:=M.keys _ (gM c);have y:=p5 _ (gM c);have g6:=kp (Ha.o.keys a6 _ (mem_map.2 ⟨_,gM c,rfl⟩));have E:Kp (∀g:Gp,hZ g=(cX _ (l[k]'c).keys,(l[k]'c).ag)->(gp++[g]).map _=(((l.take _).map Tc.pl).map λx=>(cX _ _,x.2))):=(λg B=>by
    rw[take_succ_eq_append_getElem c,map_append,map_append,map_append,i7.out,map_singleton,B];rfl)
   generalize(l[k]'c)=f at*;obtain⟨u,keys,J,⟨ac,s0,n0,x0,s1,n1,x1,s2,n2,x2⟩⟩:=f;dsimp only at c0 i1 c2 c3 c4 c5 c6 c7 U c9 i4 V y E;dsimp only[Tc.pl]at g6;obtain⟨nk,G⟩:=e_ keys.length;have Z:=(ah _ wo).alloc (ae _) (.cells #[.slice u nk J,.int .i64 ac,.int .i64 s0,.int .i64 n0,.int .i64 x0,.int .i64 s1,.int .i64 n1,.int .i64 x1,.int .i64 s2,.int .i64 n2,.int .i64 x2] 89);obtain⟨j2,m9,g5⟩:=j3_ (aa.new wo 89 #[.slice u nk J,.int .i64 ac,.int .i64 s0,.int .i64 n0,.int .i64 x0,.int .i64 s1,.int .i64 n1,.int .i64 x1,.int .i64 s2,.int .i64 n2,.int .i64 x2]) Z ((V.below Z).more Z.size);rw[G]at c0 y;have h9:=kp G;have g7:=kp y;clear M V Z G y;have y:0<=(k:Int):=o_
   have y:k<(n:Int):=o_
   go_upto_region 11 with fail;clear c0 i1 c2 c3 c4 c5 c6 c7 U c9 i4;generalize wo.alloc _=y at*;generalize G:wo.heap.size=gf at*;have M:=kp G;clear G;have G:Kp (Below wo.heap.size _ y):=(by rw[M];omega);have A:=kp (D.o.trans (G.o.mono D.o.size));have V:=kp (h5.o.trans (aq.below A));have M:=kp (b9 y V u J _ g5 (by rw[h9];exact g7) g6);rw[h9]at M;obtain⟨n9,o1,_,_⟩:=(p8.o.under A).two;obtain⟨m7,_⟩:=(k7.o.under A).one;have aD:=aa.dk j2;go_wp2_with fail;apply M.o.mono;rintro e w7⟨u,rfl,u,M⟩;obtain⟨V,Z,rfl⟩:=bY u;have o7:=kp u;have b2:=ay G M;have a7:=ay A M;have p7:=bu j2 M;have a5:=G.o.size;have J:=kp (bS L b2);have j3:=kp (λg B=>(e9.out g B).below b2);have f9:=kp (jM.new (ag:=⟨ac,s0,n0,x0,s1,n1,x1,s2,n2,x2⟩) o7 (aF D.o.size a5) (λj y=>bh (L.o.lt j y).2 a5));clear M u n9 o1 m7 aD;obtain⟨G,u⟩:=e_ ((cX (s.af.zip b) keys).length);have p3:=kp u;rw[u];clear u;have aD:=aa.dk p7;have u:k+1<1048576*64:=o_
   have M:=a7.o.size;go_upto_region 15 with(at_builtin;apply je rfl _ _ _ rfl _ 80 _ _ _ _ underlying47 o2 o4 m5 p9 rfl d_ _ _ rfl (xg _ _ _ _ _ _ _ _ _ _ _ _ _) (.slice _ k _) k _ rfl J rfl u d_ M;intro u w8 u T;obtain⟨G,U,h8⟩:=cI u;subst h8;have d1:=kp u;have H:=kp T;clear u T);have l4:=kp (H.o.ew a7 J o_ M);have M:Kp (∀g∈gp++[(⟨V,_,Z,_⟩:Gp)],jM _ _ (.slice G _ U) g):=(λg B=>by
    obtain B|B:=mem_append.1 B
    .exact(j3 g B).app H
    .rw[mem_singleton.1 B];exact f9.o.app H)
   have g0:Kp ((gp++[(⟨V,cX (s.af.zip b) keys,Z,⟨ac,s0,n0,x0,s1,n1,x1,s2,n2,x2⟩⟩:Gp)]).length=k+1):=o_;have J:=kp (E (⟨V,_,Z,_⟩:Gp) rfl);have u:Kp (w8.ownsRow _ _ _ (.slice G _ U) _ ((gp++[(⟨V,_,Z,⟨_,_,_,_,_,_,_,_,_,_⟩⟩:Gp)]).flatMap _)):=(by
    rw[flatMap_append];have h:=d1.o;rw[<-p3]at h;exact h)
   clear aD;go_wp2;exact⟨⟨_,_,G,U,o_,o_,rfl,g0,J,u,M,l4⟩,o_⟩
  .obtain rfl:k=n:=o_
   have u:Kp (Q (.returned (.tuple #[.slice _ _ c1,.int _ 0])) _):=(by
    rw[<-HQ];have G:=i8.o;have r:=L.o;have E:∀j,pM A1 _ j->C.heap.size<=j:=λj y=>by
     obtain⟨_,off,rfl⟩|⟨g,B,y⟩:=y
     .exact(r.lt j rfl).1
     .exact((e9.out g B).off j y).1
    refine⟨_,_,_,_,_,rfl,a6,?_,⟨?_,λg B=>(e9.out g B).row⟩,λj y=>⟨aF k3 (E j y),λO=>r_⟩,h0 C _ _ m8 D.o.size (λj O=>D.o.block j (G j O)),R.o.below D⟩
    .have h:=i7.out;rw[take_of_length_le (by rw[Hn];omega)]at h;omega
    .exact dF r)
   rw[g4.out]at u;go_wp2;exact u
def xj:∀(L:List (au×Pk))(a:Nat)(k:LN),(dO L a k).length<=L.length
 | [],_,_=>ae _
 |(d,p)::L,a,k=>by
  have:=xj L (a+1) k;rw[dO,aE,length_cons];grind
def R4{fs:List Fa}{k}(hk:k<fs.length) L:dH ((fs.take (k+1)).map pl) L=dH ((fs.take k).map pl) L++if eo L 0 fs[k].keys=true then [(dO L 0 fs[k].keys,fs[k].ag)]else []:=by
 unfold dH;rw[take_succ_eq_append_getElem hk,map_append,filter_append,map_append];congr 1;show(([pl fs[k]]:List (LN×Ag)).filter λx=>eo L 0 x.1).map _=_;by_cases h:eo L 0 fs[k].keys=true
 .rw[if_pos h,filter_cons_of_pos (by exact h)];rfl
 .rw[if_neg h,filter_cons_of_neg (by exact h)];rfl
def Bz:∀(L:List (au×Pk))(a:Nat)(k:LN),(∀x∈L,da x.1/\gz x.1 x.2)->(∀(i:Nat) x,L[i]? = some x->(k[a+i]?).getD 0<(bE x.1 0).length)->fS L (dO L a k)
 | [],_,_,_,_=>rfl
 |(d,p)::L,a,k,e,hk=>by
  obtain⟨hd,c⟩:=e _ mem_cons_self;dsimp only at hd c;have f:=Bz L (a+1) k (λx hx=>e x (mem_cons_of_mem _ hx)) (λi x hx=>by
   have:=hk (i+1) x hx;grind)
  rw[fS,dO];by_cases b:p.g=true
  .rw[if_pos b,if_pos b];refine⟨_,_,rfl,?_,f⟩;have h0:=hk 0 _ rfl;have m:0<d.ai.length:=hd.n1;unfold bE at h0⊢;rw[gE m]at h0;rw[gE c.bG];exact pS hd c.bG h0
  grind
def vL(W:List (LN×Ag))(w:World)(e:Ending)(w':World):Prop:=∃(A:OA)(c:Nat)(l:List Fa),e = .returned (.tuple #[.slice A l.length c,.bool true])/\ev W (aw l)/\bM w' w'.heap.size A l/\Below w.heap.size w w'
structure uQ(s:aN)(fs:List Fa):Prop where
 n:fs.length<=40
 ga:∀x∈aw fs,GA s.aC.length 1 x.2
 key:∀f∈fs,f.keys.length=s.af.length/\∀(i:Nat) d k,s.af[i]? = some d->f.keys[i]? = some k->k<(bE d 0).length
def Ji{m a}(h:GA m 1 a):cB a/\0<a.c:=⟨h.b.fit,by have:=h.ok.c;omega⟩
def OJ s N L A Aa cq ca fs w(hs:cQ w w.heap.size s)(ho:cJ s)(hq:fH w w.heap.size A N)(hk:iT s N)(hL:∀(i:Nat) d p,s.af[i]? = some d->N[i]? = some p->L[i]? = some (d,p))(a7:L.length=N.length)(G:bM w w.heap.size Aa fs)(U:uQ s fs) :
 Calls prog 13 #[.agg (aG s),.agg #[.slice A N.length cq],.slice Aa fs.length ca] w (vL (dH (aw fs) L) w):=by
 have u:=(ah _ w).alloc (ae _) (.cells (aG s) 25);have Z:=kp (aa.new w 25 (aG s));obtain⟨J,X⟩:=e_ (w.alloc (.cells (aG s) 25));rw[X]at u Z;have T:=u.alloc u.size (.cells #[.slice A N.length cq] 29);have E:=kp (aa.new J 29 #[.slice A N.length cq]);have D:=kp (Z.o.alloc (.cells #[.slice A N.length cq] 29));obtain⟨z,y⟩:=e_ (J.alloc (.cells #[.slice A N.length cq] 29));rw[y]at T E D;have h0:=kp T;have V:=hk.len;have O:=ho.n2;have HF:=kp (λW(q:Below _ w W)=>(G.below q).more q.size);have HP:=kp (λW q k b=>P6 s N L A cq fs[k] W ((hs.below q).more q.size) ho ((hq.below q).more q.size) hk hL a7 ((HF W q).keys _ (gM b)) (U.key _ (gM b)).1 (U.key _ (gM b)).2);have HR:Kp (∀A c l w',ev _ _->bM _ _ A l->Below _ w _->vL (dH (aw fs) L) w _ w'):=λA c l w' h1 h2 J=>⟨A,c,l,rfl,h1,h2,J⟩;have e8:=kp U;have a5:=kp (show L.length<=16 by omega);have e6:=U.n;generalize vL _ w=Q at*;obtain⟨n,J⟩:=e_ fs.length;obtain⟨M,M⟩:=e_ N.length;obtain⟨nd,d2⟩:=e_ s.af.length;have HN:=kp J;unfold aG at Z D HP X⊢;rw[d2]at Z D HP X⊢;rw[M]at E HP y⊢;rw[J]at e6⊢;clear u T hs ho hq hk hL a7 G U J M d2 V O;obtain⟨i0,h7,h8,g5,i8⟩:=info_parts mA;go_in;go_wp2;clear X y;go_loopw [8,15] (λy u wr=>∃(k m:Nat)(out:List Fa)(Z:OA)(Y:Nat),k<=n/\m<=k/\u = .int .i64 (k:Nat)/\y = .slice Z m Y/\Kp (out.length=m)/\Kp (out.map pl=dH ((fs.take k).map pl) L)/\Kp (bj wr z.heap.size (.slice Z m Y) out)/\Below z.heap.size z wr) (λ_ u _=>n-(intOf u).toNat)
 case atStart=>exact⟨0,0,[],_,0,o_,o_,rfl,rfl,kp rfl,kp rfl,kp ⟨cK _ _ _ _,λf G=>r_⟩,bR⟩
 .obtain⟨k,m,out,Z,Y,hk,u,rfl,rfl,u,H,g,q⟩:=hrel;obtain⟨wo,rfl⟩:∃wo,wo=wr:=⟨_,rfl⟩;have O:=kp q;have Hw:=ay h0 q;clear q;by_cases y:k<n
  .have b:k<fs.length:=by rw[HN];omega
   obtain⟨y,y,rfl,_,c0,c1,c2,c3,c4,y,c6,c7,V,c9,i3⟩:=(HF _ Hw).cells k b;have d8:=kp (λW q=>HP W q k b);have M:=R4 b L;generalize(fs[k]'b)=f at*;have J:=kp (aa.new wo 89 (bC f));have e0:=kp ((ah _ wo).alloc (ae _) (.cells (bC f) 89));have k0:0<=(k:Int):=o_
   have k1:k<(n:Int):=o_
   have d3:=kp M;clear M b;unfold bC at d8 J e0;go_upto_region 5 with fail;clear c0 c1 c2 c3 c4 y c6 c7 V c9 i3;generalize wo.alloc _=w4 at*;generalize M:wo.heap.size=V at*;have V:=kp (show Below wo.heap.size _ _ by rw[M];exact e0);clear M;have i2:=kp (Hw.o.trans (V.o.mono Hw.o.size));have I:=kp (O.o.trans (V.o.mono O.o.size));obtain⟨s0,s1,_,_⟩:=(D.o.under I).two;obtain⟨M,_⟩:=(E.o.under I).one;have D:=aa.dk J;have E:=kp (d8 _ i2);go_wp2_with fail;apply E.o.mono;clear s0 s1 M D E;rintro e w5⟨O,v,rfl,M⟩;have Hv:=kp M;have E:=ay I O;have e4:=ay V O;have i6:=bu J O;have B:=kp (g.out.below e4);have h4:Kp _:=λj J=>bh (g.out.1.lt j J).2 V.o.size;clear M O g;generalize J:dO L 0 _=O at*
   clear J;generalize eo L 0 _=J at*;cases J with
   |false=>
    have b4:=kp (show out.map _=dH _ L by rw[d3,H.out];simp);clear H;go_wp2;exact⟨⟨_,m,_,Z,Y,o_,o_,o_,rfl,u,b4,B,E⟩,o_⟩
   |true=>
    obtain⟨V,y,rfl⟩:=bY (Hv rfl);have b4:=kp (show(out++[(⟨V,O,y,f.ag⟩:Fa)]).map _=dH _ L by rw[d3,<-H.out,if_pos rfl,map_append];rfl);have d7:=kp (bP.new (f:=⟨V,O,y,f.ag⟩) (Hv rfl) h4);have D:=aa.dk i6;have g8:m+1<1048576*64:=o_
    have J:Kp (w5.ownsRow _ _ _ _ m _):=(by have:=B.1;rw[u.out]at this;exact this);obtain⟨D,f5⟩:=e_ O.length;rw[f5];clear H;go_wp2_with(at_builtin;apply je rfl _ _ _ rfl _ 89 _ _ _ _ underlying34 h7 h8 g5 i8 rfl d_ _ _ rfl (xg _ _ _ _ _ _ _ _ _ _ _ _ _) (.slice Z m Y) m _ rfl J rfl g8 d_ E.o.size;intro z z D z;obtain⟨A6,c6,M⟩:=cI D;subst M;have b0:=kp D;have M:=kp z;have g7:=kp (z.ew E J o_ E.o.size);clear D z);refine⟨⟨_,_,_,_,_,o_,o_,o_,rfl,kp (by rw[aE,u.out];rfl),b4,kp ⟨?_,λx hx=> ?_⟩,g7⟩,o_⟩
    .rw[aE,u.out,flatMap_append];have h:=b0.o;rw[<-f5]at h;grind
    .obtain hx|hx:=mem_append.1 hx
     .exact(B.2 x hx).app M
     .rw[mem_singleton.1 hx];exact d7.o.app M
  .obtain rfl:k=n:=o_
   have R:=H.out;rw[take_of_length_le (by rw[HN];omega)]at R;have D:∀x∈dH _ L,GA _ 1 x.2:=λx hx=>by
    obtain⟨y,z,rfl⟩:=mem_map.1 hx;exact e8.o.ga y (mem_filter.1 z).1
   have J:(dH (aw fs) L).length<=40:=by
    unfold dH;rw[lM];exact aF (length_filter_le _ _) (by rw[kH];exact e8.o.n)
   have F:aw _=dH (aw _) L:=R;have C:∀f∈out,f.keys.length<=1000:=λf G=>by
    have:pl f∈dH (aw fs) L:=by rw[<-F];exact mem_map_of_mem G
    obtain⟨y,_,e⟩:=mem_map.1 this;have z:dO L 0 _=f.keys:=congrArg Prod.fst e;rw[<-z];exact aF (xj L 0 _) (aF a5 d_)
   have O:∀f∈out,cB _/\0<f.ag.c:=λf G=>Ji (D _ (by rw[<-F];exact mem_map_of_mem G));have E:=kp (P9 Z _ Y _ (by rw[u.out];omega) C (by have:=g.out;exact this.jW));have M:Kp (∀A c y W,y.Perm out->cZ y->bM W _ A y->Below _ w W->Calls _ _ #[.slice A _ c] W λe w'=>∃(A:OA)(c n:Nat),e = .returned (.tuple #[.slice A n c,.bool _])/\Q e w'):=(λA c y W z hs G q=>by
    have V:(y.map pl).Perm (dH (aw fs) L):=by rw[<-F];exact z.map _
    obtain⟨r,Z⟩:=J8 J D V (yR hs);have ht:=Jc J D V (yR hs) Z;refine(OG A y c W r (by rw[z.length_eq,u.out];omega) (λf G=>C f (z.mem_iff.1 G)) (λf G=>O f (z.mem_iff.1 G)) hs Z G).mono ?_;rintro e w'⟨z,y,l2,rfl,Z,V,T⟩;exact⟨z,y,_,rfl,HR z y _ _ (by rw[show aw _=r from Z];omega) V (q.trans (T.mono q.size))⟩)
   rw[u.out]at E;clear H R F D J C O g HP HR HF;go_wp2_with fail;apply E.o.mono;clear E;rintro e O⟨A3,c3,y,rfl,E,D,J,z⟩;have u:=kp (M _ c3 y O E D J (Hw.o.trans (z.mono Hw.o.size)));clear M E D J z;obtain⟨z,z⟩:=e_ y.length;rw[z]at u⊢;clear z;go_wp2_with fail;apply u.o.mono;clear u;rintro e w4⟨u,c4,n4,rfl,hq⟩;have u:=kp hq;clear hq;go_wp2;exact u
def fS.len:∀{L:List (au×Pk)}{ks:LN},fS L ks->ks.length<=L.length
 | [],ks,h=>by rw[fS]at h;grind
 |(d,p)::L,ks,h=>by
  rw[fS]at h;split at h
  .obtain⟨k,r,rfl,_,h⟩:=h;exact Nat.succ_le_succ h.len
  .exact Nat.le_succ_of_le h.len
def vt(P:List (List ByteArray×Ag))(w:World)(e:Ending)(w':World):Prop:=∃(A:OA)(c:Nat)(gs:List Gp),e = .returned (.slice A gs.length c)/\gs.map hZ=P/\iR w' w'.heap.size A gs/\(∀k,pM A gs k->w.heap.size<=k)/\Below w.heap.size w w'
def OR(s:aN)(qs:List Pk)(L:List (au×Pk))(A Aa:OA)(cq ca:Nat)(fs:List Fa)(w:World)(hs:cQ w w.heap.size s)(ho:cJ s)(hq:fH w w.heap.size A qs)(hk:iT s qs)(hL:∀(i:Nat) d p,s.af[i]? = some d->qs[i]? = some p->L[i]? = some (d,p))(s3:L.length=qs.length)
 (hf:bM w w.heap.size Aa fs)(hn:fs.length<=1000)(o4:∀f∈fs,fS L f.keys) :
 Calls Tryz.prog 14 #[.agg (aG s),.agg #[.slice A qs.length cq],.slice Aa fs.length ca] w (vt ((aw fs).map λx=>(cX L x.1,x.2)) w):=by
 have z:=(ah _ w).alloc (ae _) (.cells (aG s) 25);have G:=kp (aa.new w 25 (aG s));obtain⟨y,E⟩:∃y,w.alloc (.cells (aG s) 25)=y:=⟨_,rfl⟩;rw[E]at z G;have J:=z.alloc z.size (.cells #[.slice A qs.length cq] 29);have b8:=kp (aa.new y 29 #[.slice A qs.length cq]);have e4:=kp (G.o.alloc (.cells #[.slice A qs.length cq] 29));obtain⟨w2,U⟩:∃w2,y.alloc (.cells #[.slice A qs.length cq] 29)=w2:=⟨_,rfl⟩;rw[U]at J b8 e4;have s6:=kp J;have y3:=kp z.size;have Z:=hk.len;have h0:=ho.n2;have V:=kp (λW(M:Below _ w W)=>(hf.below M).more M.size);have t3:=kp (λW(M:Below _ w W)=>(hs.below M).more M.size);have u0:=kp (λW(M:Below _ w W)=>(hq.below M).more M.size);have HR:=kp (show∀A c gs w',gs.map hZ=(aw fs).map (λx=>(cX L x.1,x.2))->iR _ _ A _->(∀k,pM A _ k->w.heap.size<=k)->Below _ w _->vt _ w _ w' fromλA c gs w' h1 h2 D u=>⟨A,c,gs,rfl,h1,h2,D,u⟩);have u1:=kp o4;have HL:=kp hL;have Ho:=kp ho;have Hk:=kp hk;generalize vt _ w=Q at*;obtain⟨n,O⟩:∃n,fs.length=n:=⟨_,rfl⟩;obtain⟨nq,u⟩:∃nq,qs.length=nq:=⟨_,rfl⟩;have D:s.af.length=nq:=o_
 have HN:=kp O;have w9:=kp u;have v5:=kp D;have i2:=kp (show L.length=nq by omega);rw[D]at h0;unfold aG at G e4 E⊢;rw[D]at G e4 E⊢;rw[u]at b8 U⊢;rw[O]at hn⊢;clear z J hs ho hq hk hL s3 hf O u D Z o4;obtain⟨i0,y0,y1,x3,y9⟩:=info_parts BJ;obtain⟨j0,x4,x5,t9,u8⟩:=info_parts BL;go_enter Tryz.func14,Tryz.ntmps14;go_wp2;clear E U;go_loopw [7,15] (λz u wr=>∃(k:Nat)(gp:List Gp)(A7:OA)(c7:Nat),k<=n/\u = .int .i64 (k:Nat)/\z = .slice A7 k c7/\Kp (gp.length=k)/\Kp (gp.map hZ=((fs.take k).map pl).map λx=>(cX L x.1,x.2))/\wr.ownsRow w2.heap.size 80 11 (.slice A7 k c7) k (gp.flatMap mV)/\Kp (∀g∈gp,jM wr w2.heap.size (.slice A7 k c7) g)/\Below w2.heap.size w2 wr) (λ_ u _=>n-(intOf u).toNat)
 case atStart=>exact⟨0,[],_,0,o_,rfl,rfl,kp rfl,kp rfl,cK _ _ _ _,kp (λx h=>r_),bR⟩
 case round=>
  obtain⟨k,gp,A7,c7,hk,rfl,rfl,p0,q9,u,n6,M⟩:=hrel;obtain⟨wo,rfl⟩:∃wo,wo=wr:=⟨_,rfl⟩;have X:=kp u;have Hb:=kp M;have Hw:=ay s6 M;clear u M;by_cases u:k<n
  .have N:k<fs.length:=by rw[HN];omega
   obtain⟨u,u,rfl,_,c0,c1,c2,c3,E,D,J,U,c8,c9,B⟩:=(V _ Hw).cells k N;have r7:=kp (λW M=>(V W M).keys _ (gM N));have O:=kp (u1 _ (gM N));have d0:=kp (show∀g:Gp,hZ g=(cX L (fs[k]'N).keys,(fs[k]'N).ag)->(gp++[g]).map _=((fs.take _).map pl).map (λx=>(cX L _,x.2))fromλg hg=>by
    rw[take_succ_eq_append_getElem N,map_append,map_append,map_append,q9.out,map_singleton,hg];rfl)
   generalize(fs[k]'N)=f at*;obtain⟨z,keys,fc,⟨ac,s0,n0,x0,s1,n1,x1,s2,n2,x2⟩⟩:=f;dsimp only at c0 c1 c2 c3 E D J U c8 c9 B r7 O d0;obtain⟨nk,u⟩:∃nk,keys.length=nk:=⟨_,rfl⟩;rw[u]at c0;have G:nk<=16:=by rw[<-u];exact aF O.o.len (by rw[i2];omega)
   have v2:=kp u;have G:0<=(k:Int):=o_
   have G:k<(n:Int):=o_
   have G:=kp (aa.new wo 89 #[.slice z nk fc,.int .i64 ac,.int .i64 s0,.int .i64 n0,.int .i64 x0,.int .i64 s1,.int .i64 n1,.int .i64 x1,.int .i64 s2,.int .i64 n2,.int .i64 x2]);have Z:=kp ((ah _ wo).alloc (ae _) (.cells #[.slice z nk fc,.int .i64 ac,.int .i64 s0,.int .i64 n0,.int .i64 x0,.int .i64 s1,.int .i64 n1,.int .i64 x1,.int .i64 s2,.int .i64 n2,.int .i64 x2] 89));clear N u;go_upto_region 5 with fail;clear c0 c1 c2 c3 E D J U c8 c9 B;generalize wo.alloc _=u at*;generalize D:wo.heap.size=g4 at*;have V:=kp (show Below wo.heap.size _ u by rw[D];exact Z);have g3:=kp D;clear D;obtain⟨a0,a1,a2,a3,a4,a5,a6,a7,a8,a9,s4⟩:=aa.dk G;have Z:=kp (aa.new u 80 #[.slice none 0 0,.int .i64 ac,.int .i64 s0,.int .i64 n0,.int .i64 x0,.int .i64 s1,.int .i64 n1,.int .i64 x1,.int .i64 s2,.int .i64 n2,.int .i64 x2]);have U:=kp ((ah _ u).alloc (ae _) (.cells #[.slice none 0 0,.int .i64 ac,.int .i64 s0,.int .i64 n0,.int .i64 x0,.int .i64 s1,.int .i64 n1,.int .i64 x1,.int .i64 s2,.int .i64 n2,.int .i64 x2] 80));go_upto_region 6 with fail;clear a0 a1 a2 a3 a4 a5 a6 a7 a8 a9 s4;generalize u.alloc _=w5 at*;generalize E:u.heap.size=J at*;have D:=kp E;clear E;have E:g4<J:=by rw[<-D];exact G.o.lt
   have i7:=kp (Z.o.lt);have g8:=kp (V.o.trans ((show Below _ u _ by rw[D];exact U).mono V.o.size));obtain⟨q0,_⟩:=(b8.o.under (Hb.o.trans (g8.o.mono Hb.o.size))).one;go_wp2;clear q0;go_loopw [11,25] (λw6 u V=>∃(i j:Nat)(ns:List ByteArray)(E:OA)(B:Nat),i<=nq/\j<=i/\u = .int .i64 (i:Nat)/\w6 = .int .i64 (j:Nat)/\Kp (ns.length=j)/\Kp (fS (L.drop i) (keys.drop j))/\Kp (ns++cX (L.drop i) (keys.drop j)=cX L keys)/\Kp (aa V J 80 #[.slice E j B,.int .i64 ac,.int .i64 s0,.int .i64 n0,.int .i64 x0,.int .i64 s1,.int .i64 n1,.int .i64 x1,.int .i64 s2,.int .i64 n2,.int .i64 x2])/\Kp (V.ownsRow w5.heap.size 9 1 (.slice E j B) j (ns.map .string))/\Kp (aa V g4 89 #[.slice z nk fc,.int .i64 ac,.int .i64 s0,.int .i64 n0,.int .i64 x0,.int .i64 s1,.int .i64 n1,.int .i64 x1,.int .i64 s2,.int .i64 n2,.int .i64 x2])/\Kp (w5.heap.size<=V.heap.size)/\Below wo.heap.size wo V) (λ_ u _=>nq-(intOf u).toNat)
   case atStart=>exact⟨0,0,[],_,0,o_,o_,rfl,rfl,kp rfl,kp (by rw[drop_zero,drop_zero];exact O),kp o_,Z,kp (cK _ _ _ _),kp (G.o.under (by rw[D];exact U)),kp o_,g8⟩
   case round=>
    obtain⟨i,j,ns,E,B,hi,u,rfl,rfl,l4,i6,f2,R,I,j1,q2,u⟩:=hrel;obtain⟨V,rfl⟩:∃V,V=wr:=⟨_,rfl⟩;have b9:=kp u;have Z:=ay Hb u;have D:=ay Hw u;clear u;by_cases u:i<nq
    .have G:i<qs.length:=by rw[w9];omega
     have O:i<s.af.length:=by rw[v5];omega
     have l7:i<L.length:=by rw[i2];omega
     have U:=HL i _ _ (gE O) (gE G);have d4:L.drop i=(s.af[i]'O,qs[i]'G)::L.drop (i+1):=by
      rw[drop_eq_getElem_cons l7];rw[gE l7]at U;injection U with U;rw[U]
     obtain⟨bq,oq,r3,u,_,_,_,_,_,z,u⟩:=(u0 w bR).pick i G;have p5:=al D z;have p6:=al D u;clear z u;have n5:=Hk.o.ok i _ _ (gE O) (gE G);have p9:=kp (λW M=>(t3 W M).af _ (gM O));have v3:=kp (λW M=>(t3 W M).aj i O);have u:=i6.out;have q:=f2.out;rw[d4]at u q;generalize(s.af[i]'O)=d at*;generalize(qs[i]'G)=p at*;obtain⟨z,pt,z,z,z,z,z,g,z⟩:=p;dsimp only at p5 p6;rw[fS]at u;rw[cX]at q;dsimp only at u q;have M:0<=(i:Int):=o_
     have M:i<(nq:Int):=o_
     obtain⟨q0,_⟩:=(b8.o.under Z).one;rw[r3]at q0;clear U d4 l7 O G i6 f2;cases g with
     |false=>
      rw[if_neg d_]at u q;have m4:=kp u;have n7:=kp q;clear u q n5;go_wp2;exact⟨⟨_,j,_,E,B,o_,o_,o_,rfl,l4,m4,n7,R,I,j1,q2,b9⟩,o_⟩
     |true=>
      rw[if_pos rfl]at u q;obtain⟨key,r,U,G,u⟩:=u;have M:j<keys.length:=by
       have:=congrArg length U;rw[length_drop,length_cons]at this;omega
      have hr:r=keys.drop (j+1):=by
       rw[drop_eq_getElem_cons M]at U;injection U with _ h;exact h.symm
      have g6:keys[j]=key:=by
       rw[drop_eq_getElem_cons M]at U;injection U
      rw[U,hr]at q;rw[hr]at u;have F:z<d.ai.length:=n5.bG
      have e2:key<(d.ai[z]'F).ar.length:=by
       unfold bE at G;rw[gE F]at G;exact G
      have e1:eI d z key=(d.ai[z]'F).ar[key]:=by
       unfold eI bE;rw[gE F];show(((d.ai[z]'F).ar)[key]?).getD .empty=_;rw[gE e2];rfl
      have n7:=kp (show(ns++[eI d z key])++cX _ (keys.drop _)=cX L _ by rw[append_assoc];exact q);have m4:=kp u;obtain⟨bd,od,t0,u,_,r9⟩:=v3 w bR;obtain⟨bt,ot,r0,u,_,r8,_⟩:=(p9 w bR).cU z F
      obtain⟨bs,os,r6,u,O⟩:=Row.at_ ((p9 w bR).ai _ (gM F)).ar (by rw[lM];omega);rw[getElem_map,<-e1]at O;obtain⟨bk,ok,r1,u,u⟩:=Row.at_ (r7 w bR) (by rw[ia];omega);unfold an at u;rw[getElem_map,g6]at u;have M:=al D r9;have t1:=al D r8;have j2:=al D O;have kc:=al D u;clear r9 r8 O u;clear e1;generalize eI d z key=nm at*
      generalize(d.ai[z]'F).ar.length=D at*;generalize(d.ai[z]'F).At=u at*;generalize(d.ai[z]'F).ct=tc at*;obtain⟨u,s7⟩:∃u,d.ai.length=u:=⟨_,rfl⟩;rw[s7]at M F;obtain⟨O,_,_,_⟩:=(e4.o.under Z).two;have F2:j<nk:=by have:=v2.o;omega
      rw[t0]at O;rw[r0]at M;rw[r6]at t1;have Y:=j1.o;rw[r1]at Y;obtain⟨f0,_⟩:=aa.dk Y;have f6:=R.o.cell 0;simp at f6;have z0:=R.o.free 0;have e9:=kp (show∀o,o<w5.heap.size->(Value.slice E j B).ownBlock≠some o fromλo ho e=>by have:=(I.o.lt o e).1;omega);have x6:=kp (show w.heap.size<=y.heap.size/\y.heap.size<w2.heap.size/\w2.heap.size<=g4 from⟨y3,b8.o.lt,by rw[<-g3];exact Hb.o.size⟩);have y8:=kp (e4.o.lt);have k4:0<=(z:Int):=o_
      have k5:z<(u:Int):=o_
      have k6:0<=(j:Int):=o_
      have k7:j<(nk:Int):=o_
      have k8:0<=(key:Int):=o_
      have k9:key<(D:Int):=o_
      clear t0 r0 r6 r1 r3 G e2 U g6 n5 s7 hr;go_upto_region 11 with fail;have C:=kp (show Below V.heap.size V _ from bR.drew);have T:=kp (bS I C);have U:=kp (R.o.under C);have y2:=kp (b9.o.trans (C.o.mono b9.o.size));have q6:=kp (j1.o.under C);refine wp_region_noPanic ?_;refine br (t:=27) (S:=(λw'=>(w'.cell? _=some _/\w'.frozen? _=false)/\w'.cell? _=some (.slice _ _ _)/\w'.cell? _=some (.slice _ u _)/\w'.cell? _=some (.slice _ D _)/\w'.cell? _=some _/\w'.cell? _=some (.int _ _)/\w'.cell? _=some _/\w'.cell? _=some (.int _ _)/\w'.cell? _=some _)) k_ ⟨⟨f6,z0⟩,O,M,t1,q0,p6,f0,kc,j2⟩ (λb=> ?_);generalize V.drew=wd at*;refine tD 0 1 2 3 b ?_;refine tD 4 5 6 7 b ?_;refine tD 8 9 10 11 b ?_;refine tD 12 13 14 15 b ?_;refine tD 16 17 18 19 b ?_;refine tD 20 21 22 23 b ?_;have d9:=U.o.lt;refine oT 24 λK hK=>?_;go_simp;refine oK hK ?_ λD=>?_
      .exact⟨⟨al (bR.alloc o_ _) b.1.1,by rw[iJ (bR.alloc o_ _) _ _ d9];exact b.1.2⟩,al (bR.alloc o_ _) b.2.1,al (bR.alloc o_ _) b.2.2.1,al (bR.alloc o_ _) b.2.2.2.1,al (bR.alloc o_ _) b.2.2.2.2.1,al (bR.alloc o_ _) b.2.2.2.2.2.1,al (bR.alloc o_ _) b.2.2.2.2.2.2.1,al (bR.alloc o_ _) b.2.2.2.2.2.2.2.1,al (bR.alloc o_ _) b.2.2.2.2.2.2.2.2⟩
      replace b:=D;clear hK K D;have j3:j<1048576*64:=o_
      have d3:=aF q2 C.o.size;have s5:=al C f6;have u:=kp (show∀ k o v,k<w5.heap.size->wd.cell? _=some v->∀w' y,App _ w' _ y->w'.cell? ⟨k,o,none⟩=some v fromλk o v hk z w' y y=>(bF (y.bI o_ (e9 k hk))).trans z);have y:=x6.o;have y:=y8.o;have y:=i7.o;refine oT 25 λK hK=>?_;refine jq rfl _ _ _ rfl _ 9 _ _ _ Tryz.underlying23 x4 x5 t9 u8 rfl _ _ rfl (.slice E j B) j _ rfl T rfl j3 d_ d3 ?_;intro v8 w8 y G;obtain⟨z,c9,h9⟩:=bY y;subst h9;have H:=kp y;have m:=kp G;clear y G;go_simp;refine oK hK ?_ λD=>?_
      .have v0:=U.o;exact⟨⟨u _ _ _ o_ s5 _ _ m,(m.o.bI d9 (e9 _ o_) |> λe=>(aa.free (e.trans v0) 0))⟩,u _ _ _ o_ (al C O) _ _ m,u _ _ _ o_ (al C M) _ _ m,u _ _ _ o_ (al C t1) _ _ m,u _ _ _ o_ (al C q0) _ _ m,u _ _ _ o_ (al C p6) _ _ m,u _ _ _ o_ (al C f0) _ _ m,u _ _ _ o_ (al C kc) _ _ m,u _ _ _ o_ (al C j2) _ _ m⟩
      replace b:=D;clear hK K D;refine tk 26 b ?_;refine fC (o:= ?op27) k_ ?ap27 k_ (λK hK=> ?bp27)
      case ap27=>(simp only[getElem?_toArray,getElem?_cons_succ,getElem?_cons_zero];rfl)
      obtain⟨⟨u,D⟩,_⟩:=b;go_simp;refine hK.out _ _ ?_;clear hK K;refine NoPanic.normal ?_
      have u:=g3.o;have r5:=kp (aa.set ((m.o.bI d9 (e9 _ o_)).trans U) 0 (.slice z (j+1) c9));have m5:=kp (fN (w':=w8.setCell _ (.slice z (j+1) c9)) H (λo ho=>Below.heap_setCell _ ⟨J,0,none⟩ _ o (by have:=(H.o.lt o ho).1;show o≠J;omega)));have Y:=kp (aa.aJ ((m.o.bI o_ (e9 _ o_)).trans q6) (p:=⟨J,0,none⟩) o_ (.slice z (j+1) c9));have u:=(m.o.below bR T o_ d3).size;have u4:=kp ((m.o.below y2 T o_ o_).setCell (p:=⟨J,0,none⟩) o_ (.slice z (j+1) c9));have U:=kp (show w5.heap.size<=(w8.setCell ⟨J,0,none⟩ (.slice z (j+1) c9)).heap.size by simp;omega);have v1:=kp (show(ns++[nm]).length=j+1 by rw[aE,l4.out];rfl);have D:=kp (show(w8.setCell _ _).ownsRow _ 9 1 _ _ ((ns++[nm]).map _) by rw[map_append];exact m5);clear f6 z0 O M t1 q0 p6 f0 kc j2 p5 u s5;go_wp2;exact⟨⟨_,_,_,z,_,o_,o_,o_,o_,v1,m4,n7,r5,D,Y,U,u4⟩,o_⟩
    .obtain rfl:i=nq:=o_
     have u:=drop_eq_nil_of_le (by rw[i2];omega);have q:=f2.out;rw[u,cX,append_nil]at q;have U:=kp (d0 ⟨E,ns,B,_⟩ (by unfold hZ;rw[q]));have o7:=kp (jM.new (ag:=⟨ac,s0,n0,x0,s1,n1,x1,s2,n2,x2⟩) I (B0:=w2.heap.size) (by have:=Hb.o.size;have:=g3.o;have:=i7.o;omega) (λo ho=>by have:=(X.o.lt o ho).2;have:=g3.o;have:=i7.o;omega));have J:=kp (bS X b9);have M:=kp (λg hg=>(n6.out g hg).below b9);have j3:k+1<1048576*64:=o_
     have D:=Z.o.size;rw[l4.out |> λh=>h.symm]at R;clear u q f2 i6;obtain⟨a0,a1,a2,a3,a4,a5,a6,a7,a8,a9,s4⟩:=aa.dk R;obtain⟨u,z⟩:∃u,ns.length=u:=⟨_,rfl⟩;rw[z]at a0;have O:=kp z;clear z R;go_wp2_with(at_builtin;refine je rfl _ _ _ rfl _ 80 _ _ _ _ Tryz.underlying47 y0 y1 x3 y9 rfl d_ V _ rfl (xg _ _ _ _ _ _ _ _ _ _ _ _ _) (.slice _ k _) k _ rfl J rfl j3 d_ D ?_;intro v8 w8 y G;obtain⟨z,c8,u⟩:=cI y;subst u;have H:=kp y;have u:=kp G;clear y G);have y:=kp (u.o.ew Z J o_ D);refine⟨⟨_,_,z,_,o_,o_,rfl,kp (by rw[aE,p0.out];rfl),U,?_,kp (λg hg=> ?_),y⟩,o_⟩
     .rw[flatMap_append];have h:=H.o;rw[<-O]at h;trivial
     .obtain hg|hg:=mem_append.1 hg
      .exact(M g hg).app u
      .rw[mem_singleton.1 hg];exact o7.o.app u
  .obtain rfl:k=n:=o_
   have u:=q9.out;rw[take_of_length_le (by rw[HN];omega)]at u;have y:=kp (by
    have:=HR _ c7 _ _ u ⟨dF X,λg hg=>(n6.out g hg).row⟩ (λo ho=>by
     have z:=s6.o.size;obtain⟨_,off,rfl⟩|⟨g,hg,ho⟩:=ho
     .have:=(X.o.lt o rfl).1;omega
     .have:=((n6.out g hg).off o ho).1;omega) Hw
    rw[p0.out]at this;omega)
   clear u;go_wp2;exact y
def jl:Pk:=⟨0,0,.empty,.empty,none,[],0,false,0⟩
def Np{d}(h:0<d.ai.length):gz d jl:=⟨.inl ⟨rfl,rfl⟩,h,⟨av _,λ_=>rfl⟩,⟨av _,λ_=>rfl⟩,λ_=>rfl,h,λ_=>rfl⟩
def DE{s}(h:cJ s):iT s (replicate s.af.length jl):=⟨length_replicate,λi d p hd b=>by
 obtain⟨h1,rfl⟩:=aO hd;rw[getElem?_replicate,if_pos h1]at b;injection b with b;subst b;exact Np (h.af i h1).n1⟩
def yn:∀(L:List (au×Pk))(a:Nat)(k:LN),(∀x∈L,x.2=jl)->eo L a k=true/\dO L a k=[]
 | [],_,_,_=>⟨rfl,rfl⟩
 |(d,p)::L,a,k,hx=>by
  obtain rfl:=hx _ mem_cons_self;obtain⟨h1,h2⟩:=yn L (a+1) k λx b=>hx x (mem_cons_of_mem _ b);trivial
def R2 ps L(h:∀x∈L,x.2=jl):dH ps L=ps.map λx=>([],x.2):=by
 unfold dH;rw[filter_eq_self.2 λx _=>(yn L 0 _ h).1];exact map_congr_left λx _=>by rw[(yn L 0 _ h).2]
def QL{ps r L a}(h:∀x∈L,x.2=jl)(b:ps≠[])(c:bW (λ_=>true) ps=some a)(ht:ev (dH ps L) r):r=[([],a)]:=by
 rw[R2 _ L h]at ht;refine ht.one ⟨pairwise_singleton _ _,λkey=>⟨?_,?_⟩,λx hx=> ?_⟩
 .rintro⟨x,hx,rfl⟩;rw[mem_singleton.1 hx];obtain⟨y,ys,rfl⟩:=exists_cons_of_ne_nil b;simp
 .simp
 .rw[mem_singleton.1 hx];show _=some a;rw[<-c];unfold bW;rw[filter_map,map_map];rfl
def RE{c:List au}{n}:∀x∈c.zip (replicate n jl),x.2=jl:=λx hx=>by
 obtain⟨a,b⟩:=x;exact eq_of_mem_replicate (of_mem_zip hx).2
section
attribute [local go_sem] zZ
def iR.cells{w:World}{B:Nat}{A:OA}{l:List Gp}(h:iR w B A l)(k:Nat)(hk:k<l.length) :
 ∃b off,A=some ⟨b,off,none⟩/\b<B/\C w b (off+k*11) (U l[k].A l[k].names.length l[k].c)/\C w b (off+k*11+1) (I l[k].ag.c)/\C w b (off+k*11+2) (I l[k].ag.s0)/\C w b (off+k*11+3) (I l[k].ag.n0)/\C w b (off+k*11+4) (I l[k].ag.x0)/\C w b (off+k*11+5) (I l[k].ag.s1)/\C w b (off+k*11+6) (I l[k].ag.n1)/\C w b (off+k*11+7) (I l[k].ag.x1)/\C w b (off+k*11+8) (I l[k].ag.s2)/\C w b (off+k*11+9) (I l[k].ag.n2)/\C w b (off+k*11+10) (I l[k].ag.x2):=by
 obtain⟨b,off,e,f,d⟩:=Row.rec Jn h.row o_ k hk;exact⟨b,_,e,f,d 0 _ rfl,d 1 _ rfl,d 2 _ rfl,d 3 _ rfl,d 4 _ rfl,d 5 _ rfl,d 6 _ rfl,d 7 _ rfl,d 8 _ rfl,d 9 _ rfl,d _ _ rfl⟩
def zT(A1 A2:OA)(u l2:List Gp)(c1 c2:Nat)(w:World)(h1:iR w w.heap.size A1 u)(h2:iR w w.heap.size A2 l2)(he:u.map hZ=l2.map hZ)(hn:u.length<=1000)(hk:∀g∈u,g.names.length<=1000) :
 Calls prog 18 #[U A1 u.length c1,U A2 l2.length c2] w (cy (λr=>r=true) w):=by
 have HR:=J (λw' X=>cy.mono (P:=λr=>r=true) (w:=w) (w':=w') rfl X);have Y:=congrArg length he;rw[lM,lM]at Y;have y:=J (λW(e:E w W)=>(h1.below e).more e.size);have G:=J (λW(e:E w W)=>(h2.below e).more e.size);have D:Kp (∀ k a(b:k<l2.length),hZ u[k]=hZ l2[k]):=(λk a b=>by
  have:=congrArg (λl=>l[k]?) he;grind)
 have Z:=J hk;generalize cy (λr=>r=true) w=Q at*;obtain⟨n,H⟩:=e_ u.length;rw[<-Y,H];have z:=J (And.intro H (Y.symm.trans H));rw[H]at hn;clear h1 h2 he hk Y H;go_in;go_wp2;go_loopw [14] (λB wr=>∃k:Nat,k<=n/\B = N k/\E w wr) (λB _=>n-(intOf B).toNat)
 case atStart=>exact⟨0,o_,rfl,bR⟩
 .obtain⟨k,hk,rfl,X⟩:=hrel;obtain⟨wo,rfl⟩:∃wo,wo=wr:=⟨_,rfl⟩;have V:=J X;clear X;by_cases T:k<n
  .have f:k<u.length:=by rw[z.1];omega
   have s:k<l2.length:=by rw[z.2];omega
   have z:=D k f s;have D:=J (λW e=>(y W e).cells k f);have C:=J (λW e=>(G W e).cells k s);have O:=J (λW e=>(y W e).each _ (gM f));have M:=J (λW e=>(G W e).each _ (gM s));have L:=Z _ (gM f);generalize(u[k]'f)=x at*;generalize(l2[k]'s)=y at*;clear f s;obtain⟨G,Z,G,ag⟩:=x;obtain⟨G,G,G,G⟩:=y;injection z with c d;dsimp only at c d L D C O M;subst c d;obtain⟨ac,s0,n0,x0,s1,n1,x1,s2,n2,x2⟩:=ag;dsimp only at D C;obtain⟨m,y⟩:=e_ Z.length;rw[y]at L D C;have Hm:=J y;clear y;have y:0<=(k:Int):=o_;have y:k<(n:Int):=o_;obtain⟨y,y,c,_,R,p1,p2,p3,p4,p5,p6,p7,p8,L,a6⟩:=D _ V;obtain⟨y,y,d,_,F,q1,q2,q3,q4,q5,q6,q7,G,q9,y⟩:=C _ V;subst c d;go_upto_region 6 with fail;go_quiet (fail);have z:=J (below_drewN V nq);clear R p1 p2 p3 p4 p5 p6 p7 p8 L a6 F q1 q2 q3 q4 q5 q6 q7 G q9 y;generalize wo.drewN _=y at*;obtain⟨G,G,c,_,R,_⟩:=D y z;obtain⟨G,G,d,_,F,_⟩:=C y z;injection c with c;injection c with c y _;injection d with d;injection d with d L _;subst c d y L;go_wp2;clear R F;go_loopw [49] (λv wr=>∃q:Nat,q<=m/\v = N q/\E w wr) (λv _=>m-(intOf v).toNat)
   case atStart=>exact⟨0,o_,rfl,z⟩
   .obtain⟨q,z,rfl,G⟩:=hrel;have p:=J G;clear G;by_cases I:q<m
    .have A:q<(Z.map Value.string).length:=by rw[lM,Hm];omega
     obtain⟨z,z,rfl,_,t1⟩:=Row.at_ (O _ p) A;obtain⟨z,z,rfl,_,t2⟩:=Row.at_ (M _ p) A;rw[getElem_map]at t1 t2;generalize(Z[q]'(by rw[Hm];omega))=z at*;obtain⟨_,_,c,_,R,_⟩:=D _ p;obtain⟨_,_,d,_,F,_⟩:=C _ p;injection c with c;injection c with c y _;injection d with d;injection d with d L _;subst c d y L;have y:0<=(q:Int):=o_;have y:q<(m:Int):=o_;clear A;go_upto_region 11 with fail;go_quiet (fail);have Hd:=J (below_drewN p nq);clear R F t1 t2;go_wp2;exact⟨⟨q+1,o_,o_,Hd⟩,o_⟩
    . go_wp2;exact⟨⟨k+1,o_,o_,p⟩,o_⟩
  .have y:=J (HR _ V);go_wp2;exact y
end
end Tc
end Go.Proofs.YtibjlpkpljnicaaGreatDoor
