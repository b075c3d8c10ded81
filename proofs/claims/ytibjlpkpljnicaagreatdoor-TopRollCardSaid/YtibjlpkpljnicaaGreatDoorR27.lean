/- Parts. -/
import Derived.Test.YtibjlpkpljnicaaGreatDoorR26
import Derived.RegionTactic
set_option maxRecDepth 100000
set_option maxHeartbeats 8000000
set_option linter.all false
namespace Go.Proofs.YtibjlpkpljnicaaGreatDoor
namespace Tc
open List Go.RowKit Base Go.Proofs.Tryz
abbrev cT(p:Pk):AV:=#[I p.f,I p.t,T p.lo,T p.hi,U p.A p.set.length p.c,.bool p.g,I p.bG]
structure jO(w:World)(B:Nat)(p:Pk):Prop where
 set:Row w B p.A (p.set.map .string)
 n:p.set.length<=1000000
def jO.below{w w' B p}(h:jO w B p)(b:Below B w w'):jO w' B p:=⟨h.set.below b,h.n⟩
def jO.more{w B b p}(h:jO w B p)(c:B<=b):jO w b p:=⟨h.set.more c,h.n⟩
def lD.pk{d p}(h:lD d p):nF p=cT (nE p):=by
 have h1:=h.f;have h2:=h.t;have b:=h.bG;unfold cT nE;grind
def aa.seven{w g t f e m d b n c}(h:aa w g t #[f,e,m,d,b,n,c]) :
 C w g 0 f/\C w g 1 e/\C w g 2 m/\C w g 3 d/\C w g 4 b/\C w g 5 n/\C w g 6 c:=
 ⟨h.cell 0,h.cell 1,h.cell 2,h.cell 3,h.cell 4,h.cell 5,h.cell 6⟩
abbrev mO(w:World)(e:Ending)(w':World):Prop:=e = .returned (I 0)/\E w w'
def FX p w(ht:p.t=0)(e:p.lo = .empty)(d:p.hi = .empty)(m:p.set=[]):Calls prog 239 #[.agg (cT p)] w (R_ (.bool true) w):=by
 obtain⟨f,t,lo,hi,A,set,c,g,b⟩:=p;dsimp only at ht e d m;subst ht m;rw[show ByteArray.empty=⟨#[]⟩from rfl]at e d;subst e d;have n:=J ((ah _ w).alloc (ae _) (.cells #[N f,I 0,T ⟨#[]⟩,T ⟨#[]⟩,U A 0 c,.bool g,N b] 58));unfold cT;dsimp only[length_nil];go_in;go_wp2;go_ret;trivial
def Gn p w(n:p.lo.size<=16)(m:p.hi.size<=16)(d:p.set=[]):Calls prog 240 #[.agg (cT p)] w (mO w):=by
 obtain⟨f,t,lo,hi,A,set,c,g,b⟩:=p;dsimp only at n m d;subst d;have e:=J ((ah _ w).alloc (ae _) (.cells #[N f,N t,T lo,T hi,U A 0 c,.bool g,N b] 58));have h1:decide (16<(lo.size:Int))=false:=o_;have h2:decide (16<(hi.size:Int))=false:=o_;unfold cT;dsimp only[length_nil];go_in;go_wp2;go_ret;trivial
def FO t p w(hl:p.lo = .empty)(R:p.hi = .empty)(M:eu p.set)(hm:∀x∈p.set,∃i:Nat,t.ar[i]? = some x)(z:eu t.ar)(G:t.ar.length<=1000000)(ha:iV w w.heap.size t)(O:jO w w.heap.size p):Calls prog 241 #[.agg (cY t),.agg (cT p)] w (mO w):=by
 obtain⟨f,I,lo,hi,A,set,c,g,b⟩:=p;dsimp only at hl R M hm;rw[show ByteArray.empty=⟨#[]⟩from rfl]at hl R;subst hl R;have m:=(ah _ w).alloc (ae _) (.cells (cY t) 104);have s:=J (aa.new w 104 (cY t));obtain⟨w1,v⟩:=e_ (w.alloc (.cells (cY t) 104))
 rw[v]at m s;have F:=m.alloc m.size (.cells #[N f,N I,T ⟨#[]⟩,T ⟨#[]⟩,U A set.length c,.bool g,N b] 58);have D:=J (aa.new w1 58 #[N f,N I,T ⟨#[]⟩,T ⟨#[]⟩,U A set.length c,.bool g,N b]);have y:=J (s.alloc (.cells #[N f,N I,T ⟨#[]⟩,T ⟨#[]⟩,U A set.length c,.bool g,N b] 58));have H:=O.set;dsimp only at H;have hn:=O.n;dsimp only at hn;have HR:=J (λW(d:E w W)=>EW A _ c W (by unfold maxLen;omega) ((H.below d).more d.size) M);have HS:=J (λW(d:E w W)=>(H.below d).more d.size)
 have HF:=J (λW(d:E w W) x hx=>show∃i:Nat,Calls _ _ #[U _ _ t.ct,T x] W (R_ _ W)from by
  obtain⟨i,hi⟩:=hm x hx
  exact⟨i,ER _ _ _ i x W G ((ha.ar.below d).more d.size) z hi⟩)
 have u:=J F;obtain⟨nt,C⟩:=e_ t.ar.length
 obtain⟨n,V⟩:=e_ set.length
 have Hn:=J V;unfold cT cY at*;dsimp only;rw[C]at s y v HF⊢;rw[V]at D y u HR hn⊢;clear m F M hm z G ha O H V C;generalize L:w1.alloc _=w2 at*;have pD:=aa.seven D;go_in;go_wp2_with fail;apply(HR _ u).mono;rintro e w3⟨rfl,rfl⟩;go_wp2;clear v L pD
 go_loopw [27] (λr wr=>∃(k:Nat),k<=n/\r = N k/\E w2 wr) (λr _=>n-(intOf r).toNat)
 case atStart=>exact⟨0,o_,rfl,bR⟩
 .obtain⟨k,hk,rfl,d⟩:=hrel;have Hb:=J d;have X:=ay u d;clear d;by_cases Z:k<n
  .have q:k<set.length:=by rw[Hn];omega
   obtain⟨bs,os,rfl,_,c0⟩:=(HS _ X).at_ (by rw[lM];exact q);rw[getElem_map]at c0;obtain⟨i,hf⟩:=HF _ X _ (gM q);have Hf:=J hf;clear hf;generalize set[k]'q=x at*;obtain⟨t0,t1,t2,_⟩:=(y.under Hb).three;have k0:0<=(k:Int):=o_
   have k1:k<(n:Int):=o_
   go_wp2_with fail;apply Hf.mono;rintro e w4⟨rfl,B⟩;have Y:=ay Hb B;clear B c0 t0 t1 t2;go_wp2;exact⟨⟨k+1,o_,o_,Y⟩,o_⟩
  .obtain rfl:k=n:=o_
   go_wp2;go_ret;trivial
def dB.rY{w B d}(h:dB w B d) k(hk:k<d.ai.length) :
 ∃b off,d.A=some ⟨b,off,none⟩/\C w b (off+k*3) (T d.ai[k].name)/\C w b (off+k*3+1) (U d.ai[k].At d.ai[k].ar.length d.ai[k].ct)/\C w b (off+k*3+2) (U d.ai[k].Au d.ai[k].up.length d.ai[k].cu):=by
 obtain⟨b,off,e,f,c⟩:=Row.rec yW h.row o_ k hk;exact⟨b,_,e,c 0 _ rfl,c 1 _ rfl,c 2 _ rfl⟩
def FW d p w(hd:dB w w.heap.size d)(ho:da d)(hp:jO w w.heap.size p)(hk:gz d p):Calls prog 181 #[.agg (aU d),.agg (cT p)] w (mO w):=by
 have R:=(ah _ w).alloc (ae _) (.cells (aU d) 70);have y:=J (aa.new w 70 (aU d));obtain⟨I,V⟩:=e_ (w.alloc (.cells (aU d) 70));rw[V]at R y;have D:=R.alloc R.size (.cells (cT p) 58);have z:=J (aa.new I 58 (cT p));have M:=J (y.alloc (.cells (cT p) 58));obtain⟨u,O⟩:=e_ (I.alloc (.cells (cT p) 58));rw[O]at D z M;have a0:=J D;have a8:Kp (p.f=0->∀W,Calls _ _ _ W _):=(λh0 W=>by
  obtain⟨h1,h2⟩|⟨h1,_⟩|⟨h1,_⟩:=hk.kind
  .exact FX p W h2 (hk.lo.2 o_) (hk.hi.2 o_) (hk.free h1)
  .omega
  .omega)
 have b0:Kp (p.f=1->∀W,Calls _ _ _ W _):=(λh0 W=>by
  obtain⟨h1,h2⟩|⟨h1,h2⟩|⟨h1,_⟩:=hk.kind
  .omega
  .exact Gn p W hk.lo.1 hk.hi.1 h2
  .omega)
 have s:=hk.t;have b3:Kp (p.f=2->∀W,E w W->Calls _ _ _ W _):=(λh0 W v=>by
  obtain⟨h1,h2⟩|⟨h1,h2⟩|⟨h1,h2,L⟩:=hk.kind
  .omega
  .omega
  .have G:=ho.ai _ s;have u:=hd.ai _ (gM s);refine FO _ p W (hk.lo.2 o_) (hk.hi.2 o_) h2 (λx hx=> ?_) G.row (by have:=G.n2;omega) ⟨u.name,(u.ar.below v).more v.size,(u.up.below v).more v.size,u.nt,u.nu,u.sz⟩ ((hp.below v).more v.size);obtain⟨i,hi⟩:=L x hx;unfold bE at hi;grind)
 have L:=J (λW=>pO d _ W hd.n s);have c3:=J (λW(v:E w W)=>((show dB W _ d from⟨hd.name,hd.n,(hd.row.below v).more v.size,λt ht=>by
  have u:=hd.ai t ht;exact⟨u.name,(u.ar.below v).more v.size,(u.up.below v).more v.size,u.nt,u.nu,u.sz⟩⟩).rY _ s))
 have E:p.f=0\/p.f=1\/p.f=2:=by rcases hk.kind with⟨h,_⟩|⟨h,_⟩|⟨h,_⟩<;>omega
 have c9:=ho.n2;generalize(d.ai[p.t]'s)=Z at*;clear hd ho hp hk R D;obtain⟨f,t,lo,hi,A,set,c,g,b⟩:=p;dsimp only[cT,aU]at*;obtain⟨nd,G⟩:=e_ d.ai.length;obtain⟨ns,D⟩:=e_ set.length;rw[G]at y M V L c9 s⊢;rw[D]at z O a8 b0 b3⊢;clear D G;obtain⟨B,p1,p2,G,D,H,F⟩:=aa.seven z;obtain⟨e0,Y,_,_⟩:=M.two;have y:=J E;clear E;obtain X|X|X:=y
 .have V:=J (a8 X);have f0:((f:Int) == 0)=true:=o_;clear X;go_in;go_wp2_with fail;apply(V _).mono;rintro e E⟨rfl,q⟩;have y:=ay a0 q;clear q B p1 p2 G D H F e0 Y;go_wp2;go_ret;trivial
 .have V:=J (b0 X);have f0:((f:Int) == 0)=false:=o_;have f1:((f:Int) == 1)=true:=o_;clear X;go_in;go_wp2_with fail;apply(L _).mono;rintro e E⟨rfl,q⟩;have O:=bu z q;have y:=ay a0 q;clear q B p1 p2 G D H F e0 Y;obtain⟨B,p1,p2,G,D,H,F⟩:=aa.seven O;go_wp2_with fail;apply(V _).mono;rintro e w4⟨rfl,a5⟩;have c6:=ay y a5;clear a5 B p1 p2 G D H F;go_wp2;go_ret;trivial
 .have V:=J (b3 X);have f0:((f:Int) == 0)=false:=o_;have f1:((f:Int) == 1)=false:=o_;have f2:((f:Int) == 2)=true:=o_;clear X;go_in;go_wp2_with fail;apply(L _).mono;rintro e E⟨rfl,q⟩;have O:=bu z q;have L:=bu M q;have y:=ay a0 q;clear q B p1 p2 G D H F e0 Y;obtain⟨B,p1,p2,G,D,H,F⟩:=aa.seven O;go_upto_region 13 with fail;have z:Kp (aa _ _ _ _):=O.under bR.drew;have M:Kp (aa _ _ _ _):=L.under bR.drew;have L:=J y.drew;clear B p1 p2 G D H F;obtain⟨B,p1,p2,G,D,H,F⟩:=aa.seven z;obtain⟨e0,Y,_,_⟩:=M.two;obtain⟨y,z,u,c0,c1,c2⟩:=c3 _ L;rw[u]at Y;dsimp only[cY]at V;obtain⟨nt,M⟩:=e_ Z.ar.length;obtain⟨nu,u⟩:=e_ Z.up.length;rw[M]at c1 V;rw[u]at c2 V;have u:0<=(t:Int):=o_;have t1:t<(nd:Int):=o_;apply wp_region_noPanic;refine br (t:=8) (S:=(λw'=>C w' _ 1 _/\C w' y _ _/\C w' y _ _/\C w' y _ _/\C w' _ 0 (N f)/\C w' _ 1 (N t)/\C w' _ 2 _/\C w' _ 3 _/\C w' _ 4 _/\C w' _ 5 _/\C w' _ 6 (N b))) k_ ⟨Y,c0,c1,c2,B,p1,p2,G,D,H,F⟩ (λr=> ?_);generalize E.drew=wd at*;apply tD 0 1 2 3 r;apply eR 4 5 6 r;refine oT 7 (λK hK=> ?_);go_simp;apply(V _ L).mono;rintro e u⟨rfl,u⟩;have m:=J u;clear u;try go_simp
  refine oK hK ?_ (λr=> ?_)
  .exact⟨al m Y,al m c0,al m c1,al m c2,al m B,al m p1,al m p2,al m G,al m D,al m H,al m F⟩
  clear hK K r;refine fC k_ (by first|exact g_|rfl) k_ (λK hK=> ?_);go_simp;apply hK.out _ _;clear hK K r;apply NoPanic.normal
  have u:=J (L.trans (m.mono L.size));clear B p1 p2 G D H F Y c0 c1 c2;go_wp2;go_ret;trivial
def oG(p:Pk):LV:=[I p.f,I p.t,T p.lo,T p.hi,U p.A p.set.length p.c,.bool p.g,I p.bG]
def Nq(p:Pk):(oG p).length=7:=rfl
structure fH(w:World)(B:Nat)(A:OA)(l:List Pk):Prop where
 row:Row w B A (l.flatMap oG)
 each:∀p∈l,jO w B p
def fH.below{w w':World}{B:Nat}{A:OA}{l:List Pk}(h:fH w B A l)(b:Below B w w'):fH w' B A l:=⟨h.row.below b,λp c=>(h.each p c).below b⟩
def fH.more{w:World}{B b:Nat}{A:OA}{l:List Pk}(h:fH w B A l)(c:B<=b):fH w b A l:=⟨h.row.more c,λp d=>(h.each p d).more c⟩
def fH.pick{w:World}{B:Nat}{A:OA}{l:List Pk}(h:fH w B A l)(k:Nat)(hk:k<l.length) :
 ∃b off,A=some ⟨b,off,none⟩/\b<B/\C w b (off+k*7) (I (l[k].f:Nat))/\C w b (off+k*7+1) (I (l[k].t:Nat))/\C w b (off+k*7+2) (T l[k].lo)/\C w b (off+k*7+3) (T l[k].hi)/\C w b (off+k*7+4) (U l[k].A l[k].set.length l[k].c)/\C w b (off+k*7+5) (.bool l[k].g)/\C w b (off+k*7+6) (I (l[k].bG:Nat)):=by
 obtain⟨b,off,e,m,d⟩:=Row.rec Nq h.row o_ k hk;exact⟨b,_,e,m,d 0 _ rfl,d 1 _ rfl,d 2 _ rfl,d 3 _ rfl,d 4 _ rfl,d 5 _ rfl,d 6 _ rfl⟩
structure iT(s:aN)(qs:List Pk):Prop where
 len:qs.length=s.af.length
 ok:∀(i:Nat) d p,s.af[i]? = some d->qs[i]? = some p->gz d p
def DH(s:aN)(D:List Pk)(A:OA)(cq:Nat)(w:World)(hs:cQ w w.heap.size s)(ho:cJ s)(hq:fH w w.heap.size A D)(hk:iT s D):Calls prog 103 #[.agg (aG s),.agg #[U A D.length cq]] w (mO w):=by
 have Y:=(ah _ w).alloc (ae _) (.cells (aG s) 25);have b0:=J (aa.new w 25 (aG s));obtain⟨w1,a4⟩:=e_ (w.alloc (.cells (aG s) 25))
 rw[a4]at Y b0;have b4:=Y.alloc Y.size (.cells #[U A D.length cq] 29);have L:=J (aa.new w1 29 #[U A D.length cq]);have V:=J (b0.alloc (.cells #[U A D.length cq] 29));obtain⟨w2,b2⟩:=e_ (w1.alloc (.cells #[.slice A D.length cq] 29))
 rw[b2]at b4 L V;have c9:=J b4;have b1:Kp (∀W,E w W->cQ W _ s):=λW v=>(hs.below v).more v.size;have c7:Kp (∀W,E w W->fH W _ A D):=λW v=>(hq.below v).more v.size;have HC:=J (λW v=>yL s W (b1 W v) ho);have Hk:=J hk
 have HF:=J (λW v i d p h1 h2=>FW d p W ((b1 W v).af d (mem_of_getElem? h1)) (by
  have h3:=aO h1;have h4:=ho.af i h3.1;grind) ((c7 W v).each p (mem_of_getElem? h2)) (hk.ok i d p h1 h2))
 have f0:=J (λW i d p h1 h2=>pO d _ W ((hs.af d (mem_of_getElem? h1)).n) (hk.ok i d p h1 h2).bG);have HR:Kp (∀W,E w W->mO w _ W):=λW v=>⟨rfl,v⟩;have e0:=ho.n2;have a0:=hk.len;obtain⟨n,hN⟩:=e_ D.length
 have a3:s.af.length=n:=o_
 have f1:=J a3;have HN:=J hN;unfold aG at*;rw[a3]at b0 V a4 HC e0⊢;rw[hN]at L b2⊢;generalize hQ:mO w=Q at*;clear hs ho hq hk Y b4 hN a3 a0 hQ;have i6:(n != (n:Int))=false:=s_
 obtain⟨s0,s1,_,_⟩:=V.two;obtain⟨q0,_⟩:=L.one;go_in;go_wp2_with fail;apply(HC _ c9).mono;rintro e w3⟨r,rfl,rfl,R⟩;have b3:=bu V R;have f8:=bu L R;have z:=ay c9 R;clear R a4 b2 s0 s1 q0;obtain⟨s0,s1,_,_⟩:=b3.two;obtain⟨q0,_⟩:=f8.one;go_wp2;clear s0 s1 q0
 go_loopw [24] (λa9 wr=>∃(k:Nat),k<=n/\a9 = N k/\E w3 wr) (λa9 _=>n-(intOf a9).toNat)
 case atStart=>exact⟨0,o_,rfl,bR⟩
 .obtain⟨i,hi,rfl,v⟩:=hrel;obtain⟨wo,rfl⟩:∃wo,wo=wr:=⟨_,rfl⟩
  have Hb:=J v;have Hw:=ay z v;clear v;by_cases d2:i<n
  .have a8:i<D.length:=by rw[HN];omega
   have y:i<s.af.length:=by rw[f1];omega
   have Hd?:= J (gE y);have Hp?:= J (gE a8);obtain⟨bq,oq,rfl,k3,c0,c1,c2,c3,c4,c5,c6⟩:=(c7 _ Hw).pick i a8;have e1:=Hk.ok i _ _ Hd?.out Hp?.out;have d9:=J e1.off;have a7:=J (λW v=>HF W v i _ _ Hd?.out Hp?.out);have e2:=J (λW=>f0 W i _ _ Hd?.out Hp?.out)
   have a5:Kp (∀W,E w W->∃b off,s.A=some _/\C W b (off+i*2) _/\C W b _ _):=(λW v=>by
    obtain⟨b,off,e,_,hc⟩:=Row.rec mT (b1 W v).row o_ i y
    exact⟨b,_,e,hc 0 _ rfl,hc 1 _ rfl⟩)
   clear e1 Hd? Hp?;generalize(s.af[i]'y)=d at*;generalize(D[i]'a8)=p at*;obtain⟨f,t,lo,H,pA,set,pc,g,x⟩:=p;dsimp only[cT,aU]at*;obtain⟨ns,d3⟩:=e_ set.length
   obtain⟨nd,b8⟩:=e_ d.ai.length
   rw[d3]at c4 a7;rw[b8]at a5 a7 e2;clear d3 b8;have f4:=J (aa.new wo 58 #[N f,N t,T lo,T H,U pA ns pc,.bool g,N x]);have f3:=J (Hb.alloc Hb.size (.cells #[N f,N t,T lo,T H,U pA ns pc,.bool g,N x] 58));have k0:0<=(i:Int):=o_
   have k1:i<(n:Int):=o_
   go_upto_region 9 with fail
   generalize wo.alloc _=w4 at*;generalize wo.heap.size=F at*;clear c0 c1 c2 c3 c4 c5 c6;have d6:Kp (aa _ F _ _):=f4.under bR.drew;have O:=J f3.drew;have b9:=J (z.trans (O.mono z.size));obtain⟨p0,p1,p2,p3,p4,M,X⟩:=aa.seven d6;obtain⟨s0,s1,_,_⟩:=(b3.under O).two;obtain⟨bd,od,eD,Z,d1⟩:=a5 _ b9;rw[eD]at s0;clear eD;apply wp_region_noPanic;refine br (t:=7) (S:=(λw'=>C w' _ 0 _/\C w' _ _ _/\C w' _ _ _/\C w' F 0 _/\C w' F 1 _/\C w' F 2 _/\C w' F 3 _/\C w' F 4 _/\C w' F 5 _/\C w' F 6 _)) k_ ⟨s0,Z,d1,p0,p1,p2,p3,p4,M,X⟩ (λm=> ?_);generalize w4.drew=wd at*;apply tD 0 1 2 3 m;apply tB 4 5 m;refine oT 6 (λK hK=> ?_)
   go_simp
   apply(a7 _ b9).mono;rintro e w5⟨rfl,d7⟩;have u:=J d7;clear d7
   try go_simp
   refine oK hK ?_ (λq=> ?_)
   .exact⟨al u s0,al u Z,al u d1,al u p0,al u p1,al u p2,al u p3,al u p4,al u M,al u X⟩
   clear hK K m;have m:=q;clear q;refine fC k_ (by first|exact g_|rfl) k_ (λK hK=> ?_)
   go_simp
   apply hK.out _ _;clear hK K m;apply NoPanic.normal
   have g5:=J (d6.under u);have c8:=J (O.trans (u.mono O.size));clear p0 p1 p2 p3 p4 M X s0 s1 Z d1;go_upto_region 12 with fail
   have g6:Kp (aa _ F _ _):=g5.under bR.drew;have G:=J c8.drew;have g3:=J (z.trans (G.mono z.size));obtain⟨p0,p1,p2,p3,p4,M,X⟩:=aa.seven g6;obtain⟨s0,s1,_,_⟩:=(b3.under G).two;obtain⟨a6,a2,e3,Z,d1⟩:=a5 _ g3;rw[e3]at s0;clear e3;obtain _|_:=g
   .have f7:=d9 rfl
    have i5:((x:Int) != 0)=false:=o_
    clear f7;apply wp_region_noPanic;refine br (t:=99) (S:=(λw'=>C w' F 5 _/\C w' F 6 _)) k_ ⟨M,X⟩ (λm=> ?_);generalize w5.drew=w7 at*;apply eR 0 1 2 m;apply sk 3 m;apply sk 4 m;apply sk 5 m;apply sk 6 m;apply sk 7 m;apply sk 8 m;apply sk 9 m;apply sk 10 m;apply sk 11 m;apply tD 12 13 14 15 m;apply tD 16 17 18 19 m;apply eR 20 21 22 m;refine bQ k_ ?_ _
    try clear m
    apply NoPanic.normal;clear p0 p1 p2 p3 p4 M X s0 s1 Z d1;go_wp2;exact⟨⟨i+1,o_,o_,G⟩,o_⟩
   .apply wp_region_noPanic;refine br (t:=99) (S:=(λw'=>C w' _ 0 _/\C w' _ _ _/\C w' _ _ _/\C w' F 5 _/\C w' F 6 _)) k_ ⟨s0,Z,d1,M,X⟩ (λm=> ?_);generalize w5.drew=w7 at*;apply tD 0 1 2 3 m;apply tD 4 5 6 7 m;apply tB 8 9 m;refine oT 10 (λK hK=> ?_)
    go_simp
    apply(e2 _).mono;rintro e w8⟨rfl,d5⟩;have B:=J d5;clear d5
    try go_simp
    refine oK hK ?_ (λq=> ?_)
    .exact⟨al B s0,al B Z,al B d1,al B M,al B X⟩
    clear hK K m;have m:=q;clear q;apply tD 11 12 13 14 m;apply eR 15 16 17 m;apply sk 18 m;apply sk 19 m;apply sk 20 m;apply tB 21 22 m;refine bQ k_ ?_ _
    try clear m
    apply NoPanic.normal;have f5:=J (G.trans (B.mono G.size));clear p0 p1 p2 p3 p4 M X s0 s1 Z d1;go_wp2;exact⟨⟨i+1,o_,o_,f5⟩,o_⟩
  .obtain rfl:i=n:=o_
   have d8:=J (HR _ Hw);go_wp2;exact d8
def MV(fs:List Fa)(d:au)(a t k:Nat)(K:cL):aT fs (df d a t k K)=(aT fs K).filter λi=>bN d t (((jC fs i)[a]?).getD 0) == k:=by
 unfold aT df;rw[filter_filter];grind
def Dm(fs:List Fa)(d:au)(a t:Nat)(K:cL){ks:LN}(h:ks.Nodup):((ks.map λk=>(aT fs (df d a t k K)).length).sum)<=(aT fs K).length:=by
 have b:=(ym (λi=>bN d t (((jC fs i)[a]?).getD 0)) _ (aT fs K) h).length_eq;rw[length_flatMap]at b;have e:(ks.map λk=>((aT _ K).filter λi=>bN d t _ == k).length)=ks.map λk=>(aT fs (df d a t k K)).length:=map_congr_left λk _=>by rw[MV]
 grind
variable{s:aN}{fs:List Fa}{st:St}{m:Nat}
def rN(h:il m fs):∀(L:List (au×Pk))(a:Nat)(K:cL)(pre:LN),aT fs K≠[]->(bZ fs L a K pre).length<=(aT fs K).length
 | [],a,K,pre,hK=>by
  unfold bZ;obtain⟨g,c,_⟩:=rU h hK;rw[c];exact length_pos_iff.2 hK
 |(d,p)::L,a,K,pre,hK=>by
  rw[bZ];split
  .exact rN h L _ _ _ hK
  .rename_i t ht;have b:(bL d p t).Nodup:=by unfold bL;exact List.Nodup.sublist filter_sublist nodup_range
   refine aF ?_ (Dm _ d a t K b);rw[length_flatMap];generalize bL d p t=ks;induction ks with
   |nil=>exact ae _
   |cons k ks e=>
    rw[map_cons,map_cons,sum_cons,sum_cons];refine Nat.add_le_add ?_ e;split
    .simp
    .exact rN h L _ _ _ ‹_›
def lY(s:aN)(fs:List Fa)(st:St)(a:Nat)(K:cL)(c:Cl):Prop:=if a+1=s.af.length then bW K (aw fs)=some c.ag else st.parts[c.child]? = some (a+1,aT fs K)
def cell_of(h:il m fs){a k:Nat}{K:cL}{c:Cl}(hK:aT fs K≠[])(e:kq (aw fs) (decide (a+1=s.af.length)) st a k (aT fs K) c):lY s fs st a K c:=by
 have h2:=e.2;unfold lY;by_cases b:a+1=s.af.length
 .rw[if_pos b];rw[if_pos (decide_eq_true b)]at h2;obtain⟨g,d,_⟩:=rU h hK;rw[d,h2.2,Qk,d];rfl
 grind
structure vN(s:aN)(fs:List Fa)(st:St)(d:au)(a t:Nat)(K:cL)(l:List Cl):Prop where
 cell:∀c∈l,c.key<200/\aT fs (df d a t c.key K)≠[]/\lY s fs st a (df d a t c.key K) c
 has:∀k,k<200->aT fs (df d a t k K)≠[]->∃c∈l,c.key=k
 ja:l.Pairwise λx y=>x.key<y.key
def fR.OX(h:fR s fs st)(D:cJ s)(E:iE s fs)(G:il m fs){a i:Nat}{K:cL}(J:st.parts[i]? = some (a,aT fs K)){d:au}(hd:s.af[a]? = some d){t:Nat}(ht:t<d.ai.length) :
 ∃n l,st.nodes[i]? = some n/\n.aj=a/\n.lists[t]? = some l/\vN s fs st d a t K l:=by
 obtain⟨n,l,R,q,_,L,b⟩:=h.row J hd ht;rw[Bv D E hd]at b;have f:=ri (eH (aw fs) (iw d t) a) (aT fs K);rw[Bv D E hd]at f;have r:∀g∈(range 200).filterMap (λk=>if aT fs (df d a t k K)=[]then none else some (k,aT fs (df d a t k K))),g.1<200/\aT fs (df d a t g.1 K)≠[]/\g.2=aT fs (df d a t g.1 K):=λg f=>r_
 refine⟨n,l,R,q,L,λc F=> ?_,λk hk A=> ?_,?_⟩
 .obtain⟨j,v,rfl⟩:=getElem_of_mem F;obtain⟨g,f,p⟩:=dE.left b (gE v);obtain⟨B,z,M⟩:=r g (mem_of_getElem? f);have hk:=p.1
  rw[hk];refine⟨B,z,?_⟩
  rw[M]at p;exact cell_of G z p
 .have f:(k,aT _ _)∈(range _).filterMap (λk=>if aT _ (df d a t k K)=[]then none else some (k,aT fs (df d a t k K))):=mem_filterMap.2 ⟨k,mem_range.2 hk,if_neg A⟩;obtain⟨j,v,e⟩:=getElem_of_mem f;have u:j<l.length:=by rw[<-b.1];omega
  refine⟨_,gM u,?_⟩;have p:=b.2 j _ _ (gE v) (gE u);have hk:=p.1;grind
 .rw[pairwise_iff_getElem];intro x y hx I C;obtain⟨g1,B,N⟩:=dE.left b (gE hx);obtain⟨g2,z,H⟩:=dE.left b (gE I);obtain⟨T,V⟩:=aO B;obtain⟨U,O⟩:=aO z;have:=pairwise_iff_getElem.1 f x y T U C;rw[N.1,H.1,<-V,<-O];omega
def fR.wC(h:fR s fs st)(e:il m fs){a i:Nat}{K:cL}(f:st.parts[i]? = some (a,aT fs K)):∃n,st.nodes[i]? = some n/\n.aj=a/\lY s fs st a K n.all/\aT fs K≠[]:=by
 obtain⟨n,d,_,b,c⟩:=h.node f;exact⟨n,d,c.aj,cell_of e b.ne c.all,b.ne⟩
structure lu(X:List LN)(m:Nat)(ns:List aQ):Prop where
 n1:1<=X.length
 n16:X.length<=16
 m1:1<=m
 m3:m<=3
 dw:ns.length<=20000
 short:∀x∈X,x.length<=1000
 small:∀n∈ns,n.lists.length<=4/\∀l∈n.lists,l.length<=1000
 sb:qP X.length ns
def jf(w:World)(ga:Nat)(X:List LN)(m:Nat)(e:List aQ):Prop:=∃(A d:OA)(c f most:Nat)(ys:List Fa)(b:List Nd),
 aa w ga 217 (eV A ys.length c m d b.length f most)/\cG w w.heap.size A ys/\ys.map Fa.keys=X/\gX w w.heap.size d b/\b.map aK=e
section
variable{X:List LN}{m ga:Nat}{ns:List aQ}{w w':World}
def jf.below(h:jf w ga X m ns)(b:E w w'):jf w' ga X m ns:=by
 obtain⟨A,g,c,p,most,ys,d,h1,h2,n,e,f⟩:=h;exact⟨A,g,c,p,_,_,d,h1.under b,(h2.below b).more b.size,n,(e.below b).more b.size,f⟩
def yP{b:List Nd}(h:∀n∈b.map aK,n.lists.length<=4/\∀l∈n.lists,l.length<=1000):(∀n∈b,vm n)/\∀n∈b,n.ls.length<=4/\∀l∈n.ls,l.cs.length<=1000:=by
 have H:∀n∈b,n.ls.length<=4/\∀l∈n.ls,l.cs.length<=1000:=λn c=>by
  obtain⟨h1,h2⟩:=h _ (mem_map_of_mem c);unfold aK at h1 h2;grind
 exact⟨λn c=>⟨(H n c).1,λl d=>aF ((H n c).2 l d) d_⟩,H⟩
def jf.shape(h:jf w ga X m ns)(g:lu X m ns):Calls prog 66 #[Y ga 0] w λe w'=>
 ∃(A:OA)(c:Nat)(ys:List Fa),e = .returned (.agg #[U A ys.length c,N m])/\cG w' w'.heap.size A ys/\ys.map Fa.keys=X/\E w w':=by
 obtain⟨A,v,c,y,most,ys,f,h1,h2,d,B,z⟩:=h;have n:ys.length=X.length:=r_
 refine(Gk _ A v c m _ y _ _ w h1 h2 (by rw[n];exact g.n1) (by rw[n];exact g.n16) (λx hx=>by have:=g.short x.keys r_;omega)).mono ?_;rintro e w'⟨q,u,b,rfl,s,p,r⟩;exact⟨q,u,b,rfl,s.at_,r_,r⟩
def jf.nodes(h:jf w ga X m ns)(b:lu X m ns):Calls prog 69 #[Y ga 0] w (sB ns w):=by
 obtain⟨A,g,c,p,most,ys,d,h1,h2,n,e,f⟩:=h;subst f;exact Gh _ A g _ c m p _ d w h1 e (by rw[show ys.length=X.length by rw[<-n,lM]];exact b.n1) (by have:=b.dw;grind) (yP b.small).1
def jf.whole(h:jf w ga X m ns)(b:lu X m ns):Calls prog 67 #[Y ga 0] w (R_ (.bool true) w):=by
 obtain⟨A,u,c,s,most,ys,e,h1,h2,v,g,p⟩:=h;subst p;have d:ys.length=X.length:=r_
 obtain⟨q,f⟩:=yP b.small;exact Rb _ A u _ c m s _ e w h1 g (by rw[d];exact b.n1) (by rw[d];exact b.n16) (by have:=b.dw;grind) q (λn r=>(f n r).2) (by rw[d];exact b.sb)
end
structure sj(X:List LN)(m most:Nat)(ns:List aQ):Prop where
 n1:1<=X.length
 n16:X.length<=16
 m1:1<=m
 m3:m<=3
 len:ns.length<=most
 RF:most<=1000000
 each:∀(i:Nat)(n:aQ),ns[i]? = some n->∃x,X[n.aj]? = some x/\im (decide (n.aj+1=X.length)) x m n/\(∀l∈n.lists,l.length<=1000)/\(n.aj+1=X.length\/∀c∈cR n,c.child<i/\∃n',ns[c.child]? = some n'/\n'.aj=n.aj+1)
def FY{s fs most}(h:se s fs most){part}(e:fI (aw fs) part){r}(d:nJ (aw fs) part=some r):cB r:=by
 refine xq _ _ r re (λa c=> ?_) d;obtain⟨i,hi,rfl⟩:=mem_map.1 c;have b:=e.lt i hi;unfold aw at b;rw[lM]at b;rw[wB (gE b)];exact h.fit _ (gM b)
def AJ{s fs most}(h:se s fs most){last st at_ key part c}(d:fI (aw fs) part)(e:kq (aw fs) last st at_ key part c):cB c.ag:=by
 have h2:=e.2;split at h2
 .obtain⟨r,b,_⟩:=h.cfg.yT _ d;rw[h2.2,b];exact FY h d b
 .rw[h2.1];exact re
def wW{s fs C}(e:cJ s)(T:iE s fs)(h:dv s fs 20000=some C){b}(V:20000<=b)(z:b<=1000000):sj (s.af.map aW) s.aC.length b C/\∀n∈C,∀x∈cR n,cB x.ag:=by
 have F:=AE e T (most:=20000) d_;have G:=AX h;have W:(s.af.map aW).length=s.af.length:=o_;have B:=e.n1;have N:=e.n2;by_cases r:fs=[]
 .subst r;have:=wX h;subst this;exact⟨⟨o_,o_,e.m1,e.m2,o_,z,λi n h=>r_⟩,λn B=>r_⟩
 .obtain⟨st,rfl,d⟩:=wY e r h;refine⟨⟨o_,o_,e.m1,e.m2,o_,z,λi n hi=> ?_⟩,λn B x hx=> ?_⟩
  .obtain⟨p,O,h1,h2,f⟩:=d.at_ hi;have hx:(s.af.map aW)[p.1]? = some (aW (s.af[p.1]'h1)):=r_
   have H:(s.af.map dP)[p.1]? = some (dP (s.af[p.1]'h1)):=r_
   have m:=f.lists;have v:=f.all;rw[H]at m;rw[<-W]at m v;obtain⟨M,J⟩:=AF F.cfg H hx h2 (by rw[d.dK.len];omega) m v;have hd:=f.aj;refine⟨_,by rw[hd];omega,?_,λl E=>aF (J l E) d_,?_⟩
   .rw[hd];have:n=⟨p.1,n.lists,n.all⟩:=by rw[<-hd]
    grind
   .by_cases D:n.aj+1=(s.af.map aW).length
    .omega
    .refine .inr λc A=>⟨d.dK.back i n hi o_ c A,?_⟩;obtain⟨q,I⟩:=f.lead o_ A;have u:c.child<st.nodes.length:=by rw[<-d.dK.len];grind
     refine⟨_,gE u,?_⟩;rw[(d.dK.rep _ _ _ (gE u) I).aj,hd]
  .obtain⟨i,hi,rfl⟩:=getElem_of_mem B;obtain⟨p,O,h1,h2,f⟩:=d.at_ (gE hi);obtain hx|hx:=mem_append.1 hx
   .obtain⟨k,l,j,L,U⟩:=Cr hx;obtain⟨lift,_,y⟩:=dE.left f.lists L;obtain⟨g,R,A⟩:=dE.left y U;exact AJ F (h2.group (mem_of_getElem? R)) A
   .rw[mem_singleton.1 hx];exact AJ F h2 f.all
def wV{s fs e}(b:cJ s)(f:iE s fs)(h:dv s fs 20000=some e):lu (s.af.map aW) s.aC.length e:=by
 have hk:=Ix b f h;have c:(s.af.map aW).length=s.af.length:=o_;refine⟨by rw[c];exact b.n1,by rw[c];exact b.n2,b.m1,b.m2,AX h,λx hx=> ?_,hk.small,by rw[c];exact hk.sb⟩;obtain⟨d,hd,rfl⟩:=mem_map.1 hx;obtain⟨i,hi,rfl⟩:=getElem_of_mem hd;rw[nI];exact aF (b.af i hi).n2 d_
end Tc
namespace Tc
open List Go.RowKit Base Go.Maps Go.WideMaps Go.Proofs.Tryz
def Gx(o:BinOp)(a b:Int):0<=bits o .u64 a b/\bits o .u64 a b<18446744073709551616:=by
 unfold bits;split<;>exact⟨by simp only[IntKind.wrap_u64];omega,by simp only[IntKind.wrap_u64];omega⟩
def QP{w:World}{gr gw i:Nat}{c:List Int}(h:eM w gr gw c)(hi:i<249):Calls prog 165 #[Y gr 0,N i] w λe w'=>e = .returned (.tuple #[])/\(∃b,eM w' gr gw b)/\aq (·=gw) w w':=by
 obtain⟨c0,c1,_,_⟩:=h.box.two;obtain⟨q,E⟩:∃q:Nat,i / 64=(q:Int):=⟨_,o_⟩;obtain⟨r,v⟩:∃r:Nat,i % 64=(r:Int):=⟨_,o_⟩;have f:q<4:=o_;obtain⟨x,hx,c2,n,s⟩:=h.word f;have B:=h.words.free q;have A:0<=(q:Int):=o_;have u:(q:Int)<4:=o_;have m:Kp (∀y:Int,0<=y/\y<18446744073709551616->(∃b,eM (w.setCell (M _ q) _) _ _ b)/\aq (·=gw) w (w.setCell (M _ q) (.int .u64 y))):=(λy p=>by
  refine⟨⟨c.set q y,⟨h.box.aJ (λe=>h.ne e) _,?_,by rw[length_set];exact h.len,λz d=> ?_,h.ne⟩⟩,.set _ _ _ rfl⟩
  .have:=h.words.set q (.int .u64 y);rw[show(c.map (Value.int _)).toArray.setIfInBounds q _=((c.set q y).map (.int .u64)).toArray by simp]at this;omega
  .obtain d|rfl:=mem_or_eq_of_mem_set d
   .exact h.fits z d
   . omega)
 clear h hi;go_in;go_wp2;go_region
 all_goals
  go_wp2;go_end0;obtain⟨⟨b,h1⟩,h2⟩:=m (bits .xor _ x (IntKind.u64.wrap (2 ^ r))) (Gx _ _ _);exact⟨rfl,⟨b,h1.1,h1.2,h1.3,h1.4,h1.5⟩,h2.drew⟩
def QQ:∀(args:AV)(w:World),(callFunc 165 args).run prog w = .ok (.enter 165 args) w:=by
 simp
def Ps{w:World}{gr gw:Nat}{A:OA}{c:Nat}{l:LN}(h:eM w gr gw mu)(E:Row w w.heap.size A (an l))(d:∀k,cE A (an l) k->k≠gw)(C:zx l)(Z:l.length<=249) :
 Calls prog 86 #[Y gr 0,U A l.length c] w λe w'=>e = .returned (I 0)/\(∃f,eM w' gr gw f)/\aq (·=gw) w w':=by
 have u:=J (Ot (c:=c) h E C Z);have D:=QQ;obtain⟨W,O,G,H⟩:=j4_ h E C d;generalize L:l.length=n at*;have T:=J L;clear h E C L d;go_in;go_wp2_with fail;apply u.mono;rintro e u⟨rfl,y⟩;have x:=J y;clear y;go_wp2;go_loopw [18] (λp wr=>∃k:Nat,k<=n/\p = N k/\(∃f,eM wr gr gw f)/\aq (·=gw) w wr) (λp wr=>n-(intOf p).toNat)
 case atStart=>exact⟨0,o_,rfl,⟨_,W.under x⟩,.below x⟩
 .obtain⟨k,hk,rfl,⟨X,r⟩,ht⟩:=hrel;have D:=J ht;have q:=J r;clear ht r;by_cases B:k<n
  .have g:k<l.length:=by rw[T];omega
   have s:=fO O (λj M=>D.block j (Row.bU O M) (H j M));obtain⟨b,off,rfl,V,x0⟩:=Row.at_ s (by unfold an;rw[lM];exact g);have hx:(an l)[k]'(by unfold an;rw[lM];exact g) = I (l[k]:Nat):=by unfold an;rw[getElem_map]
   rw[hx]at x0;have R:=J (QP q (G.lt _ (gM g)));clear hx s V;generalize l[k]=z at*;clear g;go_wp2_with fail;apply R.mono;rintro e w'⟨rfl,m,u⟩;have v:=J m;have G:=J u;clear m u;go_wp2;exact⟨⟨k+1,o_,o_,v,D.trans G⟩,o_⟩
  .obtain rfl:k=n:=o_;have F:Kp (∃f,eM _ _ _ f):=⟨X,q⟩;go_wp2;go_ret;trivial
end Tc
namespace Tc
open List Go.RowKit Base Go.Proofs.Tryz
def On(A:OA)(l:List Pq)(c:Nat)(w:World)(h:jt w w.heap.size A l):Calls prog 6 #[.agg #[U A l.length c]] w (cy (λ_=>True) w):=by
 have HR:=J (λr w' hb=>cy.mono (P:=λ_=>True) (w:=w) (r:=r) (w':=w') trivial hb);have hb0:=(ah w.heap.size w).alloc (ae _) (.cells #[U A l.length c] 29);have HB0:=J (aa.new w 29 #[U A l.length c]);have Hb0:=J hb0;have H:=J (λW(hW:E w W)=>(h.below hW).more hW.size);have hn:=h.n;unfold maxLen at hn;generalize cy (λ_=>True) w=Q at*;clear h hb0;obtain⟨n,hN⟩:=e_ l.length
 rw[hN]at hn HB0 Hb0⊢;have HN:=J hN;clear hN;go_in;go_wp2_with fail;generalize w.alloc (.cells #[U A n c] 29)=W0 at*
 go_loopw [3,4] (λv3 v4 wr=>∃(k:Nat)(x:Int),k<=n/\k<=21/\v3 = I x/\v4 = N k/\E W0 wr) (λ_ v4 _=>n-(intOf v4).toNat)
 case atStart=>exact⟨0,0,av _,o_,rfl,rfl,ah _ _⟩
 .obtain⟨k,x,hk,hk2,rfl,rfl,hbe⟩:=hrel;obtain⟨wo,rfl⟩:∃wo,wo=wr:=⟨wr,rfl⟩
  have Hbe:=J hbe;have Hw:=ay Hb0 hbe;obtain⟨b0,_⟩:=(HB0.under hbe).one;clear hbe;by_cases hgo:k<n/\k<=20
  .obtain⟨hlt,h20⟩:=hgo;have hkl:k<l.length:=by rw[HN.o];exact hlt
   have Hpc:=J (λW(hW:E w W)=>(H W hW).pick k hkl);have Hp:=J (λW(hW:E w W)=>(H W hW).each _ (gM hkl));have hp:=(H wo Hw).each _ (gM hkl);have hp1:=hp.lo;have hp2:=hp.hi;have hp3:=hp.n;unfold maxLen at hp1 hp2 hp3;generalize(l[k]'hkl)=p at*;obtain⟨m,hm⟩:=e_ p.set.length
   rw[hm]at Hpc hp3;have Hm:=J hm;have k0:(0:Int)<=(k:Int):=o_
   have k1:(k:Int)<(n:Int):=o_
   have k2:(k:Int)<=20:=o_
   have k3:decide ((k:Int)<=20)=true:=decide_eq_true k2;have k4:decide (k<=20)=true:=decide_eq_true h20;obtain⟨b,off,rfl,_,_,_,c2,c3,c4,_⟩:=Hpc wo Hw;clear hp hm hkl;go_upto_region 5 with fail
   apply wp_region_noPanic;refine br (t:=99) (S:=(λw'=>C w' w.heap.size 0 (U (some ⟨b,off,none⟩) n c)/\C w' b (off+k*7+2) (T p.lo)/\C w' b (off+k*7+3) (T p.hi))) k_ ⟨b0,c2,c3⟩ (λhHeld=> ?_);apply tD 0 1 2 3 hHeld;apply tD 4 5 6 7 hHeld;apply tD 8 9 10 11 hHeld;apply tD 12 13 14 15 hHeld;apply tD 16 17 18 19 hHeld;refine bQ k_ ?_ _
   try clear hHeld
   apply NoPanic.normal;have Hd:Kp (E W0 wo.drew):=Hbe.drew;clear b0 c2 c3 c4;go_wp2_with fail
   go_loopw [3,5] (λv3 v5 wx=>∃(q:Nat)(y:Int),q<=m/\q<=251/\v3 = I y/\v5 = N q/\E W0 wx) (λ_ v5 _=>m-(intOf v5).toNat)
   case atStart=>exact⟨0,_,av _,o_,rfl,rfl,Hd⟩
   .obtain⟨q,y,hq,hq2,rfl,rfl,hbx⟩:=hrel;have Hbx:=J hbx;have Hwx:=ay Hb0 hbx;obtain⟨b0,_⟩:=(HB0.under hbx).one;clear hbx;obtain⟨b',off',e',_,_,_,_,_,c4,_⟩:=Hpc wr Hwx;injection e' with e'
    injection e' with e1 e2 _
    subst e1 e2;by_cases hqd:q<m/\q<=250
    .obtain⟨hq3,hq4⟩:=hqd;have hqs:q<p.set.length:=by rw[Hm.o];exact hq3
     obtain⟨bs,os,hA',_,t0⟩:=Row.at_ (Hp wr Hwx).set (k:=q) (by rw[lM];exact hqs);rw[getElem_map]at t0;have hzz:=(Hp wr Hwx).sz _ (gM hqs);unfold maxLen at hzz;rw[hA']at c4;generalize(p.set[q]'hqs)=z at*;have q0:(0:Int)<=(q:Int):=o_
     have q1:(q:Int)<(m:Int):=o_
     have q2:(q:Int)<=250:=o_
     have q3:decide ((q:Int)<=250)=true:=decide_eq_true q2;have q4:decide (q<=250)=true:=decide_eq_true hq4;clear hA' hqs;go_wp2_with fail
     all_goals
      refine⟨?_,by simp[intOf];omega⟩;exact⟨q+1,_,o_,o_,rfl,by go_num,Hbx⟩
    .have q2:¬((q:Int)<(m:Int)/\(q:Int)<=250):=o_
     by_cases hm2:250<m
     .have q3:(250:Int)<(m:Int):=o_
      have Hf:=J (HR false wr Hwx);go_wp2_with fail
      all_goals first
       |(exfalso;omega)
       |exact Hf
     .have q3:¬(250:Int)<(m:Int):=o_
      go_wp2_with fail
      all_goals first
       |(exfalso;omega)
       |exact⟨⟨k+1,y,o_,o_,rfl,by go_num,Hbx⟩,by simp[intOf];omega⟩
  .have q2:¬((k:Int)<(n:Int)/\(k:Int)<=20):=o_
   go_wp2_with fail
   all_goals first
    |(exfalso;omega)
    |exact HR _ _ Hw
def Gq s A rows c af most w(h:cQ w w.heap.size s)(H:fT w w.heap.size A rows)(hd:af<=1000000)(hm:most<=1000000) :
 Calls prog 5 #[.agg (aG s),U A rows.length c,N af,N most] w (cy (λr=>r=true->iC s rows/\s.af.length<=af/\rows.length<=most) w):=by
 have q:=J (λr w' h u=>cy.mono (P:=λr=>r=true->iC s rows/\s.af.length<=af/\rows.length<=most) (w:=w) (r:=r) (w':=w') h u);have x:=h.n;have v:=H.n;have y:=(ah _ w).alloc (ae _) (.cells (aG s) 25);have G:=J (aa.new w 25 (aG s));have D:=J (λW(d:E w W)=>Oh s W ((h.below d).more d.size));have V:=J (λW(d:E w W)=>Ol A _ c W ((H.below d).more d.size));have M:=J (λW(d:E w W)=>Om s A _ c W ((h.below d).more d.size) ((H.below d).more d.size));have b:=J y;generalize cy (λr=>r=true->iC s _/\s.af.length<=af/\rows.length<=most) w=Q at*;unfold maxLen at x v;clear h H y;obtain⟨nd,u⟩:=e_ s.af.length;obtain⟨nr,z⟩:=e_ rows.length;unfold aG at G D M b⊢;rw[u]at G D M b x q⊢;rw[z]at V M v q⊢;clear u z;obtain⟨L,I,_,_⟩:=G.two;generalize O:w.alloc _=u at*;by_cases h1:nd<=af
 .have T:nd<=(af:Int):=o_;by_cases h2:nr<=most
  .have R:nr<=(most:Int):=o_;have Z:=J (D u b);go_in;go_wp2_with fail;apply Z.mono;clear O L I;rintro e y⟨z,rfl,_,F⟩;have p:=ay b F;have D:=bu G F;have G:=J (V y p);cases z with
   |false=>
    have g:=J (q false y (λh=>r_) p);go_wp2;exact g
   |true=>
    go_wp2_with fail;apply G.mono;rintro e y⟨z,rfl,_,C⟩;have f:=ay p C;have G:=bu D C;have V:=J (M y f);obtain⟨L,I,_,_⟩:=G.two;cases z with
    |false=>
     have g:=J (q false y (λh=>r_) f);go_wp2;exact g
    |true=>
     go_wp2_with fail;apply V.mono;rintro e D⟨z,rfl,B,X⟩;obtain⟨y,m⟩:=e_ ((z == 0));have g:=J (q y D (λh=>⟨B r_,h1,h2⟩) (f.trans (X.mono f.size)));clear B;go_wp2;exact g
  .have R:¬ nr<=(most:Int):=o_;have g:=J (q false u (λh=>r_) b);go_in;go_wp2;exact g
 .have T:¬ nd<=(af:Int):=o_;have g:=J (q false u (λh=>r_) b);go_in;go_wp2;exact g
end Tc
end Go.Proofs.YtibjlpkpljnicaaGreatDoor
