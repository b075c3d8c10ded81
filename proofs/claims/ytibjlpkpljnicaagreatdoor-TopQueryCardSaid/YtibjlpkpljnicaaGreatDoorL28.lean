/- Parts of a proof. -/
import Derived.Test.YtibjlpkpljnicaaGreatDoorL27
set_option maxRecDepth 100000
set_option maxHeartbeats 8000000
set_option linter.all false
namespace Go.Proofs.YtibjlpkpljnicaaGreatDoor
namespace Tc
open List Go.RowKit Base Go.Proofs.Tryz
def dB.rY{w B d}(h:dB w B d) k(hk:k<d.ai.length) :
 ∃b off,d.A=some ⟨b,off,none⟩/\C w b (off+k*3) (T d.ai[k].name)/\C w b (off+k*3+1) (U d.ai[k].At d.ai[k].ar.length d.ai[k].ct)/\C w b (off+k*3+2) (U d.ai[k].Au d.ai[k].up.length d.ai[k].cu):=by
 obtain⟨b,off,e,f,c⟩:=Row.rec yW h.row o_ k hk;exact⟨b,_,e,c 0 _ rfl,c 1 _ rfl,c 2 _ rfl⟩
def FW d p w(hd:dB w w.heap.size d)(ho:da d)(hp:jO w w.heap.size p)(hk:gz d p):Calls prog 181 #[.agg (aU d),.agg (cT p)] w (mO w):=by
 have R:=(ah _ w).alloc (ae _) (.cells (aU d) 70);have y:=J (aa.new w 70 (aU d));obtain⟨I,V⟩:=e_ (w.alloc (.cells (aU d) 70));rw[V]at R y;have D:=R.alloc R.size (.cells (cT p) 58);have z:=J (aa.new I 58 (cT p));have M:=J (y.alloc (.cells (cT p) 58));obtain⟨u,O⟩:=e_ (I.alloc (.cells (cT p) 58));rw[O]at D z M;have a0:=J D;have a8:Kp (p.f=0->∀W,Calls _ _ _ W _):=(λh0 W=>by
  obtain⟨h1,h2⟩|⟨h1,_⟩|⟨h1,_⟩:=hk.kind
  .exact FX p W h2 (hk.lo.2 o_) (hk.hi.2 o_) (hk.free h1)
  .omega
  .omega)
 have b0:Kp (p.f=1->∀W,Calls _ _ _ W _):=(λh0 W=>by
  obtain⟨h1,h2⟩|⟨h1,h2⟩|⟨h1,_⟩:=hk.kind
  .omega
  .exact Gn p W hk.lo.1 hk.hi.1 h2
  .omega)
 have s:=hk.t;have b3:Kp (p.f=2->∀W,E w W->Calls _ _ _ W _):=(λh0 W v=>by
  obtain⟨h1,h2⟩|⟨h1,h2⟩|⟨h1,h2,L⟩:=hk.kind
  .omega
  .omega
  .have G:=ho.ai _ s;have u:=hd.ai _ (gM s);refine FO _ p W (hk.lo.2 o_) (hk.hi.2 o_) h2 (λx hx=> ?_) G.row (by have:=G.n2;omega) ⟨u.name,(u.ar.below v).more v.size,(u.up.below v).more v.size,u.nt,u.nu,u.sz⟩ ((hp.below v).more v.size);obtain⟨i,hi⟩:=L x hx;unfold bE at hi;grind)
 have L:=J (λW=>pO d _ W hd.n s);have c3:=J (λW(v:E w W)=>((show dB W _ d from⟨hd.name,hd.n,(hd.row.below v).more v.size,λt ht=>by
  have u:=hd.ai t ht;exact⟨u.name,(u.ar.below v).more v.size,(u.up.below v).more v.size,u.nt,u.nu,u.sz⟩⟩).rY _ s))
 have E:p.f=0\/p.f=1\/p.f=2:=by rcases hk.kind with⟨h,_⟩|⟨h,_⟩|⟨h,_⟩<;>omega
 have c9:=ho.n2;generalize(d.ai[p.t]'s)=Z at*;clear hd ho hp hk R D;obtain⟨f,t,lo,hi,A,set,c,g,b⟩:=p;dsimp only[cT,aU]at*;obtain⟨nd,G⟩:=e_ d.ai.length;obtain⟨ns,D⟩:=e_ set.length;rw[G]at y M V L c9 s⊢;rw[D]at z O a8 b0 b3⊢;clear D G;obtain⟨B,p1,p2,G,D,H,F⟩:=aa.seven z;obtain⟨e0,Y,_,_⟩:=M.two;have y:=J E;clear E;obtain X|X|X:=y
 .have V:=J (a8 X);have f0:((f:Int) == 0)=true:=o_;clear X;go_in;go_wp2_with fail;apply(V _).mono;rintro e E⟨rfl,q⟩;have y:=ay a0 q;clear q B p1 p2 G D H F e0 Y;go_wp2;go_ret;trivial
 .have V:=J (b0 X);have f0:((f:Int) == 0)=false:=o_;have f1:((f:Int) == 1)=true:=o_;clear X;go_in;go_wp2_with fail;apply(L _).mono;rintro e E⟨rfl,q⟩;have O:=bu z q;have y:=ay a0 q;clear q B p1 p2 G D H F e0 Y;obtain⟨B,p1,p2,G,D,H,F⟩:=aa.seven O;go_wp2_with fail;apply(V _).mono;rintro e w4⟨rfl,a5⟩;have c6:=ay y a5;clear a5 B p1 p2 G D H F;go_wp2;go_ret;trivial
 .have V:=J (b3 X);have f0:((f:Int) == 0)=false:=o_;have f1:((f:Int) == 1)=false:=o_;have f2:((f:Int) == 2)=true:=o_;clear X;go_in;go_wp2_with fail;apply(L _).mono;rintro e E⟨rfl,q⟩;have O:=bu z q;have L:=bu M q;have y:=ay a0 q;clear q B p1 p2 G D H F e0 Y;obtain⟨B,p1,p2,G,D,H,F⟩:=aa.seven O;go_upto_region 13 with fail;have z:Kp (aa _ _ _ _):=O.under bR.drew;have M:Kp (aa _ _ _ _):=L.under bR.drew;have L:=J y.drew;clear B p1 p2 G D H F;obtain⟨B,p1,p2,G,D,H,F⟩:=aa.seven z;obtain⟨e0,Y,_,_⟩:=M.two;obtain⟨y,z,u,c0,c1,c2⟩:=c3 _ L;rw[u]at Y;dsimp only[cY]at V;obtain⟨nt,M⟩:=e_ Z.ar.length;obtain⟨nu,u⟩:=e_ Z.up.length;rw[M]at c1 V;rw[u]at c2 V;have u:0<=(t:Int):=o_;have t1:t<(nd:Int):=o_;apply wp_region_noPanic;refine br (t:=8) (S:=(λw'=>C w' _ 1 _/\C w' y _ _/\C w' y _ _/\C w' y _ _/\C w' _ 0 (N f)/\C w' _ 1 (N t)/\C w' _ 2 _/\C w' _ 3 _/\C w' _ 4 _/\C w' _ 5 _/\C w' _ 6 (N b))) k_ ⟨Y,c0,c1,c2,B,p1,p2,G,D,H,F⟩ (λr=> ?_);generalize E.drew=wd at*;apply tD 0 1 2 3 r;apply eR 4 5 6 r;refine oT 7 (λK hK=> ?_);go_simp;apply(V _ L).mono;rintro e u⟨rfl,u⟩;have m:=J u;clear u;try go_simp
  refine oK hK ?_ (λr=> ?_)
  .exact⟨al m Y,al m c0,al m c1,al m c2,al m B,al m p1,al m p2,al m G,al m D,al m H,al m F⟩
  clear hK K r;refine fC k_ (by first|exact g_|rfl) k_ (λK hK=> ?_);go_simp;apply hK.out _ _;clear hK K r;apply NoPanic.normal
  have u:=J (L.trans (m.mono L.size));clear B p1 p2 G D H F Y c0 c1 c2;go_wp2;go_ret;trivial
def oG(p:Pk):LV:=[I p.f,I p.t,T p.lo,T p.hi,U p.A p.set.length p.c,.bool p.g,I p.bG]
def Nq(p:Pk):(oG p).length=7:=rfl
structure fH(w:World)(B:Nat)(A:OA)(l:List Pk):Prop where
 row:Row w B A (l.flatMap oG)
 each:∀p∈l,jO w B p
def fH.below{w w':World}{B:Nat}{A:OA}{l:List Pk}(h:fH w B A l)(b:Below B w w'):fH w' B A l:=⟨h.row.below b,λp c=>(h.each p c).below b⟩
def fH.more{w:World}{B b:Nat}{A:OA}{l:List Pk}(h:fH w B A l)(c:B<=b):fH w b A l:=⟨h.row.more c,λp d=>(h.each p d).more c⟩
def fH.pick{w:World}{B:Nat}{A:OA}{l:List Pk}(h:fH w B A l)(k:Nat)(hk:k<l.length) :
 ∃b off,A=some ⟨b,off,none⟩/\b<B/\C w b (off+k*7) (I (l[k].f:Nat))/\C w b (off+k*7+1) (I (l[k].t:Nat))/\C w b (off+k*7+2) (T l[k].lo)/\C w b (off+k*7+3) (T l[k].hi)/\C w b (off+k*7+4) (U l[k].A l[k].set.length l[k].c)/\C w b (off+k*7+5) (.bool l[k].g)/\C w b (off+k*7+6) (I (l[k].bG:Nat)):=by
 obtain⟨b,off,e,m,d⟩:=Row.rec Nq h.row o_ k hk;exact⟨b,_,e,m,d 0 _ rfl,d 1 _ rfl,d 2 _ rfl,d 3 _ rfl,d 4 _ rfl,d 5 _ rfl,d 6 _ rfl⟩
structure iT(s:aN)(qs:List Pk):Prop where
 len:qs.length=s.af.length
 ok:∀(i:Nat) d p,s.af[i]? = some d->qs[i]? = some p->gz d p
def DH(s:aN)(D:List Pk)(A:OA)(cq:Nat)(w:World)(hs:cQ w w.heap.size s)(ho:cJ s)(hq:fH w w.heap.size A D)(hk:iT s D):Calls prog 103 #[.agg (aG s),.agg #[U A D.length cq]] w (mO w):=by
 have Y:=(ah _ w).alloc (ae _) (.cells (aG s) 25);have b0:=J (aa.new w 25 (aG s));obtain⟨w1,a4⟩:=e_ (w.alloc (.cells (aG s) 25))
 rw[a4]at Y b0;have b4:=Y.alloc Y.size (.cells #[U A D.length cq] 29);have L:=J (aa.new w1 29 #[U A D.length cq]);have V:=J (b0.alloc (.cells #[U A D.length cq] 29));obtain⟨w2,b2⟩:=e_ (w1.alloc (.cells #[.slice A D.length cq] 29))
 rw[b2]at b4 L V;have c9:=J b4;have b1:Kp (∀W,E w W->cQ W _ s):=λW v=>(hs.below v).more v.size;have c7:Kp (∀W,E w W->fH W _ A D):=λW v=>(hq.below v).more v.size;have HC:=J (λW v=>yL s W (b1 W v) ho);have Hk:=J hk
 have HF:=J (λW v i d p h1 h2=>FW d p W ((b1 W v).af d (mem_of_getElem? h1)) (by
  have h3:=aO h1;have h4:=ho.af i h3.1;grind) ((c7 W v).each p (mem_of_getElem? h2)) (hk.ok i d p h1 h2))
 have f0:=J (λW i d p h1 h2=>pO d _ W ((hs.af d (mem_of_getElem? h1)).n) (hk.ok i d p h1 h2).bG);have HR:Kp (∀W,E w W->mO w _ W):=λW v=>⟨rfl,v⟩;have e0:=ho.n2;have a0:=hk.len;obtain⟨n,hN⟩:=e_ D.length
 have a3:s.af.length=n:=o_
 have f1:=J a3;have HN:=J hN;unfold aG at*;rw[a3]at b0 V a4 HC e0⊢;rw[hN]at L b2⊢;generalize hQ:mO w=Q at*;clear hs ho hq hk Y b4 hN a3 a0 hQ;have i6:(n != (n:Int))=false:=s_
 obtain⟨s0,s1,_,_⟩:=V.two;obtain⟨q0,_⟩:=L.one;go_in;go_wp2_with fail;apply(HC _ c9).mono;rintro e w3⟨r,rfl,rfl,R⟩;have b3:=bu V R;have f8:=bu L R;have z:=ay c9 R;clear R a4 b2 s0 s1 q0;obtain⟨s0,s1,_,_⟩:=b3.two;obtain⟨q0,_⟩:=f8.one;go_wp2;clear s0 s1 q0
 go_loopw [24] (λa9 wr=>∃(k:Nat),k<=n/\a9 = N k/\E w3 wr) (λa9 _=>n-(intOf a9).toNat)
 case atStart=>exact⟨0,o_,rfl,bR⟩
 .obtain⟨i,hi,rfl,v⟩:=hrel;obtain⟨wo,rfl⟩:∃wo,wo=wr:=⟨_,rfl⟩
  have Hb:=J v;have Hw:=ay z v;clear v;by_cases d2:i<n
  .have a8:i<D.length:=by rw[HN];omega
   have y:i<s.af.length:=by rw[f1];omega
   have Hd?:= J (gE y);have Hp?:= J (gE a8);obtain⟨bq,oq,rfl,k3,c0,c1,c2,c3,c4,c5,c6⟩:=(c7 _ Hw).pick i a8;have e1:=Hk.ok i _ _ Hd?.out Hp?.out;have d9:=J e1.off;have a7:=J (λW v=>HF W v i _ _ Hd?.out Hp?.out);have e2:=J (λW=>f0 W i _ _ Hd?.out Hp?.out)
   have a5:Kp (∀W,E w W->∃b off,s.A=some _/\C W b (off+i*2) _/\C W b _ _):=(λW v=>by
    obtain⟨b,off,e,_,hc⟩:=Row.rec mT (b1 W v).row o_ i y
    exact⟨b,_,e,hc 0 _ rfl,hc 1 _ rfl⟩)
   clear e1 Hd? Hp?;generalize(s.af[i]'y)=d at*;generalize(D[i]'a8)=p at*;obtain⟨f,t,lo,H,pA,set,pc,g,x⟩:=p;dsimp only[cT,aU]at*;obtain⟨ns,d3⟩:=e_ set.length
   obtain⟨nd,b8⟩:=e_ d.ai.length
   rw[d3]at c4 a7;rw[b8]at a5 a7 e2;clear d3 b8;have f4:=J (aa.new wo 58 #[N f,N t,T lo,T H,U pA ns pc,.bool g,N x]);have f3:=J (Hb.alloc Hb.size (.cells #[N f,N t,T lo,T H,U pA ns pc,.bool g,N x] 58));have k0:0<=(i:Int):=o_
   have k1:i<(n:Int):=o_
   go_upto_region 9 with fail
   generalize wo.alloc _=w4 at*;generalize wo.heap.size=F at*;clear c0 c1 c2 c3 c4 c5 c6;have d6:Kp (aa _ F _ _):=f4.under bR.drew;have O:=J f3.drew;have b9:=J (z.trans (O.mono z.size));obtain⟨p0,p1,p2,p3,p4,M,X⟩:=aa.seven d6;obtain⟨s0,s1,_,_⟩:=(b3.under O).two;obtain⟨bd,od,eD,Z,d1⟩:=a5 _ b9;rw[eD]at s0;clear eD;apply wp_region_noPanic;refine br (t:=7) (S:=(λw'=>C w' _ 0 _/\C w' _ _ _/\C w' _ _ _/\C w' F 0 _/\C w' F 1 _/\C w' F 2 _/\C w' F 3 _/\C w' F 4 _/\C w' F 5 _/\C w' F 6 _)) k_ ⟨s0,Z,d1,p0,p1,p2,p3,p4,M,X⟩ (λm=> ?_);generalize w4.drew=wd at*;apply tD 0 1 2 3 m;apply tB 4 5 m;refine oT 6 (λK hK=> ?_)
   go_simp
   apply(a7 _ b9).mono;rintro e w5⟨rfl,d7⟩;have u:=J d7;clear d7
   try go_simp
   refine oK hK ?_ (λq=> ?_)
   .exact⟨al u s0,al u Z,al u d1,al u p0,al u p1,al u p2,al u p3,al u p4,al u M,al u X⟩
   clear hK K m;have m:=q;clear q;refine fC k_ (by first|exact g_|rfl) k_ (λK hK=> ?_)
   go_simp
   apply hK.out _ _;clear hK K m;apply NoPanic.normal
   have g5:=J (d6.under u);have c8:=J (O.trans (u.mono O.size));clear p0 p1 p2 p3 p4 M X s0 s1 Z d1;go_upto_region 12 with fail
   have g6:Kp (aa _ F _ _):=g5.under bR.drew;have G:=J c8.drew;have g3:=J (z.trans (G.mono z.size));obtain⟨p0,p1,p2,p3,p4,M,X⟩:=aa.seven g6;obtain⟨s0,s1,_,_⟩:=(b3.under G).two;obtain⟨a6,a2,e3,Z,d1⟩:=a5 _ g3;rw[e3]at s0;clear e3;obtain _|_:=g
   .have f7:=d9 rfl
    have i5:((x:Int) != 0)=false:=o_
    clear f7;apply wp_region_noPanic;refine br (t:=99) (S:=(λw'=>C w' F 5 _/\C w' F 6 _)) k_ ⟨M,X⟩ (λm=> ?_);generalize w5.drew=w7 at*;apply eR 0 1 2 m;apply sk 3 m;apply sk 4 m;apply sk 5 m;apply sk 6 m;apply sk 7 m;apply sk 8 m;apply sk 9 m;apply sk 10 m;apply sk 11 m;apply tD 12 13 14 15 m;apply tD 16 17 18 19 m;apply eR 20 21 22 m;refine bQ k_ ?_ _
    try clear m
    apply NoPanic.normal;clear p0 p1 p2 p3 p4 M X s0 s1 Z d1;go_wp2;exact⟨⟨i+1,o_,o_,G⟩,o_⟩
   .apply wp_region_noPanic;refine br (t:=99) (S:=(λw'=>C w' _ 0 _/\C w' _ _ _/\C w' _ _ _/\C w' F 5 _/\C w' F 6 _)) k_ ⟨s0,Z,d1,M,X⟩ (λm=> ?_);generalize w5.drew=w7 at*;apply tD 0 1 2 3 m;apply tD 4 5 6 7 m;apply tB 8 9 m;refine oT 10 (λK hK=> ?_)
    go_simp
    apply(e2 _).mono;rintro e w8⟨rfl,d5⟩;have B:=J d5;clear d5
    try go_simp
    refine oK hK ?_ (λq=> ?_)
    .exact⟨al B s0,al B Z,al B d1,al B M,al B X⟩
    clear hK K m;have m:=q;clear q;apply tD 11 12 13 14 m;apply eR 15 16 17 m;apply sk 18 m;apply sk 19 m;apply sk 20 m;apply tB 21 22 m;refine bQ k_ ?_ _
    try clear m
    apply NoPanic.normal;have f5:=J (G.trans (B.mono G.size));clear p0 p1 p2 p3 p4 M X s0 s1 Z d1;go_wp2;exact⟨⟨i+1,o_,o_,f5⟩,o_⟩
  .obtain rfl:i=n:=o_
   have d8:=J (HR _ Hw);go_wp2;exact d8
def C9(a b:ByteArray):(Op.bytesLess a.toList b.toList||a.toList == b.toList) = !Op.bytesLess b.toList a.toList:=by
 rcases h:Op.bytesLess _ a.toList with _|_
 .rcases h2:(b.toList == a.toList)with _|_
  .rw[xI h h2];rfl
  grind
 .rcases h2:Op.bytesLess _ _ with _|_
  .grind
  .have:=ry h h2;rw[mZ]at this;cases this
def OO d p k w(hd:dB w w.heap.size d)(ho:da d)(hp:jO w w.heap.size p)(hk:gz d p)(O:p.f≠0->k<(bE d p.t).length):Calls prog 99 #[.agg (aU d),.agg (cT p),.int .i64 (k:Nat)] w (λe w'=>e = .returned (.bool (dY d p k))/\Below w.heap.size w w'):=by
 have q:=(ah _ w).alloc (ae _) (.cells (aU d) 70);have D:=kp (aa.new w 70 (aU d));obtain⟨u,z⟩:=e_ (w.alloc (.cells (aU d) 70));rw[z]at q D;have v:=q.alloc q.size (.cells (cT p) 58);have E:=kp (aa.new u 58 (cT p));have G:=kp (D.o.alloc (.cells (cT p) 58));obtain⟨y,T⟩:=e_ (u.alloc (.cells (cT p) 58));rw[T]at v E G;have s:=kp v;have m:=hk.t;have Z:bE d p.t=(d.ai[p.t]'m).ar:=by unfold bE;rw[gE m];rfl
 have C:=(hd.below v).more v.size;obtain⟨bt,ot,M,c0,c1,c2⟩:=C.rY _ m;rw[show(d.ai[p.t]'m).ar.length=(bE d _).length by rw[Z]]at c1;have H:=(C.ai _ (gM m)).ar;rw[<-Z]at H;have Y:=kp (λW hb x=>yE _ _ p.c x W (by have:=hp.n;unfold maxLen;omega) ((hp.set.below hb).more hb.size));have HQ:Kp (∀b W,b=dY d p k->Below w.heap.size w W->(λ(e:Ending) w'=>e = .returned (.bool (dY d p k))/\Below w.heap.size w w') (.returned (.bool b)) W):=(λb W h1 h2=>r_);have HV:Kp (dY d p k=if p.f=0 then true else if p.f=1 then !tK _ _ && !tK _ _ else p.set.any λx=>x.toList == (eI d _ k).toList):=rfl;have X:p.f=0\/p.f=1\/p.f=2:=by rcases hk.kind with⟨h,_⟩|⟨h,_⟩|⟨h,_⟩<;>omega
 have I:Kp (p.f≠0->∃J L:Nat,(d.ai[p.t]'m).At=some _/\k<(bE d _).length/\y.cell? _=some (.string (eI d _ k))):=(λh=>by
  have u:=O h;obtain⟨J,L,e,_,U⟩:=H.at_ (by rw[lM];exact u);refine⟨J,L,e,u,?_⟩;rw[U,getElem_map];unfold eI;rw[gE u];rfl)
 generalize(d.ai[p.t]'m)=U at*;generalize U:(λ(e:Ending) w'=>e = .returned _/\Below _ w _)=Q at*;generalize dY d p k=V at*;generalize eI d _ k=nm at*;clear hd ho hp hk q v Z C H U O;obtain⟨dn,U,U,V⟩:=d;dsimp only at M;subst M;obtain⟨f,t,lo,hi,A,set,c,g,b⟩:=p;dsimp only[cT,aU]at*;generalize bE _ t=ar at*;obtain⟨nd,M⟩:=e_ U.length;obtain⟨U,U⟩:=e_ set.length;obtain⟨nt,B⟩:=e_ ar.length;rw[M]at D G z m⊢;rw[U]at E T Y⊢;rw[B]at c1 I;clear U M B;have U:=aa.seven E;obtain⟨Z,M,_,_⟩:=G.o.two;have z:0<=(t:Int):=o_
 have t1:t<(nd:Int):=o_
 have z:=kp X;clear X;obtain F|F|F:=z.o
 .have E:((f:Int) == 0)=true:=o_
  have z:=kp (HQ _ y (by rw[HV,if_pos F]) s);clear F;go_in;go_wp2;exact z
 .have E:((f:Int) == 0)=false:=o_
  have f1:((f:Int) == 1)=true:=o_
  obtain⟨J,L,R,u,D⟩:=I o_;rw[R]at c1;have z:=kp (HQ ((Op.bytesLess _ _||lo.toList == nm.toList)&&(Op.bytesLess _ _||nm.toList == hi.toList)) y (by rw[HV,if_neg o_,if_pos F,C9,C9]) s);clear F R;have V:0<=(k:Int):=o_
  have G:k<(nt:Int):=o_
  rcases q:(Op.bytesLess lo.toList nm.toList||lo.toList == nm.toList)with _|_
  .rw[q,Bool.false_and]at z;go_in;go_wp2;exact z
  .rw[q,Bool.true_and]at z;go_in;go_wp2;exact z
 .have E:((f:Int) == 0)=false:=o_
  have f1:((f:Int) == 1)=false:=o_
  obtain⟨J,L,R,u,D⟩:=I o_;rw[R]at c1;have z:Kp (∀ r W,oO set nm r->Below _ w W->Q (.returned (.bool (decide (0<=r)))) W):=λr W h hb=>HQ _ W (by
   rw[HV,if_neg o_,if_neg o_,Bool.eq_iff_iff,any_eq_true,decide_eq_true_iff];constructor
   .intro h0;obtain⟨i,_,hi⟩:=h.1 h0;grind
   .rintro⟨y,u,e⟩;rw[wM e]at u;obtain⟨i,hi⟩:=getElem?_of_mem u;obtain h1|h1:=Int.lt_or_le r 0
    .exact absurd hi (h.2 h1 i)
    .omega) hb
  clear F R;have V:0<=(k:Int):=o_
  have G:k<(nt:Int):=o_
  go_in;go_wp2_with fail;apply(Y _ s _).mono;rintro e y⟨r,rfl,u,N⟩;have E:=kp (z r y u (s.o.trans (N.mono s.o.size)));clear u N U Z M D c0 c1 c2;go_wp2;exact E
def MV(fs:List Fa)(d:au)(a t k:Nat)(K:cL):aT fs (df d a t k K)=(aT fs K).filter λi=>bN d t (((jC fs i)[a]?).getD 0) == k:=by
 unfold aT df;rw[filter_filter];grind
def Dm(fs:List Fa)(d:au)(a t:Nat)(K:cL){ks:LN}(h:ks.Nodup):((ks.map λk=>(aT fs (df d a t k K)).length).sum)<=(aT fs K).length:=by
 have b:=(ym (λi=>bN d t (((jC fs i)[a]?).getD 0)) _ (aT fs K) h).length_eq;rw[length_flatMap]at b;have e:(ks.map λk=>((aT _ K).filter λi=>bN d t _ == k).length)=ks.map λk=>(aT fs (df d a t k K)).length:=map_congr_left λk _=>by rw[MV]
 grind
variable{s:aN}{fs:List Fa}{st:St}{m:Nat}
def rN(h:il m fs):∀(L:List (au×Pk))(a:Nat)(K:cL)(pre:LN),aT fs K≠[]->(bZ fs L a K pre).length<=(aT fs K).length
 | [],a,K,pre,hK=>by
  unfold bZ;obtain⟨g,c,_⟩:=rU h hK;rw[c];exact length_pos_iff.2 hK
 |(d,p)::L,a,K,pre,hK=>by
  rw[bZ];split
  .exact rN h L _ _ _ hK
  .rename_i t ht;have b:(bL d p t).Nodup:=by unfold bL;exact List.Nodup.sublist filter_sublist nodup_range
   refine aF ?_ (Dm _ d a t K b);rw[length_flatMap];generalize bL d p t=ks;induction ks with
   |nil=>exact ae _
   |cons k ks e=>
    rw[map_cons,map_cons,sum_cons,sum_cons];refine Nat.add_le_add ?_ e;split
    .simp
    .exact rN h L _ _ _ ‹_›
def lY(s:aN)(fs:List Fa)(st:St)(a:Nat)(K:cL)(c:Cl):Prop:=if a+1=s.af.length then bW K (aw fs)=some c.ag else st.parts[c.child]? = some (a+1,aT fs K)
def cell_of(h:il m fs){a k:Nat}{K:cL}{c:Cl}(hK:aT fs K≠[])(e:kq (aw fs) (decide (a+1=s.af.length)) st a k (aT fs K) c):lY s fs st a K c:=by
 have h2:=e.2;unfold lY;by_cases b:a+1=s.af.length
 .rw[if_pos b];rw[if_pos (decide_eq_true b)]at h2;obtain⟨g,d,_⟩:=rU h hK;rw[d,h2.2,Qk,d];rfl
 grind
structure vN(s:aN)(fs:List Fa)(st:St)(d:au)(a t:Nat)(K:cL)(l:List Cl):Prop where
 cell:∀c∈l,c.key<200/\aT fs (df d a t c.key K)≠[]/\lY s fs st a (df d a t c.key K) c
 has:∀k,k<200->aT fs (df d a t k K)≠[]->∃c∈l,c.key=k
 ja:l.Pairwise λx y=>x.key<y.key
def fR.OX(h:fR s fs st)(D:cJ s)(E:iE s fs)(G:il m fs){a i:Nat}{K:cL}(J:st.parts[i]? = some (a,aT fs K)){d:au}(hd:s.af[a]? = some d){t:Nat}(ht:t<d.ai.length) :
 ∃n l,st.nodes[i]? = some n/\n.aj=a/\n.lists[t]? = some l/\vN s fs st d a t K l:=by
 obtain⟨n,l,R,q,_,L,b⟩:=h.row J hd ht;rw[Bv D E hd]at b;have f:=ri (eH (aw fs) (iw d t) a) (aT fs K);rw[Bv D E hd]at f;have r:∀g∈(range 200).filterMap (λk=>if aT fs (df d a t k K)=[]then none else some (k,aT fs (df d a t k K))),g.1<200/\aT fs (df d a t g.1 K)≠[]/\g.2=aT fs (df d a t g.1 K):=λg f=>r_
 refine⟨n,l,R,q,L,λc F=> ?_,λk hk A=> ?_,?_⟩
 .obtain⟨j,v,rfl⟩:=getElem_of_mem F;obtain⟨g,f,p⟩:=dE.left b (gE v);obtain⟨B,z,M⟩:=r g (mem_of_getElem? f);have hk:=p.1
  rw[hk];refine⟨B,z,?_⟩
  rw[M]at p;exact cell_of G z p
 .have f:(k,aT _ _)∈(range _).filterMap (λk=>if aT _ (df d a t k K)=[]then none else some (k,aT fs (df d a t k K))):=mem_filterMap.2 ⟨k,mem_range.2 hk,if_neg A⟩;obtain⟨j,v,e⟩:=getElem_of_mem f;have u:j<l.length:=by rw[<-b.1];omega
  refine⟨_,gM u,?_⟩;have p:=b.2 j _ _ (gE v) (gE u);have hk:=p.1;grind
 .rw[pairwise_iff_getElem];intro x y hx I C;obtain⟨g1,B,N⟩:=dE.left b (gE hx);obtain⟨g2,z,H⟩:=dE.left b (gE I);obtain⟨T,V⟩:=aO B;obtain⟨U,O⟩:=aO z;have:=pairwise_iff_getElem.1 f x y T U C;rw[N.1,H.1,<-V,<-O];omega
def fR.wC(h:fR s fs st)(e:il m fs){a i:Nat}{K:cL}(f:st.parts[i]? = some (a,aT fs K)):∃n,st.nodes[i]? = some n/\n.aj=a/\lY s fs st a K n.all/\aT fs K≠[]:=by
 obtain⟨n,d,_,b,c⟩:=h.node f;exact⟨n,d,c.aj,cell_of e b.ne c.all,b.ne⟩
def tO a(h:gg a):iG ⟨#[a]⟩:=⟨(show 1<=1 by decide),(show 1<=12 by decide),λi hi=>by
 match i,hi with
 |0,_=>exact h⟩
def CA a b c(h:gg a)(h1:gg b)(h2:gg c):iG ⟨#[a,b,c]⟩:=⟨(show 1<=3 by decide),(show 3<=12 by decide),λi hi=>by
 match i,hi with
 |0,_=>exact h
 |1,_=>exact h1
 |2,_=>exact h2⟩
def rn a:ma ⟨#[a]⟩:=⟨(show 1<=1 by decide),(show 1<=16 by decide)⟩
def xH a b:Op.bytesLess (⟨#[a]⟩:ByteArray).toList (⟨#[b]⟩:ByteArray).toList=Op.bytesLess [a] [b]:=by
 simp
def DU a b(h:Op.bytesLess [a] [b]=true):eu [⟨#[a]⟩,⟨#[b]⟩]:=by
 refine⟨λs c=> ?_,λi hi=> ?_⟩
 .obtain rfl|c:=mem_cons.1 c
  .exact rn a
  .rw[mem_singleton.1 c];exact rn b
 .match i,hi with
  |0,_=>exact(xH a b).trans h
def OW a b c(h:Op.bytesLess [a] [b]=true)(h1:Op.bytesLess [b] [c]=true):eu [⟨#[a]⟩,⟨#[b]⟩,⟨#[c]⟩]:=by
 refine⟨λs d=> ?_,λi hi=> ?_⟩
 .obtain rfl|d:=mem_cons.1 d
  .exact rn a
  .obtain rfl|d:=mem_cons.1 d
   .exact rn b
   .rw[mem_singleton.1 d];exact rn c
 .match i,hi with
  |0,_=>exact(xH a b).trans h
  |1,_=>exact(xH b c).trans h1
def Ae{a b:ByteArray}(h:a.size≠b.size\/a.data[0]? ≠ b.data[0]?):a≠b:=r_
def EV t(h:t.up=[]):jQ t 0:=by
 refine⟨λ_=>h,λh0=>absurd h0 d_,d_,λn b=> ?_,λi hi=> ?_⟩
 .grind
 .omega
def qf B:cJ (ed B):=by
 refine⟨(show 1<=2 by decide),(show 2<=16 by decide),λk hk=> ?_,λi k hk hi=> ?_,(show 1<=1 by decide),(show 1<=3 by decide),λk hk=> ?_,λi k hk hi=> ?_⟩
 .match k,hk with
  |0,_=>
   refine⟨tO _ (by unfold gg;decide),(show 1<=1 by decide),(show 1<=4 by decide),λk hk=> ?_,λi k hk hi=> ?_⟩
   .match k,hk with
    |0,_=>exact⟨tO _ (by unfold gg;decide),(show 1<=2 by decide),(show 2<=200 by decide),DU _ _ d_,EV _ rfl⟩
   .match i,k,hk,hi with
    |i,0,_,hi=>omega
  |1,_=>
   refine⟨tO _ (by unfold gg;decide),(show 1<=2 by decide),(show 2<=4 by decide),λk hk=> ?_,λi k hk hi=> ?_⟩
   .match k,hk with
    |0,_=>
     refine⟨CA _ _ _ (by unfold gg;decide) (by unfold gg;decide) (by unfold gg;decide),(show 1<=3 by decide),(show 3<=200 by decide),OW _ _ _ d_ d_,?_⟩;show jQ _ (2:Int);refine⟨λh=>absurd h d_,λ_=>rfl,d_,λn hn=> ?_,λi hi=> ?_⟩
     .revert n
      show∀n∈([0,0,1]:List Int),0<=n/\n<2;decide
     .show(i:Int)∈([0,0,1]:List Int);grind
    |1,_=>exact⟨CA _ _ _ (by unfold gg;decide) (by unfold gg;decide) (by unfold gg;decide),(show 1<=2 by decide),(show 2<=200 by decide),DU _ _ d_,EV _ rfl⟩
   .match i,k,hk,hi with
    |0,1,_,_=>exact Ae (.inr (show(#[108,111,119])[0]? ≠ (#[116,111,112])[0]? by decide))
    |i,0,_,hi=>omega
    |i+1,1,_,hi=>omega
 .match i,k,hk,hi with
  |0,1,_,_=>exact Ae (.inr (show(#[100])[0]? ≠ (#[101])[0]? by decide))
  |i,0,_,hi=>omega
  |i+1,1,_,hi=>omega
 .match k,hk with
  |0,_=>exact tO _ (by unfold gg;decide)
 .match i,k,hk,hi with
  |i,0,_,hi=>omega
def lH(v:Int):Ag:=⟨1,v,v,v,0,0,0,0,0,0⟩
def ub:List (LN×Ag):=[([0,0],lH 3),([1,1],lH (-4)),([0,2],lH 5)]
def rL:List (LN×Ag):=[([0,0],lH 3),([0,2],lH 5),([1,1],lH (-4))]
def qe B{x y}{p q v:Nat}{r} i j(ht:r.ar=[⟨#[x]⟩,⟨#[y]⟩])(c:r.cj.length=1)(h1:([⟨#[97]⟩,⟨#[98]⟩]:List ByteArray)[i]? = some ⟨#[x]⟩)(h2:([⟨#[120]⟩,⟨#[121]⟩,⟨#[122]⟩]:List ByteArray)[j]? = some ⟨#[y]⟩):eE (ed B) r [i,j]:=by
 refine⟨rfl,by rw[ht];rfl,c,λa d t k hd b hk=> ?_⟩;rw[ht]at b;match a with
 |0=>injection hd with hd;injection b with b;injection hk with hk;subst hd b hk;exact h1
 |1=>injection hd with hd;injection b with b;injection hk with hk;subst hd b hk;exact h2
 |a+2=>cases hk
def Dq B:iC (ed B) (ka B):=by
 refine⟨qf B,(show 3<=300 by decide),λr b=> ?_⟩;obtain rfl|b:=mem_cons.1 b
 .exact⟨_,qe B (p:=0) (q:=0) (v:=0) 0 0 rfl rfl rfl rfl⟩
 .obtain rfl|b:=mem_cons.1 b
  .exact⟨_,qe B (p:=0) (q:=0) (v:=0) 1 1 rfl rfl rfl rfl⟩
  .obtain rfl|b:=mem_cons.1 b
   .exact⟨_,qe B (p:=0) (q:=0) (v:=0) 0 2 rfl rfl rfl rfl⟩
   .cases b
def ud B:jk (ed B) (ka B) ub:=by
 refine⟨[⟨none,_,0,lH 3⟩,⟨none,_,0,lH _⟩,⟨none,_,0,lH 5⟩],⟨rfl,λi r f b c=> ?_⟩,rfl⟩;match i with
 |0=>injection b with b;injection c with c;subst b c;exact⟨qe B (p:=0) (q:=0) (v:=0) 0 0 rfl rfl rfl rfl,rfl⟩
 |1=>injection b with b;injection c with c;subst b c;exact⟨qe B (p:=0) (q:=0) (v:=0) 1 1 rfl rfl rfl rfl,rfl⟩
 |2=>injection b with b;injection c with c;subst b c;exact⟨qe B (p:=0) (q:=0) (v:=0) 0 2 rfl rfl rfl rfl,rfl⟩
 |i+3=>cases b
def Nv:dT [] rL=some rL:=k_
def On(A:OA)(l:List Pq)(c:Nat)(w:World)(h:jt w w.heap.size A l):Calls prog 6 #[.agg #[U A l.length c]] w (cy (λ_=>True) w):=by
 have HR:=J (λr w' hb=>cy.mono (P:=λ_=>True) (w:=w) (r:=r) (w':=w') trivial hb);have hb0:=(ah w.heap.size w).alloc (ae _) (.cells #[U A l.length c] 29);have HB0:=J (aa.new w 29 #[U A l.length c]);have Hb0:=J hb0;have H:=J (λW(hW:E w W)=>(h.below hW).more hW.size);have hn:=h.n;unfold maxLen at hn;generalize cy (λ_=>True) w=Q at*;clear h hb0;obtain⟨n,hN⟩:=e_ l.length
 rw[hN]at hn HB0 Hb0⊢;have HN:=J hN;clear hN;go_in;go_wp2_with fail;generalize w.alloc (.cells #[U A n c] 29)=W0 at*
 go_loopw [3,4] (λv3 v4 wr=>∃(k:Nat)(x:Int),k<=n/\k<=21/\v3 = I x/\v4 = N k/\E W0 wr) (λ_ v4 _=>n-(intOf v4).toNat)
 case atStart=>exact⟨0,0,av _,o_,rfl,rfl,ah _ _⟩
 .obtain⟨k,x,hk,hk2,rfl,rfl,hbe⟩:=hrel;obtain⟨wo,rfl⟩:∃wo,wo=wr:=⟨wr,rfl⟩
  have Hbe:=J hbe;have Hw:=ay Hb0 hbe;obtain⟨b0,_⟩:=(HB0.under hbe).one;clear hbe;by_cases hgo:k<n/\k<=20
  .obtain⟨hlt,h20⟩:=hgo;have hkl:k<l.length:=by rw[HN.o];exact hlt
   have Hpc:=J (λW(hW:E w W)=>(H W hW).pick k hkl);have Hp:=J (λW(hW:E w W)=>(H W hW).each _ (gM hkl));have hp:=(H wo Hw).each _ (gM hkl);have hp1:=hp.lo;have hp2:=hp.hi;have hp3:=hp.n;unfold maxLen at hp1 hp2 hp3;generalize(l[k]'hkl)=p at*;obtain⟨m,hm⟩:=e_ p.set.length
   rw[hm]at Hpc hp3;have Hm:=J hm;have k0:(0:Int)<=(k:Int):=o_
   have k1:(k:Int)<(n:Int):=o_
   have k2:(k:Int)<=20:=o_
   have k3:decide ((k:Int)<=20)=true:=decide_eq_true k2;have k4:decide (k<=20)=true:=decide_eq_true h20;obtain⟨b,off,rfl,_,_,_,c2,c3,c4,_⟩:=Hpc wo Hw;clear hp hm hkl;go_upto_region 5 with fail
   apply wp_region_noPanic;refine br (t:=99) (S:=(λw'=>C w' w.heap.size 0 (U (some ⟨b,off,none⟩) n c)/\C w' b (off+k*7+2) (T p.lo)/\C w' b (off+k*7+3) (T p.hi))) k_ ⟨b0,c2,c3⟩ (λhHeld=> ?_);apply tD 0 1 2 3 hHeld;apply tD 4 5 6 7 hHeld;apply tD 8 9 10 11 hHeld;apply tD 12 13 14 15 hHeld;apply tD 16 17 18 19 hHeld;refine bQ k_ ?_ _
   try clear hHeld
   apply NoPanic.normal;have Hd:Kp (E W0 wo.drew):=Hbe.drew;clear b0 c2 c3 c4;go_wp2_with fail
   go_loopw [3,5] (λv3 v5 wx=>∃(q:Nat)(y:Int),q<=m/\q<=251/\v3 = I y/\v5 = N q/\E W0 wx) (λ_ v5 _=>m-(intOf v5).toNat)
   case atStart=>exact⟨0,_,av _,o_,rfl,rfl,Hd⟩
   .obtain⟨q,y,hq,hq2,rfl,rfl,hbx⟩:=hrel;have Hbx:=J hbx;have Hwx:=ay Hb0 hbx;obtain⟨b0,_⟩:=(HB0.under hbx).one;clear hbx;obtain⟨b',off',e',_,_,_,_,_,c4,_⟩:=Hpc wr Hwx;injection e' with e'
    injection e' with e1 e2 _
    subst e1 e2;by_cases hqd:q<m/\q<=250
    .obtain⟨hq3,hq4⟩:=hqd;have hqs:q<p.set.length:=by rw[Hm.o];exact hq3
     obtain⟨bs,os,hA',_,t0⟩:=Row.at_ (Hp wr Hwx).set (k:=q) (by rw[lM];exact hqs);rw[getElem_map]at t0;have hzz:=(Hp wr Hwx).sz _ (gM hqs);unfold maxLen at hzz;rw[hA']at c4;generalize(p.set[q]'hqs)=z at*;have q0:(0:Int)<=(q:Int):=o_
     have q1:(q:Int)<(m:Int):=o_
     have q2:(q:Int)<=250:=o_
     have q3:decide ((q:Int)<=250)=true:=decide_eq_true q2;have q4:decide (q<=250)=true:=decide_eq_true hq4;clear hA' hqs;go_wp2_with fail
     all_goals
      refine⟨?_,by simp[intOf];omega⟩;exact⟨q+1,_,o_,o_,rfl,by go_num,Hbx⟩
    .have q2:¬((q:Int)<(m:Int)/\(q:Int)<=250):=o_
     by_cases hm2:250<m
     .have q3:(250:Int)<(m:Int):=o_
      have Hf:=J (HR false wr Hwx);go_wp2_with fail
      all_goals first
       |(exfalso;omega)
       |exact Hf
     .have q3:¬(250:Int)<(m:Int):=o_
      go_wp2_with fail
      all_goals first
       |(exfalso;omega)
       |exact⟨⟨k+1,y,o_,o_,rfl,by go_num,Hbx⟩,by simp[intOf];omega⟩
  .have q2:¬((k:Int)<(n:Int)/\(k:Int)<=20):=o_
   go_wp2_with fail
   all_goals first
    |(exfalso;omega)
    |exact HR _ _ Hw
end Tc
end Go.Proofs.YtibjlpkpljnicaaGreatDoor
