/- Parts. -/
import Derived.Test.YtibjlpkpljnicaaGreatDoorR27
set_option maxRecDepth 100000
set_option maxHeartbeats 8000000
set_option linter.all false
namespace Go.Proofs.YtibjlpkpljnicaaGreatDoor
namespace Tc
open List Go.RowKit Base Go.Proofs.Tryz
def lZ(d:au)(p:Pq):Prop:=(p.f=0/\p.t=0/\p.lo = .empty/\p.hi = .empty/\p.set=[])\/(p.f=1/\0<=p.t/\p.t<(d.ai.length:Int)/\p.set=[]/\p.lo.size<=16/\p.hi.size<=16)\/(p.f=2/\0<=p.t/\p.t<(d.ai.length:Int)/\p.lo = .empty/\p.hi = .empty/\eu p.set/\∀x∈p.set,∃i:Nat,(bE d p.t.toNat)[i]? = some x)
def ta(x:ByteArray):x = .empty\/(x.toList == ([]:List UInt8))=false:=by
 obtain⟨⟨l⟩⟩:=x;cases l with
 |nil=>exact .inl rfl
 |cons a l=>exact .inr (by rw[show(ByteArray.mk ⟨a::l⟩).toList=a::l from ByteArray.toList_eq _];rfl)
def OF(d:au)(p:Pq)(w:World)(hd:dB w w.heap.size d)(hp:lC w w.heap.size p):Calls prog 27 #[.agg (aU d),.agg (nF p)] w (cM (λr=>r=0->lZ d p) w):=by
 have hb1:=(ah w.heap.size w).alloc (ae _) (.cells (aU d) 70);have HD1:=J (aa.new w 70 (aU d));obtain⟨w1,hw1⟩:=e_ (w.alloc (.cells (aU d) 70))
 rw[hw1]at hb1 HD1;have hb2:=hb1.alloc hb1.size (.cells (nF p) 58);have HP2:=J (aa.new w1 58 (nF p));have HD2:=J (HD1.alloc (.cells (nF p) 58));obtain⟨w2,hw2⟩:=e_ (w1.alloc (.cells (nF p) 58))
 rw[hw2]at hb2 HD2 HP2;have Hb2:=J hb2;have HR:=J (λr w'(h:r=0->lZ d p) hb=>cM.mono (P:=λr=>r=0->lZ d p) (w:=w) (r:=r) (w':=w') h hb);have HdA:Kp (∀W,E w W->dB W W.heap.size d):=λW hb=>(hd.below hb).more hb.size;have HsA:Kp (∀W,E w W->Row W W.heap.size p.A (p.set.map .string)):=λW hb=>(hp.set.below hb).more hb.size;have HRow:=J (λW(hb:E w W)=>E9 p.A p.set p.c W hp.n hp.sz (HsA W hb));have HAt:=J (λW(hb:E w W)(t:dU)(ht:t∈d.ai) x=>yE t.At t.ar t.ct x W ((HdA W hb).ai t ht).nt ((HdA W hb).ai t ht).ar);have H0:Kp (p.f=0->p.t=0->p.lo = .empty->p.hi = .empty->p.set=[]->lZ d p):=λh1 h2 h3 h4 h5=> .inl ⟨h1,h2,h3,h4,h5⟩;have H1:Kp (p.f=1->0<=p.t->p.t<(d.ai.length:Int)->p.set=[]->p.lo.size<=16->p.hi.size<=16->lZ d p):=λh1 h2 h3 h4 h5 h6=> .inr (.inl ⟨h1,h2,h3,h4,h5,h6⟩);have H2:Kp (p.f=2->0<=p.t->p.t<(d.ai.length:Int)->p.lo = .empty->p.hi = .empty->eu p.set->(∀x∈p.set,∃i:Nat,(bE d p.t.toNat)[i]? = some x)->lZ d p):=λh1 h2 h3 h4 h5 h6 h7=> .inr (.inr ⟨h1,h2,h3,h4,h5,h6,h7⟩);generalize lZ d p=X at*;obtain⟨f,t,lo,hi,A,set,c,g,b⟩:=p;dsimp only[nF,aU]at*;obtain⟨n,hN⟩:=e_ set.length
 obtain⟨nd,hnd⟩:=e_ d.ai.length
 have hn:=hp.n;have hnm:=hd.n;have hlo:=hp.lo;have hhi:=hp.hi;dsimp only at hn hlo hhi;have HN:=J hN;have HNd:=J hnd;have HS0:Kp (n=0->set=[]):=λe=>length_eq_zero_iff.1 (hN.trans e);rw[hnd]at HD1 HD2 hw1 hnm⊢;rw[hN]at HP2 HRow hw2 hn⊢;unfold maxLen at hn hnm hlo hhi;clear hb1 hb2 hd hp hN hnd;generalize cM _ w=Q at*;have pD:=aa.seven HP2;obtain⟨d0,d1,_,_⟩:=HD2.two;go_in;by_cases h0:f=0
 .subst h0;obtain rfl|e2:=ta lo
  .obtain rfl|e3:=ta hi
   .go_wp2_with fail
    all_goals first
     |exact HR _ _ (λh=>absurd h d_) Hb2
     |exact HR _ _ (λ_=>H0 (by first|rfl|trivial) o_ (by first|rfl|trivial) (by first|rfl|trivial) (HS0 o_)) Hb2
   .go_wp2_with fail
    all_goals exact HR _ _ (λh=>absurd h d_) Hb2
  .go_wp2_with fail
   all_goals exact HR _ _ (λh=>absurd h d_) Hb2
 by_cases ht0:t<0
 .have f0:(f == 0)=false:=by simpa using h0
  by_cases h1:f=1
  .subst h1;go_wp2_with fail
   all_goals first
    |(exfalso;omega)
    |exact HR _ _ (λh=>absurd h d_) Hb2
  .by_cases h2:f=2
   .subst h2;go_wp2_with fail
    all_goals first
     |(exfalso;omega)
     |exact HR _ _ (λh=>absurd h d_) Hb2
   .go_wp2_with fail
    all_goals first
     |(exfalso;omega)
     |exact HR _ _ (λh=>absurd h d_) Hb2
 by_cases ht1:t<(nd:Int)
 rotate_left
 .by_cases h1:f=1
  .subst h1;go_wp2_with fail
   all_goals first
    |(exfalso;omega)
    |exact HR _ _ (λh=>absurd h d_) Hb2
  .by_cases h2:f=2
   .subst h2;go_wp2_with fail
    all_goals first
     |(exfalso;omega)
     |exact HR _ _ (λh=>absurd h d_) Hb2
   .go_wp2_with fail
    all_goals first
     |(exfalso;omega)
     |exact HR _ _ (λh=>absurd h d_) Hb2
 by_cases h1:f=1
 .subst h1;have hfin:=λW hb h1 h2 h3=>HR 0 W (λ_=>H1 (by first|rfl|trivial) o_ (by rw[HNd.o];exact ht1) (HS0 h1) h2 h3) hb
  have Hfin:=J hfin;clear hfin;go_wp2_with fail
  all_goals first
   |exact Hfin _ Hb2 o_ o_ o_
   |exact HR _ _ (λh=>absurd h d_) Hb2
 by_cases h2:f=2
 rotate_left
 .go_wp2_with fail
  all_goals first
   |(exfalso;omega)
   |exact HR _ _ (λh=>absurd h d_) Hb2
 subst h2;obtain rfl|e2:=ta lo
 rotate_left
 .go_wp2_with fail
  all_goals exact HR _ _ (λh=>absurd h d_) Hb2
 obtain rfl|e3:=ta hi
 rotate_left
 .go_wp2_with fail
  all_goals exact HR _ _ (λh=>absurd h d_) Hb2
 have HRw:=J (HRow w2 Hb2);go_wp2_with fail;apply HRw.mono;clear pD d0 d1 hw1 hw2;rintro e w3⟨r,rfl,hr,hb3⟩;have Hb3:=ay Hb2 hb3;have HP3:=bu HP2 hb3;have HD3:=bu HD2 hb3;clear hb3 HP2 HD2 HRw;by_cases hr0:r=0
 rotate_left
 .go_wp2_with fail
  all_goals exact HR _ _ (λh=>absurd h hr0) Hb3
 subst hr0;have Hrow:=J (hr rfl);clear hr;obtain⟨tn,rfl⟩:∃q:Nat,t=(q:Int):=⟨t.toNat,o_⟩
 have pD:=aa.seven HP3;have htl:tn<d.ai.length:=by rw[HNd.o];omega
 go_wp2_with fail;clear pD
 go_loopw [85] (λv85 wr=>∃k:Nat,k<=n/\v85 = N k/\Kp (∀x∈set.take k,∃i:Nat,(d.ai[tn]'htl).ar[i]? = some x)/\E w3 wr) (λv85 _=>n-(intOf v85).toNat)
 case atStart=>exact⟨0,av _,rfl,J (λx hx=>by simp at hx),ah _ _⟩
 .obtain⟨k,hk,rfl,hin,hbr⟩:=hrel;have Hbr:=J hbr;have Hw:=ay Hb3 hbr;by_cases hlt:k<n
  .have hks:k<set.length:=by rw[HN.o];exact hlt
   obtain⟨bs,os,hA',_,t0⟩:=Row.at_ (HsA wr Hw) (k:=k) (by rw[lM];exact hks);rw[getElem_map]at t0;obtain⟨bt,ot,hT',_,u0,u1,u2⟩:=(HdA wr Hw).cU tn htl;have HAk:=J (HAt wr Hw _ (gM htl) (set[k]'hks))
   have Hnx:Kp ((∃i:Nat,(d.ai[tn]'htl).ar[i]? = some (set[k]'hks))->∀x∈set.take (k+1),∃i:Nat,(d.ai[tn]'htl).ar[i]? = some x):=(λh x hx=>by
    rw[take_succ_eq_append_getElem hks]at hx;obtain hx|hx:=mem_append.1 hx
    .exact hin.out x hx
    .rw[mem_singleton.1 hx]
     exact h)
   generalize(set[k]'hks)=z at*;have HBx:=bu HP3 hbr;have pD:=aa.seven HBx;obtain⟨d0,d1,_,_⟩:=(HD3.under hbr).two;rw[hT']at d1;clear hT';generalize(d.ai[tn]'htl).ar=T at*;generalize(d.ai[tn]'htl).At=TA at*;generalize(d.ai[tn]'htl).ct=tc at*;subst hA';have k0:(0:Int)<=(k:Int):=o_
   have k1:(k:Int)<(n:Int):=o_
   have k2:(0:Int)<=(tn:Int):=o_
   clear hbr hks;go_wp2_with fail;apply HAk.mono;clear pD d0 d1 t0 u0 u1 u2;rintro e w4⟨r,rfl,hr,hb4⟩;have Hb4:=ay Hbr hb4;by_cases hr0:r<0
   .have Hf:=J (HR 13 w4 (λh=>absurd h d_) (Hb3.trans (Hb4.mono Hb3.size)));clear hr hb4;go_wp2_with fail;exact Hf
   .have Hz:=J (Hnx (by
     obtain⟨i,_,hi⟩:=hr.1 o_
     exact⟨i,hi⟩))
    clear hr hb4;go_wp2_with fail;exact⟨⟨k+1,o_,by go_num,Hz,Hb4⟩,by simp[intOf];omega⟩
  .obtain rfl:k=n:=o_
   have hin2:=hin.out;rw[take_of_length_le (by rw[HN.o];exact ae _)]at hin2
   have Hf:=J (HR 0 wr (λ_=>H2 (by first|rfl|trivial) o_ (by rw[HNd.o];exact ht1) (by first|rfl|trivial) (by first|rfl|trivial) Hrow (λx hx=>by
    obtain⟨i,hi⟩:=hin2 x hx;refine⟨i,?_⟩;unfold bE;rw[show((tn:Int)).toNat=tn from rfl,gE htl]
    exact hi)) Hw)
   clear hin2 hin;go_wp2_with fail;exact Hf
def Dw{d:au}{p:Pq}(hd:da d)(h:lZ d p)(u:(p.g=true/\0<=p.bG/\p.bG<(d.ai.length:Int))\/(p.g=false/\p.bG=0)):lD d p:=by
 have h1:=hd.n1;obtain⟨f,t,lo,hi,A,set,c,g,b⟩:=p;dsimp only[lZ]at*;have n:0<=b/\b<d.ai.length:=r_
 have m:g=false->b.toNat=0:=λe=>r_
 obtain⟨rfl,rfl,rfl,rfl,rfl⟩|⟨rfl,h2,q,rfl,r,s⟩|⟨rfl,h2,q,rfl,rfl,r,s⟩:=h
 .exact⟨o_,o_,o_,⟨.inl ⟨rfl,rfl⟩,(by show(0:Nat)<_;omega),⟨av _,λ_=>rfl⟩,⟨av _,λ_=>rfl⟩,λ_=>rfl,(by show b.toNat<_;omega),m⟩⟩
 .exact⟨o_,h2,o_,⟨.inr (.inl ⟨rfl,rfl⟩),(by show t.toNat<_;omega),⟨r,λe=>absurd rfl e⟩,⟨s,λe=>absurd rfl e⟩,(λe=>absurd e (show¬(1:Int).toNat=0 by decide)),(by show b.toNat<_;omega),m⟩⟩
 .exact⟨o_,h2,o_,⟨.inr (.inr ⟨rfl,r,s⟩),(by show t.toNat<_;omega),⟨av _,λ_=>rfl⟩,⟨av _,λ_=>rfl⟩,(λe=>absurd e (show¬(2:Int).toNat=0 by decide)),(by show b.toNat<_;omega),m⟩⟩
def sC(s:aN)(l:List Pq):Prop:=cJ s/\l.length=s.af.length/\∀(i:Nat) d p,s.af[i]? = some d->l[i]? = some p->lD d p
def Pt(s:aN)(A:OA)(l:List Pq)(c:Nat)(w:World)(h:cQ w w.heap.size s)(hq:jt w w.heap.size A l) :
 Calls prog 7 #[.agg (aG s),.agg #[U A l.length c]] w (cM (λr=>r=0->sC s l) w):=by
 have z:=(ah _ w).alloc (ae _) (.cells (aG s) 25);have L:=J (aa.new w 25 (aG s));obtain⟨D,Y⟩:=e_ (w.alloc (.cells (aG s) 25));rw[Y]at z L;have R:=z.alloc z.size (.cells #[U A l.length c] 29);have u:=J (aa.new D 29 #[U A l.length c]);have F:=J (L.alloc (.cells #[U A l.length c] 29));obtain⟨w2,V⟩:=e_ (D.alloc (.cells #[.slice A l.length c] 29));rw[V]at R u F;have c9:=J R;have HR:=J (λr w' h y=>cM.mono (P:=λr=>r=0->sC s l) (w:=w) (r:=r) (w':=w') h y);have b9:Kp (∀W,E w W->cQ W _ s):=λW y=>(h.below y).more y.size;have b5:Kp (∀W,E w W->jt W _ A l):=λW y=>(hq.below y).more y.size;have D:=J (λW y=>DL s W (b9 W y));have hn:=hq.n;have hm:=h.n;unfold maxLen at hn hm;obtain⟨n,G⟩:=e_ l.length;obtain⟨m,O⟩:=e_ s.af.length;have HN:=J G;have HM:=J O;unfold aG at L F D Y⊢;rw[O]at L F D Y hm⊢;rw[G]at u V hn⊢;generalize cM _ w=Q at*;clear z R h hq G O;obtain⟨s0,s1,_,_⟩:=F.two;have d6:=J (D _ c9);go_in;go_wp2_with fail;apply d6.mono;clear s0 s1 Y V D d6 L;rintro e O⟨r,rfl,hr,D⟩;have V:=ay c9 D;have d7:=bu F D;have L:=bu u D;clear D F u;by_cases M:r=0;rotate_left
 . go_wp2;exact HR _ _ (λh=>absurd h M) V
 subst M;have e2:=J (hr rfl);clear hr;obtain⟨s0,s1,_,_⟩:=d7.two;obtain⟨G,_⟩:=L.one;by_cases u:n=m;rotate_left
 .have h5:(n == (m:Int))=false:=o_;go_wp2
  all_goals first
   |(exfalso;omega)
   |exact HR _ _ (λh=>o_) V
 subst u;go_wp2;clear s0 s1 G;go_loopw [24] (λu wr=>∃k:Nat,k<=n/\u = N k/\Kp (∀(i:Nat) d p,i<k->s.af[i]? = some d->l[i]? = some p->lD d p)/\E O wr) (λu _=>n-(intOf u).toNat)
 case atStart=>exact⟨0,o_,rfl,J (λi d p h=>o_),bR⟩
 .obtain⟨k,hk,rfl,b1,O⟩:=hrel;obtain⟨wo,rfl⟩:∃wo,wo=wr:=⟨_,rfl⟩;have d5:=J O;have Hw:=ay V O;have b7:=bu d7 O;have g9:=bu L O;clear O;by_cases L:k<n
  .have x:k<l.length:=by rw[HN];omega
   have u:k<s.af.length:=by rw[HM];omega
   have O:=(b5 _ Hw).each _ (gM x);have e5:=J (e2.af k u);have HF:=J (λW y=>OF _ _ W ((b9 W y).af _ (gM u)) ((b5 W y).each _ (gM x)));have b4:Kp _:=λW y=>(b9 W y).aj k u;have d4:Kp (lD (s.af[k]'u) (l[k]'x)->∀ i d p,i<k+1->s.af[i]? = some d->l[i]? = some p->lD d p):=(λh i d p hi h1 h2=>by
    by_cases e:i=k
    .grind
    .exact b1.out i d p o_ h1 h2)
   obtain⟨L,L,d8,_,c0,c1,c2,c3,L,c5,c6⟩:=(b5 _ Hw).pick k x;generalize(l[k]'x)=p at*;generalize(s.af[k]'u)=d at*;clear O x u;obtain⟨f,t,lo,hi,pA,set,pc,g,b⟩:=p;dsimp only[nF,aU]at HF c0 c1 c2 c3 L c5 c6;obtain⟨ns,O⟩:=e_ set.length;obtain⟨nd,u⟩:=e_ d.ai.length;rw[O]at HF L;rw[u]at HF b4;have f6:=J u;clear O u;obtain⟨G,_⟩:=g9.one;rw[d8]at G;clear d8;have u:0<=(k:Int):=o_;have u:k<(n:Int):=o_;have f5:=J (aa.new wo 58 #[I f,I t,T lo,T hi,U pA ns pc,.bool g,I b]);have O:=J ((ah _ wo).alloc (ae _) (.cells #[I f,I t,T lo,T hi,U pA ns pc,.bool g,I b] 58));go_upto_region 10 with fail;clear c0 c1 c2 c3 L c5 c6 G;generalize wo.alloc _=w4 at*;generalize u:wo.heap.size=G at*;have a0:=kp (show Below wo.heap.size _ _ by rw[u];exact O.drew);have d3:Kp (aa w4.drew G _ _):=f5;clear u;have e4:=J (Hw.trans (a0.mono Hw.size));obtain⟨p0,p1,p2,p3,u,O,L⟩:=aa.seven d3;obtain⟨s0,s1,_,_⟩:=(b7.under a0).two;obtain⟨bd,od,eD,_,d0,d1⟩:=b4 _ e4;rw[eD]at s0;clear eD;apply wp_region_noPanic;refine br (t:=99) (S:=(λw'=>C w' _ 0 _/\C w' _ _ _/\C w' _ _ _/\C w' G 0 _/\C w' G 1 _/\C w' G 2 _/\C w' G 3 _/\C w' G 4 _/\C w' G 5 _/\C w' G 6 _)) k_ ⟨s0,d0,d1,p0,p1,p2,p3,u,O,L⟩ (λq=> ?_);generalize w4.drew=wd at*;apply tD 0 1 2 3 q;apply tB 4 5 q;refine oT 6 (λK hK=> ?_);go_simp;apply(HF _ e4).mono;rintro e w5⟨r,rfl,hr,d9⟩;have v:=J d9;clear d9;try go_simp
   refine oK hK ?_ (λB=> ?_)
   .exact⟨al v q.1,al v q.2.1,al v q.2.2.1,al v q.2.2.2.1,al v q.2.2.2.2.1,al v q.2.2.2.2.2.1,al v q.2.2.2.2.2.2.1,al v q.2.2.2.2.2.2.2.1,al v q.2.2.2.2.2.2.2.2.1,al v q.2.2.2.2.2.2.2.2.2⟩
   clear hK K q;have q:=B;clear B;apply tk 7 q;refine bQ k_ ?_ _;try clear q
   apply NoPanic.normal;have a7:=J (a0.trans (v.mono a0.size));have H:=J (d5.trans (a7.mono d5.size));have G:=J (V.trans (H.mono V.size));have V:=J (d3.under v);clear p0 p1 p2 p3 u O L s0 s1 d0 d1;by_cases M:r=0;rotate_left
   .have Z:=J (HR r _ (λh=>absurd h M) G);clear hr;go_wp2;exact Z
   subst M;have a8:=J (hr rfl);clear hr;obtain⟨p0,p1,p2,p3,u,O,L⟩:=aa.seven V;obtain⟨s0,s1,_,_⟩:=(b7.under a7).two;obtain⟨V,V,d2,_,d0,d1⟩:=b4 _ G;rw[d2]at s0;clear d2;have b0:Kp _:=λW y=>HR 2 W (λh=>o_) y;obtain _|_:=g
   .by_cases X:b=0
    .subst X;have V:=J (d4 (Dw e5 a8 (.inr ⟨rfl,rfl⟩)));go_upto_region 13 with fail;go_quiet (fail);have Hd:=J (below_drewN H nq);clear p0 p1 p2 p3 u O L s0 s1 d0 d1;go_wp2;exact⟨⟨_,o_,o_,V,Hd⟩,o_⟩
    .have z:(b == 0)=false:=o_
     go_upto_region 13 with fail;go_quiet (fail);have Z:=J (b0 _ (below_drewN G nq));clear p0 p1 p2 p3 u O L s0 s1 d0 d1;go_wp2;exact Z
   .by_cases X:b<0
    .go_upto_region 13 with fail;go_quiet (fail);have Z:=J (b0 _ (below_drewN G nq));clear p0 p1 p2 p3 u O L s0 s1 d0 d1;go_wp2;exact Z
    .by_cases R:b<(nd:Int)
     .have V:=J (d4 (Dw e5 a8 (.inl ⟨rfl,o_,by rw[f6];omega⟩)));have D:decide (nd<=b)=false:=o_;go_upto_region 13 with fail;go_quiet (fail);have Hd:=J (below_drewN H nq);clear p0 p1 p2 p3 u O L s0 s1 d0 d1;go_wp2;exact⟨⟨_,o_,o_,V,Hd⟩,o_⟩
     .have D:decide (nd<=b)=true:=o_;go_upto_region 13 with fail;go_quiet (fail);have Z:=J (b0 _ (below_drewN G nq));clear p0 p1 p2 p3 u O L s0 s1 d0 d1;go_wp2;exact Z
  .obtain rfl:k=n:=o_;have Z:=J (HR 0 _ (λ_=>⟨e2,by rw[HN,HM],λi d p h1 h2=>b1.out i d p (by rw[<-HN];grind) h1 h2⟩) Hw);clear b1;go_wp2;exact Z
end Tc
end Go.Proofs.YtibjlpkpljnicaaGreatDoor
