/- Parts of a proof. -/
import Derived.Test.YtibjlpkpljnicaaGreatDoorL28
set_option maxRecDepth 100000
set_option maxHeartbeats 8000000
set_option linter.all false
namespace Go.Proofs.YtibjlpkpljnicaaGreatDoor
namespace Tc
open List Go.RowKit Base Go.Proofs.Tryz
def lZ(d:au)(p:Pq):Prop:=(p.f=0/\p.t=0/\p.lo = .empty/\p.hi = .empty/\p.set=[])\/(p.f=1/\0<=p.t/\p.t<(d.ai.length:Int)/\p.set=[]/\p.lo.size<=16/\p.hi.size<=16)\/(p.f=2/\0<=p.t/\p.t<(d.ai.length:Int)/\p.lo = .empty/\p.hi = .empty/\eu p.set/\∀x∈p.set,∃i:Nat,(bE d p.t.toNat)[i]? = some x)
def ta(x:ByteArray):x = .empty\/(x.toList == ([]:List UInt8))=false:=by
 obtain⟨⟨l⟩⟩:=x;cases l with
 |nil=>exact .inl rfl
 |cons a l=>exact .inr (by rw[show(ByteArray.mk ⟨a::l⟩).toList=a::l from ByteArray.toList_eq _];rfl)
def OF(d:au)(p:Pq)(w:World)(hd:dB w w.heap.size d)(hp:lC w w.heap.size p):Calls prog 27 #[.agg (aU d),.agg (nF p)] w (cM (λr=>r=0->lZ d p) w):=by
 have hb1:=(ah w.heap.size w).alloc (ae _) (.cells (aU d) 70);have HD1:=J (aa.new w 70 (aU d));obtain⟨w1,hw1⟩:=e_ (w.alloc (.cells (aU d) 70))
 rw[hw1]at hb1 HD1;have hb2:=hb1.alloc hb1.size (.cells (nF p) 58);have HP2:=J (aa.new w1 58 (nF p));have HD2:=J (HD1.alloc (.cells (nF p) 58));obtain⟨w2,hw2⟩:=e_ (w1.alloc (.cells (nF p) 58))
 rw[hw2]at hb2 HD2 HP2;have Hb2:=J hb2;have HR:=J (λr w'(h:r=0->lZ d p) hb=>cM.mono (P:=λr=>r=0->lZ d p) (w:=w) (r:=r) (w':=w') h hb);have HdA:Kp (∀W,E w W->dB W W.heap.size d):=λW hb=>(hd.below hb).more hb.size;have HsA:Kp (∀W,E w W->Row W W.heap.size p.A (p.set.map .string)):=λW hb=>(hp.set.below hb).more hb.size;have HRow:=J (λW(hb:E w W)=>E9 p.A p.set p.c W hp.n hp.sz (HsA W hb));have HAt:=J (λW(hb:E w W)(t:dU)(ht:t∈d.ai) x=>yE t.At t.ar t.ct x W ((HdA W hb).ai t ht).nt ((HdA W hb).ai t ht).ar);have H0:Kp (p.f=0->p.t=0->p.lo = .empty->p.hi = .empty->p.set=[]->lZ d p):=λh1 h2 h3 h4 h5=> .inl ⟨h1,h2,h3,h4,h5⟩;have H1:Kp (p.f=1->0<=p.t->p.t<(d.ai.length:Int)->p.set=[]->p.lo.size<=16->p.hi.size<=16->lZ d p):=λh1 h2 h3 h4 h5 h6=> .inr (.inl ⟨h1,h2,h3,h4,h5,h6⟩);have H2:Kp (p.f=2->0<=p.t->p.t<(d.ai.length:Int)->p.lo = .empty->p.hi = .empty->eu p.set->(∀x∈p.set,∃i:Nat,(bE d p.t.toNat)[i]? = some x)->lZ d p):=λh1 h2 h3 h4 h5 h6 h7=> .inr (.inr ⟨h1,h2,h3,h4,h5,h6,h7⟩);generalize lZ d p=X at*;obtain⟨f,t,lo,hi,A,set,c,g,b⟩:=p;dsimp only[nF,aU]at*;obtain⟨n,hN⟩:=e_ set.length
 obtain⟨nd,hnd⟩:=e_ d.ai.length
 have hn:=hp.n;have hnm:=hd.n;have hlo:=hp.lo;have hhi:=hp.hi;dsimp only at hn hlo hhi;have HN:=J hN;have HNd:=J hnd;have HS0:Kp (n=0->set=[]):=λe=>length_eq_zero_iff.1 (hN.trans e);rw[hnd]at HD1 HD2 hw1 hnm⊢;rw[hN]at HP2 HRow hw2 hn⊢;unfold maxLen at hn hnm hlo hhi;clear hb1 hb2 hd hp hN hnd;generalize cM _ w=Q at*;have pD:=aa.seven HP2;obtain⟨d0,d1,_,_⟩:=HD2.two;go_in;by_cases h0:f=0
 .subst h0;obtain rfl|e2:=ta lo
  .obtain rfl|e3:=ta hi
   .go_wp2_with fail
    all_goals first
     |exact HR _ _ (λh=>absurd h d_) Hb2
     |exact HR _ _ (λ_=>H0 (by first|rfl|trivial) o_ (by first|rfl|trivial) (by first|rfl|trivial) (HS0 o_)) Hb2
   .go_wp2_with fail
    all_goals exact HR _ _ (λh=>absurd h d_) Hb2
  .go_wp2_with fail
   all_goals exact HR _ _ (λh=>absurd h d_) Hb2
 by_cases ht0:t<0
 .have f0:(f == 0)=false:=by simpa using h0
  by_cases h1:f=1
  .subst h1;go_wp2_with fail
   all_goals first
    |(exfalso;omega)
    |exact HR _ _ (λh=>absurd h d_) Hb2
  .by_cases h2:f=2
   .subst h2;go_wp2_with fail
    all_goals first
     |(exfalso;omega)
     |exact HR _ _ (λh=>absurd h d_) Hb2
   .go_wp2_with fail
    all_goals first
     |(exfalso;omega)
     |exact HR _ _ (λh=>absurd h d_) Hb2
 by_cases ht1:t<(nd:Int)
 rotate_left
 .by_cases h1:f=1
  .subst h1;go_wp2_with fail
   all_goals first
    |(exfalso;omega)
    |exact HR _ _ (λh=>absurd h d_) Hb2
  .by_cases h2:f=2
   .subst h2;go_wp2_with fail
    all_goals first
     |(exfalso;omega)
     |exact HR _ _ (λh=>absurd h d_) Hb2
   .go_wp2_with fail
    all_goals first
     |(exfalso;omega)
     |exact HR _ _ (λh=>absurd h d_) Hb2
 by_cases h1:f=1
 .subst h1;have hfin:=λW hb h1 h2 h3=>HR 0 W (λ_=>H1 (by first|rfl|trivial) o_ (by rw[HNd.o];exact ht1) (HS0 h1) h2 h3) hb
  have Hfin:=J hfin;clear hfin;go_wp2_with fail
  all_goals first
   |exact Hfin _ Hb2 o_ o_ o_
   |exact HR _ _ (λh=>absurd h d_) Hb2
 by_cases h2:f=2
 rotate_left
 .go_wp2_with fail
  all_goals first
   |(exfalso;omega)
   |exact HR _ _ (λh=>absurd h d_) Hb2
 subst h2;obtain rfl|e2:=ta lo
 rotate_left
 .go_wp2_with fail
  all_goals exact HR _ _ (λh=>absurd h d_) Hb2
 obtain rfl|e3:=ta hi
 rotate_left
 .go_wp2_with fail
  all_goals exact HR _ _ (λh=>absurd h d_) Hb2
 have HRw:=J (HRow w2 Hb2);go_wp2_with fail;apply HRw.mono;clear pD d0 d1 hw1 hw2;rintro e w3⟨r,rfl,hr,hb3⟩;have Hb3:=ay Hb2 hb3;have HP3:=bu HP2 hb3;have HD3:=bu HD2 hb3;clear hb3 HP2 HD2 HRw;by_cases hr0:r=0
 rotate_left
 .go_wp2_with fail
  all_goals exact HR _ _ (λh=>absurd h hr0) Hb3
 subst hr0;have Hrow:=J (hr rfl);clear hr;obtain⟨tn,rfl⟩:∃q:Nat,t=(q:Int):=⟨t.toNat,o_⟩
 have pD:=aa.seven HP3;have htl:tn<d.ai.length:=by rw[HNd.o];omega
 go_wp2_with fail;clear pD
 go_loopw [85] (λv85 wr=>∃k:Nat,k<=n/\v85 = N k/\Kp (∀x∈set.take k,∃i:Nat,(d.ai[tn]'htl).ar[i]? = some x)/\E w3 wr) (λv85 _=>n-(intOf v85).toNat)
 case atStart=>exact⟨0,av _,rfl,J (λx hx=>by simp at hx),ah _ _⟩
 .obtain⟨k,hk,rfl,hin,hbr⟩:=hrel;have Hbr:=J hbr;have Hw:=ay Hb3 hbr;by_cases hlt:k<n
  .have hks:k<set.length:=by rw[HN.o];exact hlt
   obtain⟨bs,os,hA',_,t0⟩:=Row.at_ (HsA wr Hw) (k:=k) (by rw[lM];exact hks);rw[getElem_map]at t0;obtain⟨bt,ot,hT',_,u0,u1,u2⟩:=(HdA wr Hw).cU tn htl;have HAk:=J (HAt wr Hw _ (gM htl) (set[k]'hks))
   have Hnx:Kp ((∃i:Nat,(d.ai[tn]'htl).ar[i]? = some (set[k]'hks))->∀x∈set.take (k+1),∃i:Nat,(d.ai[tn]'htl).ar[i]? = some x):=(λh x hx=>by
    rw[take_succ_eq_append_getElem hks]at hx;obtain hx|hx:=mem_append.1 hx
    .exact hin.out x hx
    .rw[mem_singleton.1 hx]
     exact h)
   generalize(set[k]'hks)=z at*;have HBx:=bu HP3 hbr;have pD:=aa.seven HBx;obtain⟨d0,d1,_,_⟩:=(HD3.under hbr).two;rw[hT']at d1;clear hT';generalize(d.ai[tn]'htl).ar=T at*;generalize(d.ai[tn]'htl).At=TA at*;generalize(d.ai[tn]'htl).ct=tc at*;subst hA';have k0:(0:Int)<=(k:Int):=o_
   have k1:(k:Int)<(n:Int):=o_
   have k2:(0:Int)<=(tn:Int):=o_
   clear hbr hks;go_wp2_with fail;apply HAk.mono;clear pD d0 d1 t0 u0 u1 u2;rintro e w4⟨r,rfl,hr,hb4⟩;have Hb4:=ay Hbr hb4;by_cases hr0:r<0
   .have Hf:=J (HR 13 w4 (λh=>absurd h d_) (Hb3.trans (Hb4.mono Hb3.size)));clear hr hb4;go_wp2_with fail;exact Hf
   .have Hz:=J (Hnx (by
     obtain⟨i,_,hi⟩:=hr.1 o_
     exact⟨i,hi⟩))
    clear hr hb4;go_wp2_with fail;exact⟨⟨k+1,o_,by go_num,Hz,Hb4⟩,by simp[intOf];omega⟩
  .obtain rfl:k=n:=o_
   have hin2:=hin.out;rw[take_of_length_le (by rw[HN.o];exact ae _)]at hin2
   have Hf:=J (HR 0 wr (λ_=>H2 (by first|rfl|trivial) o_ (by rw[HNd.o];exact ht1) (by first|rfl|trivial) (by first|rfl|trivial) Hrow (λx hx=>by
    obtain⟨i,hi⟩:=hin2 x hx;refine⟨i,?_⟩;unfold bE;rw[show((tn:Int)).toNat=tn from rfl,gE htl]
    exact hi)) Hw)
   clear hin2 hin;go_wp2_with fail;exact Hf
def Dw{d:au}{p:Pq}(hd:da d)(h:lZ d p)(hb:(p.g=true/\0<=p.bG/\p.bG<(d.ai.length:Int))\/(p.g=false/\p.bG=0)):lD d p:=by
 have h1:=hd.n1;obtain⟨f,t,lo,hi,A,set,c,g,b⟩:=p;dsimp only[lZ]at*;have hb0:0<=b/\b<(d.ai.length:Int):=by
  obtain⟨_,h2,h3⟩|⟨_,rfl⟩:=hb
  .exact⟨h2,h3⟩
  .exact⟨o_,o_⟩
 have hoff:g=false->b.toNat=0:=λe=>by
  obtain⟨h2,_⟩|⟨_,rfl⟩:=hb
  .rw[h2]at e;cases e
  .rfl
 obtain⟨rfl,rfl,rfl,rfl,rfl⟩|⟨rfl,h2,h3,rfl,h4,h5⟩|⟨rfl,h2,h3,rfl,rfl,h4,h5⟩:=h
 .exact⟨(show(0:Int)<=0 by omega),(show(0:Int)<=0 by omega),hb0.1,⟨.inl ⟨rfl,rfl⟩,(by show(0:Nat)<_;omega),⟨av _,λ_=>rfl⟩,⟨av _,λ_=>rfl⟩,λ_=>rfl,(by show b.toNat<_;omega),hoff⟩⟩
 .exact⟨(show(0:Int)<=1 by omega),h2,hb0.1,⟨.inr (.inl ⟨rfl,rfl⟩),(by show t.toNat<_;omega),⟨h4,λe=>absurd rfl e⟩,⟨h5,λe=>absurd rfl e⟩,(λe=>absurd e (show¬(1:Int).toNat=0 by decide)),(by show b.toNat<_;omega),hoff⟩⟩
 .exact⟨(show(0:Int)<=2 by omega),h2,hb0.1,⟨.inr (.inr ⟨rfl,h4,h5⟩),(by show t.toNat<_;omega),⟨av _,λ_=>rfl⟩,⟨av _,λ_=>rfl⟩,(λe=>absurd e (show¬(2:Int).toNat=0 by decide)),(by show b.toNat<_;omega),hoff⟩⟩
def sC(s:aN)(l:List Pq):Prop:=cJ s/\l.length=s.af.length/\∀(i:Nat) d p,s.af[i]? = some d->l[i]? = some p->lD d p
def Pt(s:aN)(A:OA)(l:List Pq)(c:Nat)(w:World)(h:cQ w w.heap.size s)(hq:jt w w.heap.size A l) :
 Calls prog 7 #[.agg (aG s),.agg #[U A l.length c]] w (cM (λr=>r=0->sC s l) w):=by
 have hb1:=(ah w.heap.size w).alloc (ae _) (.cells (aG s) 25);have HS1:=J (aa.new w 25 (aG s));obtain⟨w1,hw1⟩:=e_ (w.alloc (.cells (aG s) 25))
 rw[hw1]at hb1 HS1;have hb2:=hb1.alloc hb1.size (.cells #[U A l.length c] 29);have HQ2:=J (aa.new w1 29 #[U A l.length c]);have HS2:=J (HS1.alloc (.cells #[U A l.length c] 29));obtain⟨w2,hw2⟩:=e_ (w1.alloc (.cells #[.slice A l.length c] 29))
 rw[hw2]at hb2 HQ2 HS2;have Hb2:=J hb2;have HR:=J (λr w'(h:r=0->sC s l) hb=>cM.mono (P:=λr=>r=0->sC s l) (w:=w) (r:=r) (w':=w') h hb);have HsA:Kp (∀W,E w W->cQ W W.heap.size s):=λW hb=>(h.below hb).more hb.size;have HqA:Kp (∀W,E w W->jt W W.heap.size A l):=λW hb=>(hq.below hb).more hb.size;have HW:=J (λW(hb:E w W)=>DL s W (HsA W hb));have hn:=hq.n;have hm:=h.n;unfold maxLen at hn hm;obtain⟨n,hN⟩:=e_ l.length
 obtain⟨m,hM⟩:=e_ s.af.length
 have HN:=J hN;have HM:=J hM;unfold aG at HS1 HS2 HW hw1⊢;rw[hM]at HS1 HS2 HW hw1 hm⊢;rw[hN]at HQ2 hw2 hn⊢;generalize cM _ w=Q at*;clear hb1 hb2 h hq hN hM;obtain⟨s0,s1,_,_⟩:=HS2.two;have HW2:=J (HW w2 Hb2);go_in;go_wp2_with fail;apply HW2.mono;clear s0 s1 hw1 hw2 HW HW2 HS1;rintro e w3⟨r,rfl,hr,hb3⟩;have Hb3:=ay Hb2 hb3;have HS3:=bu HS2 hb3;have HQ3:=bu HQ2 hb3;clear hb3 HS2 HQ2;by_cases hr0:r=0
 rotate_left
 .go_wp2_with fail;exact HR _ _ (λh=>absurd h hr0) Hb3
 subst hr0;have Hso:=J (hr rfl);clear hr;obtain⟨s0,s1,_,_⟩:=HS3.two;obtain⟨q0,_⟩:=HQ3.one;by_cases hnm:n=m
 rotate_left
 .have hnm':((n:Int) == (m:Int))=false:=o_
  go_wp2_with fail
  all_goals first
   |(exfalso;omega)
   |exact HR _ _ (λh=>by cases h) Hb3
 subst hnm;go_wp2_with fail;clear s0 s1 q0
 go_loopw [24] (λv24 wr=>∃k:Nat,k<=n/\v24 = N k/\Kp (∀(i:Nat) d p,i<k->s.af[i]? = some d->l[i]? = some p->lD d p)/\E w3 wr) (λv24 _=>n-(intOf v24).toNat)
 case atStart=>exact⟨0,av _,rfl,J (λi d p h=>o_),ah _ _⟩
 .obtain⟨k,hk,rfl,hin,hbr⟩:=hrel;obtain⟨wo,rfl⟩:∃wo,wo=wr:=⟨wr,rfl⟩
  have Hbr:=J hbr;have Hw:=ay Hb3 hbr;have HSr:=bu HS3 hbr;have HQr:=bu HQ3 hbr;clear hbr;by_cases hlt:k<n
  .have hkl:k<l.length:=by rw[HN.o];exact hlt
   have hks:k<s.af.length:=by rw[HM.o];exact hlt
   have hpa:=(HqA wo Hw).each _ (gM hkl);have Hdo:=J (Hso.af k hks);have HF:=J (λW(hb:E w W)=>OF (s.af[k]'hks) (l[k]'hkl) W ((HsA W hb).af _ (gM hks)) ((HqA W hb).each _ (gM hkl)));have Hdc:Kp (∀W,E w W->∃b off,s.A=some ⟨b,off,none⟩/\b<W.heap.size/\C W b (off+k*2) (T (s.af[k]'hks).name)/\C W b (off+k*2+1) (U (s.af[k]'hks).A (s.af[k]'hks).ai.length (s.af[k]'hks).c)):=λW hb=>(HsA W hb).aj k hks
   have Hnx:Kp (lD (s.af[k]'hks) (l[k]'hkl)->∀(i:Nat) d p,i<k+1->s.af[i]? = some d->l[i]? = some p->lD d p):=(λh i d p hi h1 h2=>by
    by_cases e:i=k
    .subst e;rw[gE hks]at h1;rw[gE hkl]at h2;injection h1 with h1
     injection h2 with h2
     rw[<-h1,<-h2];exact h
    .exact hin.out i d p o_ h1 h2)
   obtain⟨bq,oq,hAq,_,c0,c1,c2,c3,c4,c5,c6⟩:=(HqA wo Hw).pick k hkl;generalize(l[k]'hkl)=p at*;generalize(s.af[k]'hks)=d at*;clear hpa hkl hks;obtain⟨f,t,lo,hi,pA,set,pc,g,b⟩:=p;dsimp only[nF,aU]at HF c0 c1 c2 c3 c4 c5 c6;obtain⟨ns,hns⟩:=e_ set.length
   obtain⟨nd,hnd⟩:=e_ d.ai.length
   rw[hns]at HF c4;rw[hnd]at HF Hdc;have Hnd:=J hnd;clear hns hnd;obtain⟨s0,s1,_,_⟩:=HSr.two;obtain⟨q0,_⟩:=HQr.one;rw[hAq]at q0;clear hAq;have k0:(0:Int)<=(k:Int):=o_
   have k1:(k:Int)<(n:Int):=o_
   have HB4:=J (aa.new wo 58 #[I f,I t,T lo,T hi,U pA ns pc,.bool g,I b]);have Hb4:=J ((ah wo.heap.size wo).alloc (ae _) (.cells #[I f,I t,T lo,T hi,U pA ns pc,.bool g,I b] 58));go_upto_region 10 with fail
   clear c0 c1 c2 c3 c4 c5 c6 q0 s0 s1;generalize wo.alloc (.cells #[I f,I t,T lo,T hi,U pA ns pc,.bool g,I b] 58)=w4 at*;generalize hg7:wo.heap.size=g7 at*;have Hg7:=J hg7;have Hbo:=kp (show Below wo.heap.size wo w4.drew by rw[hg7];exact Hb4.drew);have HB5:Kp (aa w4.drew g7 58 _):=HB4;clear hg7;have Hwd:=J (Hw.trans (Hbo.mono Hw.size));obtain⟨p0,p1,p2,p3,p4,p5,p6⟩:=aa.seven HB5;obtain⟨s0,s1,_,_⟩:=(HSr.under Hbo).two;obtain⟨bd,od,eD,_,d0,d1⟩:=Hdc _ Hwd;rw[eD]at s0;clear eD;apply wp_region_noPanic;refine br (t:=99) (S:=(λw'=>C w' w.heap.size 0 (U (some ⟨bd,od,none⟩) n s.c)/\C w' bd (od+k*2) (T d.name)/\C w' bd (od+k*2+1) (U d.A nd d.c)/\C w' g7 0 (I f)/\C w' g7 1 (I t)/\C w' g7 2 (T lo)/\C w' g7 3 (T hi)/\C w' g7 4 (U pA ns pc)/\C w' g7 5 (.bool g)/\C w' g7 6 (I b))) k_ ⟨s0,d0,d1,p0,p1,p2,p3,p4,p5,p6⟩ (λhHeld=> ?_);generalize w4.drew=wd at*;apply tD 0 1 2 3 hHeld;apply tB 4 5 hHeld;refine oT 6 (λK hK=> ?_)
   go_simp
   apply(HF wd Hwd).mono;rintro e w5⟨r,rfl,hr,hb5⟩;have Hb5:=J hb5;clear hb5
   try go_simp
   refine oK hK ?_ (λhHeld2=> ?_)
   .exact⟨al Hb5 hHeld.1,al Hb5 hHeld.2.1,al Hb5 hHeld.2.2.1,al Hb5 hHeld.2.2.2.1,al Hb5 hHeld.2.2.2.2.1,al Hb5 hHeld.2.2.2.2.2.1,al Hb5 hHeld.2.2.2.2.2.2.1,al Hb5 hHeld.2.2.2.2.2.2.2.1,al Hb5 hHeld.2.2.2.2.2.2.2.2.1,al Hb5 hHeld.2.2.2.2.2.2.2.2.2⟩
   clear hK K hHeld;have hHeld:=hHeld2;clear hHeld2;apply tk 7 hHeld;refine bQ k_ ?_ _
   try clear hHeld
   apply NoPanic.normal;have Hbo5:=J (Hbo.trans (Hb5.mono Hbo.size));have Hbr5:=J (Hbr.trans (Hbo5.mono Hbr.size));have Hw5:=J (Hb3.trans (Hbr5.mono Hb3.size));have HP5:=J (HB5.under Hb5);clear p0 p1 p2 p3 p4 p5 p6 s0 s1 d0 d1;by_cases hr0:r=0
   rotate_left
   .have Hf:=J (HR r w5 (λh=>absurd h hr0) Hw5);clear hr;go_wp2_with fail;exact Hf
   subst hr0;have Hfil:=J (hr rfl);clear hr;obtain⟨p0,p1,p2,p3,p4,p5,p6⟩:=aa.seven HP5;obtain⟨s0,s1,_,_⟩:=(HSr.under Hbo5).two;obtain⟨bd',od',eD',_,d0,d1⟩:=Hdc _ Hw5;rw[eD']at s0;clear eD';have HNo:Kp (∀W,E w W->Q (.returned (I 2)) W):=λW hb=>HR 2 W (λh=>by cases h) hb;obtain _|_:=g
   .by_cases hb0:b=0
    .subst hb0;have Hn:=J (Hnx (Dw Hdo Hfil (.inr ⟨rfl,rfl⟩)));go_upto_region 13 with fail
     go_quiet (fail)
     have Hd:=J (below_drewN Hbr5 nq);clear p0 p1 p2 p3 p4 p5 p6 s0 s1 d0 d1;go_wp2_with fail;exact⟨⟨k+1,o_,by go_num,Hn,Hd⟩,by simp[intOf];omega⟩
    .have hb1:(b == 0)=false:=by simpa using hb0
     go_upto_region 13 with fail
     go_quiet (fail)
     have Hf:=J (HNo _ (below_drewN Hw5 nq));clear p0 p1 p2 p3 p4 p5 p6 s0 s1 d0 d1;go_wp2_with fail;exact Hf
   .by_cases hb0:b<0
    .have hb1:decide (b<0)=true:=decide_eq_true hb0;go_upto_region 13 with fail
     go_quiet (fail)
     have Hf:=J (HNo _ (below_drewN Hw5 nq));clear p0 p1 p2 p3 p4 p5 p6 s0 s1 d0 d1;go_wp2_with fail;exact Hf
    .have hb1:decide (b<0)=false:=decide_eq_false hb0;by_cases hb2:b<(nd:Int)
     .have Hn:=J (Hnx (Dw Hdo Hfil (.inl ⟨rfl,o_,by rw[Hnd.o];exact hb2⟩)));have hb3:decide ((nd:Int)<=b)=false:=decide_eq_false o_;go_upto_region 13 with fail
      go_quiet (fail)
      have Hd:=J (below_drewN Hbr5 nq);clear p0 p1 p2 p3 p4 p5 p6 s0 s1 d0 d1;go_wp2_with fail;exact⟨⟨k+1,o_,by go_num,Hn,Hd⟩,by simp[intOf];omega⟩
     .have hb3:decide ((nd:Int)<=b)=true:=decide_eq_true o_;go_upto_region 13 with fail
      go_quiet (fail)
      have Hf:=J (HNo _ (below_drewN Hw5 nq));clear p0 p1 p2 p3 p4 p5 p6 s0 s1 d0 d1;go_wp2_with fail;exact Hf
  .obtain rfl:k=n:=o_
   have Hf:=J (HR 0 wo (λ_=>⟨Hso,by rw[HN.o,HM.o],λi d p h1 h2=>hin.out i d p (by rw[<-HN.o];exact(aO h2).1) h1 h2⟩) Hw);clear hin;go_wp2_with fail;exact Hf
end Tc
end Go.Proofs.YtibjlpkpljnicaaGreatDoor
