/- Parts of a proof. -/
import Derived.Test.YtibjlpkpljnicaaGreatDoorL27
import Derived.Test.YtibjlpkpljnicaaGreatDoorL45
import Derived.Defers
import Derived.Recover
import Derived.Laws.Pointers
set_option maxRecDepth 100000
set_option maxHeartbeats 8000000
set_option linter.all false
namespace Go.Proofs.YtibjlpkpljnicaaGreatDoor
namespace Tc
open List Go.RowKit Base Crc Go.Proofs.YtibjlpkpljnicaaGreatDoor.Nm Tk Go.Proofs.Tryz
def mi(a:Ag)(k:Nat):Ag:=⟨a.c,if 0<k then a.s0 else 0,if 0<k then a.n0 else 0,if 0<k then a.x0 else 0,if 1<k then a.s1 else 0,if 1<k then a.n1 else 0,if 1<k then a.x1 else 0,if 2<k then a.s2 else 0,if 2<k then a.n2 else 0,if 2<k then a.x2 else 0⟩
def FZ{m:Nat}{a:Ag}(h:eS m a)(h1:1<=m)(r:m<=3):mi a m=a:=by
 have q:=h.none 1 o_;have n:=h.none 2 o_;obtain⟨c,s0,n0,x0,s1,n1,x1,s2,n2,x2⟩:=a;have hk:m=1\/m=2\/m=3:=o_;obtain rfl|rfl|rfl:=hk
 .obtain⟨g,p,f⟩:=q o_;obtain⟨d,b,e⟩:=n o_;simp only[ps,pn,px]at g p f d b e;subst g p f d b e;rfl
 .obtain⟨d,b,e⟩:=n o_;simp only[ps,pn,px]at d b e;subst d b e;rfl
 .rfl
def G5{w:World}{g:Nat}{t:TypeId}{a:Ag}{k:Nat}(h:aa w g t (aA (mi a k)))(hk:k<3) :
 aa (((w.setCell (M g (1+k*3)) (I (ps a k))).setCell (M g (1+k*3+1)) (I (pn a k))).setCell (M g (1+k*3+2)) (I (px a k))) g t (aA (mi a (k+1))):=by
 match k,hk,h with
 |0,_,h=>exact((h.set 1 _).set 2 _).set 3 _
 |1,_,h=>exact((h.set 4 _).set 5 _).set 6 _
 |2,_,h=>exact((h.set 7 _).set 8 _).set 9 _
def G0{w:World}{g:Nat}{t:TypeId}{a:Ag}{k:Nat}(h:aa w g t (aA (mi a k)))(hk:k<3):C w g 0 (I a.c)/\(w.frozen? (M g (1+k*3))=false/\w.frozen? (M g (1+k*3+1))=false/\w.frozen? (M g (1+k*3+2))=false)/\C w g (1+k*3) (I 0)/\C w g (1+k*3+1) (I 0)/\C w g (1+k*3+2) (I 0):=by
 refine⟨h.cell 0,⟨h.free _,h.free _,h.free _⟩,?_⟩;match k,hk,h with
 |0,_,h=>exact⟨h.cell 1,h.cell 2,h.cell 3⟩
 |1,_,h=>exact⟨h.cell 4,h.cell 5,h.cell 6⟩
 |2,_,h=>exact⟨h.cell 7,h.cell 8,h.cell 9⟩
def cB.pn{a:Ag}(h:cB a)(k:Nat):fit (pn a k):=by
 unfold cB at h;unfold Tc.pn;grind
def cB.px{a:Ag}(h:cB a)(k:Nat):fit (px a k):=by
 unfold cB at h;unfold Tc.px;grind
def Ga(g:Nat)(S R:List UInt8)(m:Nat)(a:Ag)(w:World)(h:Rs w g S (mX a.c++(kz a 0 m++R)))(h1:1<=m)(h3:m<=3)(ho:eS m a)(hf:cB a)(hl:S.length<=1000000) :
 Calls prog 298 #[Y g 0,N m] w (kt g S R (.agg (aA a)) w):=by
 have HI:=J (λz R w h(hz:fit z)=>OL g S R z w h hz.1 hz.2 hl);have HW:=J (λR w h=>Eh g S R 3 w h);have HM:=J (λw=>sL m a w h1 h3 ho);have Hf:=J hf;have Ho:=J ho;have i7:=J (FZ ho h1 h3);have c9:=(ah _ w).alloc (ae _) (.cells (aA az) 78);have i2:=J (h.under c9);have a1:=J (aa.new w 78 (aA az));have u1:=h.lt;have y:¬g=w.heap.size:=o_
 have e9:=J (HI _ _ _ i2 hf.1);have e0:=J c9;have HQ:Kp (∀w',Rs _ g S R->aq _ w _->kt g S R (.agg (aA a)) w _ w'):=λw' h1 h2=>⟨rfl,h1,h2⟩;generalize hQ:kt g S R _ w=Q at*;clear h ho hf c9 hQ;unfold aA az at a1 e0 e9;generalize n3:w.alloc (.cells zA _)=W0 at*;have t7:=a1.lt;go_in;go_wp2_with fail;apply e9.mono;rintro e V⟨rfl,g0,a6⟩;have c4:=J (a1.ax a6 (λe=>y e.symm));have j3:=J ((aq.below e0).trans a6);have u3:=a6.size;have a7:=(ah _ V).alloc (ae _) (.cells #[I a.c,I 0,I 0,I 0,I 0,I 0,I 0,I 0,I 0,I 0] 78);have e5:Kp (aa _ V.heap.size 78 #[I a.c,I 0,I 0,I 0,I 0,I 0,I 0,I 0,I 0,I 0]):=aa.new _ _ _;have c5:=J (g0.under a7);have C:=bu c4 a7;have k0:=J (j3.trans (.below a7));clear g0 a6 a7 n3 e9 i2 a1 c4 j3 e0;have v6:a.c≥1:=Ho.c;have u8:0<=(m:Int):=o_
 have u0:(m:Int)<=3:=o_
 have v2:max (m:Int) 0=m:=o_
 have v3:min (m:Int) 3=m:=o_
 have a0:=e5.cell 0;go_wp2_with fail;apply(HW _ _ c5).mono;generalize p5:V.alloc _=W2 at*;rintro e w'⟨rfl,rfl⟩;clear p5 a0;have s:¬V.heap.size=w.heap.size:=o_
 have b:¬V.heap.size=g:=o_
 have d:w.heap.size<=V.heap.size:=o_
 generalize V.heap.size=ga at*;obtain⟨gR,i6⟩:∃gR,gR=w.heap.size:=⟨_,rfl⟩
 have i9:w.heap.size<=gR:=o_
 rw[<-i6]at s C y d⊢;clear i6;go_wp2
 go_loopw [27] (λc6 wr=>∃k:Nat,k<=m/\c6 = N k/\Rs wr g S (kz a k (m-k)++R)/\aa wr ga 78 (aA (mi a k))/\aa wr gR 78 zA/\aq (·=g) w wr) (λc6 wr=>m-(intOf c6).toNat)
 case atStart=>exact⟨0,o_,rfl,c5,e5,C,k0⟩
 .clear c5 e5 C k0;obtain⟨k,hk,rfl,hr,B,a3,ht⟩:=hrel;have n:=J B;have a4:=J a3;have Ht:=J ht;by_cases n5:k<m
  .rw[show m-k=(m-(k+1))+1 by omega,kz]at hr;unfold yt at hr;rw[append_assoc,append_assoc]at hr;have i8:=J (HI _ _ _ hr (Hf.ps k));have a8:=J (λw'(h:aa w' ga 78 (aA (mi a k)))=>G5 h (o_:k<3));have E:=J (λw'(h:aa w' ga 78 (aA (mi a k)))=>G0 h (o_:k<3));clear B a3 ht hr;have t6:=n.lt;have t3:=a4.lt;go_wp2_with fail;apply i8.mono;rintro e H⟨rfl,e6,D⟩;have s8:=e6.lt;have b0:=J (n.ax D b);have b3:=J (a4.ax D (λe=>y e.symm));have h6:=J (Ht.trans D);have o1:=D.size;have g9:=J e6;clear e6 D i8 n a4 Ht;go_upto_region 8 with fail
   have G:=(ah _ H).alloc (ae _) (.cells #[I (ps a k),I (ps a k),I (ps a k)] 75);have i3:Kp (aa _ H.heap.size 75 #[I (ps a k),I (ps a k),I (ps a k)]):=aa.new _ _ _;have j0:=J (g9.under G);have L:=bu b0 G;have b9:=bu b3 G;have g7:=J (h6.trans (.below G));have b4:¬H.heap.size=ga:=o_
   have b8:¬H.heap.size=gR:=o_
   have u:¬H.heap.size=g:=o_
   have b1:Kp (∀W,Rs W g S _->aa W _ _ _->aa W _ _ _->aq _ w W->∃W',W'=((W.setCell _ _).setCell _ _).setCell _ _/\Rs W' g S (kz a (k+1) (m-(k+1))++R)/\aa W' _ _ _/\aa W' _ 78 zA/\aq (·=g) w W'):=(λW q1 q2 q3 q4=>by
    refine⟨_,rfl,?_,a8 W q2,?_,?_⟩
    .exact q1.same (by rw[Below.heap_setCell _ _ _ _ (λe=>b e.symm),Below.heap_setCell _ _ _ _ (λe=>b e.symm),Below.heap_setCell _ _ _ _ (λe=>b e.symm)])
    .exact((q3.aJ (λe=>s e.symm) _).aJ (λe=>s e.symm) _).aJ (λe=>s e.symm) _
    .exact⟨q4.os,q4.tape,q4.output,by have:=q4.size;simpa using this,λi hi hn=>by
      rw[Below.heap_setCell _ _ _ _ (λe=>r_),Below.heap_setCell _ _ _ _ (λe=>r_),Below.heap_setCell _ _ _ _ (λe=>r_)]
      exact q4.block i hi hn⟩)
   clear G g9 b0 b3 h6 a8;generalize H.alloc _=W4 at*;obtain⟨a0,⟨f1,f2,f3⟩,d1,d2,d3⟩:=E _ L;obtain⟨p0,p1,p2,X,Z,a5⟩:=i3.three;have u2:0<=(k:Int):=o_
   have t9:(k:Int)<3:=o_
   generalize H.heap.size=gp at*;by_cases hc:1<a.c
   .have f:=j0.o;rw[if_pos hc,append_assoc]at f;have h9:=J (HI _ _ _ f (Hf.pn k));clear f f1 f2 f3 d1 d2 d3 p0 p1 p2 X Z a5;go_wp2_with fail;apply h9.mono;rintro e w5⟨rfl,h0,T⟩;have h4:=J (HI _ _ _ h0 (Hf.px k));have b7:=J (L.ax T b);have b5:=J (b9.ax T (λe=>y e.symm));have c3:=J (i3.ax T u);have i1:=J (g7.trans T);clear h0 T h9 a0;go_wp2_with fail;apply h4.mono;rintro e w6⟨rfl,h8,O⟩;have h5:=J h8;have a9:=J (b7.ax O b);have b2:=J (b5.ax O (λe=>y e.symm));have U:=J (c3.ax O u);have A:=J (i1.trans O);obtain⟨p0,p1,p2,X,Z,a5⟩:=U.three;clear h8 O h4 b7 b5 c3 i1;go_upto_region 10 with fail
    have j1:=J ((U.set 1 (I (pn a k))).set 2 (I (px a k)));have r:=J ((a9.aJ (p:=(M _ 1)) (λe=>b4 e.symm) (I (pn a k))).aJ (p:=(M _ 2)) (λe=>b4 e.symm) (I (px a k)));have q:=J ((b2.aJ (p:=(M _ 1)) (λe=>b8 e.symm) (I (pn a k))).aJ (p:=(M _ 2)) (λe=>b8 e.symm) (I (px a k)));have a2:Kp (Rs ((w6.setCell (M _ 1) (I (pn a k))).setCell (M _ 2) (I (px a k))) g S _):=h5.same (by rw[Below.heap_setCell _ _ _ _ (λe=>u e.symm),Below.heap_setCell _ _ _ _ (λe=>u e.symm)])
    have e8:Kp (aq _ w ((w6.setCell (M gp 1) (I (pn a k))).setCell (M gp 2) (I (px a k)))):=⟨A.os,A.tape,A.output,by have:=A.size;simpa using this,λi hi hn=>by
     rw[Below.heap_setCell _ _ _ _ (λe=>r_),Below.heap_setCell _ _ _ _ (λe=>r_)]
     exact A.block i hi hn⟩
    obtain⟨W',x,e1,e2,e3,e4⟩:=b1 _ a2 r q e8;clear p0 p1 p2 X Z a5 h5 a9 b2 U A;generalize(w6.setCell _ _).setCell _ _=W7 at*;obtain⟨a0,⟨f1,f2,f3⟩,d1,d2,d3⟩:=E _ r;have i4:aa _ _ _ #[I _,I _,I _]:=j1;obtain⟨p0,p1,p2,X,Z,a5⟩:=i4.three;clear i4;have E1:=J e1;have E2:=J e2;have E3:=J e3;have E4:=J e4;have e7:=J x;clear e1 e2 e3 e4 x;go_wp2;rw[<-e7];exact⟨⟨_,o_,o_,E1,E2,E3,E4⟩,o_⟩
   .have f:=j0.o;rw[if_neg hc,nil_append]at f;obtain⟨W',x,e1,e2,e3,e4⟩:=b1 _ f L b9 g7;obtain⟨q1,q2⟩:=Ho.one k o_ n5 (by omega);rw[<-q1,<-q2]at x;have E1:=J e1;have E2:=J e2;have E3:=J e3;have E4:=J e4;have e7:=J x;clear e1 e2 e3 e4 x q1 q2 f;go_wp2;rw[<-e7];exact⟨⟨_,o_,o_,E1,E2,E3,E4⟩,o_⟩
  .obtain rfl:k=m:=o_
   rw[Nat.sub_self,kz,nil_append]at hr;have Hr:=J hr;rw[i7]at B;have n:=J B;clear B a3 ht hr;obtain⟨d0,d1,d2,d3,d4,d5,d6,d7,d8,d9⟩:=(aa.cr n).1;go_wp2_with fail;apply(HM _).mono;rintro e w7⟨rfl,F⟩;have r:=bu n F;have q:=bu a4 F;have e8:=J (Ht.trans (.below F));have a2:=J (Hr.under F);clear F d0 d1 d2 d3 d4 d5 d6 d7 d8 d9 n Ht Hr;go_wp2_with fail;apply(HW _ _ a2).mono;rintro e w'⟨rfl,rfl⟩;obtain⟨d0,d1,d2,d3,d4,d5,d6,d7,d8,d9⟩:=(aa.cr r).1;obtain⟨⟨r0,r1,r2,r3,r4,r5,r6,r7,r8,r9⟩,f0,f1,f2,f3,f4,f5,f6,f7,f8,f9⟩:=aa.cr q;go_wp2;have j2:=aa.kJ (I a.c) (I a.s0) (I a.n0) (I a.x0) (I a.s1) (I a.n1) (I a.x1) (I a.s2) (I a.n2) (I a.x2) q;clear r0 r1 r2 r3 r4 r5 r6 r7 r8 r9 d0 d1 d2 d3 d4 d5 d6 d7 d8 d9;obtain⟨r0,r1,r2,r3,r4,r5,r6,r7,r8,r9⟩:=(aa.cr j2).1;refine bodyPost_ret (by simp[results,go_sem,r0,r1,r2,r3,r4,r5,r6,r7,r8,r9]) rfl (HQ _ (a2.same ?_) ?_)
   .exact ee y [I _,I _,I _,I _,I _,I _,I _,I _,I _,I _] _ 0
   .exact l9 i9 [I _,I _,I _,I _,I _,I _,I _,I _,I _,I _] _ 0 e8
def I8(g:Nat)(S R:List UInt8)(A:OA)(n c m aj:Nat)(x:Cl)(w:World)(h:Rs w g S (lI (decide (aj+1=n)) m x++R))(hn:1<=n)(O:n<=1000000)(hd:aj<=1000000)(V:1<=m)(hm:m<=3)(hx:x.child<=1048576)(ho:kj (decide (aj+1=n)) m x)(hf:cB x.ag)(hl:S.length<=1000000) :
 Calls prog 260 #[Y g 0,.agg #[U A n c,N m],N aj,I x.key] w (kt g S R (.agg (bH x)) w):=by
 obtain⟨key,child,⟨ac,s0,n0,x0,s1,n1,x1,s2,n2,x2⟩⟩:=x;have b:=(ah _ w).alloc (ae _) (.cells #[U A n c,N m] 43);have M:=b.alloc o_ (.cells zC 155);obtain⟨r,E,d⟩:=j3_ ((aa.new w 43 #[U A n c,N m]).alloc (.cells zC 155)) (aa.lay (w:=w.alloc (.cells #[U A n c,N m] 43)) (g:=w.heap.size+1) (t:=155) (cs:=zC) s_) (h.under M);have D:Kp (aq (·=g) w _):=.below M;have HL:=J (λw=>mD A n c m _ w hn O hd);have u:=h.lt;have a1:g≠w.heap.size+1:=o_;have Z:¬w.heap.size+1=g:=o_;have b3:w.heap.size<=w.heap.size+1:=o_;clear M b;dsimp only at hx hf;by_cases f:aj+1=n
 .rw[decide_eq_true f]at HL ho d;obtain⟨h1,h2⟩:=ho;dsimp only at h1 h2;subst h1;unfold lI at d;rw[if_pos rfl,append_assoc]at d;have y:=J (λw h=>Ga g S R m _ w h V hm h2 hf hl);have HQ:Kp (∀w',Rs _ g S R->aq _ w _->kt g S R (.agg (bH ⟨key,0,⟨ac,s0,n0,x0,s1,n1,x1,s2,n2,x2⟩⟩)) w _ w'):=λw' h1 h2=>⟨rfl,h1,h2⟩;generalize hQ:kt g S R _ w=Q at*;clear hQ h h2 f hn O hd V hm hx hf hl;go_in;obtain⟨W,F,_,_⟩:=r.two;go_wp2_with fail;apply(HL _).mono;clear W F;generalize(w.alloc _).alloc _=W0 at*;rintro e w1⟨rfl,b⟩;have H:=J (d.under b);have u:=bu r b;have s:=bu E b;have L:=J (D.trans (.below b));obtain⟨W,F,_,_⟩:=u.two;clear b d r E D;go_wp2_with fail;apply(y _ H).mono;rintro e w2⟨rfl,z,q⟩;obtain⟨G,T,p⟩:=j3_ z (L.trans q) (s.ax q Z);clear z q W F;obtain⟨dD,f0,f1,f2,f3,f4,f5,f6,f7,f8,f9,c6,b8⟩:=aa.gu p;go_wp2;have B:=dS p [N key,I 0,I ac,I s0,I n0,I x0,I s1,I n1,I x1,I s2,I n2,I x2] rfl;clear dD;obtain⟨r0,r1,r2,r3,r4,r5,X,M,r8,r9,C,y⟩:=(aa.gu B).1;dsimp only[aH,Nat.zero_add,Nat.reduceAdd]at r0 r1 r2 r3 r4 r5 X M r8 r9 C y;refine bodyPost_ret (by simp[results,go_sem,r0,r1,r2,r3,r4,r5,X,M,r8,r9,C,y]) rfl (HQ _ (G.same ?_) ?_)
  .exact ee a1 [N _,I 0,I _,I _,I _,I _,I _,I _,I _,I _,I _,I _] _ 0
  .exact l9 b3 [N _,I 0,I _,I _,I _,I _,I _,I _,I _,I _,I _,I _] _ 0 T
 .rw[decide_eq_false f]at HL ho d;have h1:⟨ac,s0,n0,x0,s1,n1,x1,s2,n2,x2⟩=az:=ho;rw[h1];unfold lI at d;rw[if_neg d_]at d;have HN:=J (λw h=>DT g S R _ _ w h hx o_ hl);have HQ:Kp (∀w',Rs _ g S R->aq _ w _->kt g S R (.agg (bH ⟨key,child,az⟩)) w _ w'):=λw' h1 h2=>⟨rfl,h1,h2⟩;generalize hQ:kt g S R _ w=Q at*;clear hQ h h1 ho f hn O hd V hm hx hf hl;go_in;obtain⟨W,F,_,_⟩:=r.two;go_wp2_with fail;apply(HL _).mono;clear W F;generalize(w.alloc _).alloc _=W0 at*;rintro e w1⟨rfl,b⟩;have H:=J (d.under b);have u:=bu r b;have s:=bu E b;have L:=J (D.trans (.below b));obtain⟨W,F,_,_⟩:=u.two;clear b d r E D;go_wp2_with fail;apply(HN _ H).mono;rintro e w2⟨rfl,z,q⟩;obtain⟨G,T,p⟩:=j3_ z (L.trans q) (s.ax q Z);clear z q W F;obtain⟨dD,f0,f1,f2,f3,f4,f5,f6,f7,f8,f9,c6,b8⟩:=aa.gu p;go_wp2;have B:=dS p [N key,N child,I 0,I 0,I 0,I 0,I 0,I 0,I 0,I 0,I 0,I 0] rfl;clear dD;obtain⟨r0,r1,r2,r3,r4,r5,X,M,r8,r9,C,y⟩:=(aa.gu B).1;dsimp only[aH,Nat.zero_add,Nat.reduceAdd]at r0 r1 r2 r3 r4 r5 X M r8 r9 C y;refine bodyPost_ret (by simp[results,go_sem,az,r0,r1,r2,r3,r4,r5,X,M,r8,r9,C,y]) rfl (HQ _ (G.same ?_) ?_)
  .exact ee a1 [N _,N _,I 0,I 0,I 0,I 0,I 0,I 0,I 0,I 0,I 0,I 0] _ 0
  .exact l9 b3 [N _,N _,I 0,I 0,I 0,I 0,I 0,I 0,I 0,I 0,I 0,I 0] _ 0 T
def sw.len{last:Bool}{m size:Nat}{l:List Cl}(h:sw last m size l):l.length<=size:=by
 have H:∀i(hi:i<l.length),i<=l[i].key:=λi=>by
  induction i with
  |zero=>intro _;exact av _
  |succ i ih=>
   intro hi;have h1:=ih o_;have h2:=h.ja i hi;omega
 obtain h0|h0:=Nat.eq_zero_or_pos l.length
 .omega
 .have h1:=H (l.length-1) o_;have h2:=h.key _ (gM (show l.length-1<l.length by omega));omega
def db.ax{w w':World}{B g:Nat}{v:Value}{ls:List Ll}(h:db w B v ls)(ht:aq (·=g) w w')(hg:g<B):db w' B v ls:=
 ⟨fN h.1 (λk hk=>ht.block k (h.1.lt k hk).2 (λe=>by have:=(h.1.lt k hk).1;omega)),λl hl=>⟨sN (h.2 l hl).1 ht.size (λk hk=>ht.block k (Row.bU (h.2 l hl).1.1 hk) (λe=>by
  obtain⟨hne,off,e'⟩:=hk;have:=(h.2 l hl).2 k off e' hne
  omega)),(h.2 l hl).2⟩⟩
def db.jA{g B:Nat}{v:Value}{ls:List Ll}(hg:g<B):∀(vs:LV)(w:World)(o:Nat),db w B v ls->db (aH w g o vs) B v ls
 | [],_,_,h=>h
 |u::vs,w,o,h=>db.jA hg vs _ _ (h.aJ (p:=(M g o)) hg u)
def Fi(l:List Cl)(j:Nat)(hj:j<l.length):jd l (j+1)=((l[j].key:Nat):Int):=by
 show(((l.getD j jy).key:Nat):Int)=_;rw[getD_eq_getElem?_getD,gE hj];rfl
def vh(g:Nat)(S R:List UInt8)(p:aQ)(w:World)(e:Ending)(w':World):Prop:=∃nd:Nd,e = .returned (.agg (aZ nd))/\aK nd=p/\du w' w'.heap.size nd/\gW w.heap.size nd/\(∀l∈nd.ls,l.cs.length<=l.c)/\Rs w' g S R/\aq (·=g) w w'
def G'(g:Nat)(S R:List UInt8)(A:OA)(c m:Nat)(ys:List Fa)(p:aQ)(w:World)(h:Rs w g S (jv (decide (p.aj+1=ys.length)) m p++R))(hi:cG w g A ys)(hn:ys.length<=16)(hm1:1<=m)(hm:m<=3)(hdim:p.aj<ys.length)
 (ho:im (decide (p.aj+1=ys.length)) (ys[p.aj]'hdim).keys m p)(hch:∀x∈cR p,x.child<=1048576/\cB x.ag)(hl:S.length<=1000000) :
 Calls prog 194 #[Y g 0,.agg #[U A ys.length c,.int .i64 (m:Nat)]] w (vh g S R p w):=by
 obtain⟨i0,ti0,tz0,tz1,tz2⟩:=info_parts o6;obtain⟨j0,si0,sz0,sz1,sz2⟩:=info_parts xm;obtain⟨aj,lists,all⟩:=p;dsimp only at hdim ho h;obtain⟨bx,ox,rfl,hbx,x00⟩:=Row.at_ hi.row (k:=aj) (by rw[lM];exact hdim);rw[getElem_map]at x00;unfold fL at x00;have hX:=hi.each _ (gM hdim);generalize(ys[aj]'hdim)=X at*;have hls:=ho.ls;dsimp only at hls;rw[<-hls]at x00;generalize hlast:decide (aj+1=ys.length)=last at*;have HN:=J (λn most R w h h1 h2=>DT g S R n most w h h1 h2 hl)
 have HCr:=J (λ(x:Cl) R w(h:Rs w g S (lI last m x++R))(hx:x∈cR ⟨aj,lists,all⟩)(hk:kj last m x)=>show Calls prog 260 #[Y g 0,.agg #[U (some ⟨bx,ox,none⟩) ys.length c,.int .i64 (m:Nat)],.int .i64 (aj:Nat),I x.key] w (kt g S R (.agg (bH x)) w)from by
  have:=I8 g S R (some ⟨bx,ox,none⟩) ys.length c m aj x w (by rw[hlast];exact h) o_ o_ o_ hm1 hm (hch x hx).1 (by rw[hlast];exact hk) (hch x hx).2 hl
  exact this)
 have Hsize:=J ho.size;have Heach:=J ho.each;have hn4:=ho.n4;have hkey0:=ho.xw;have Hall:=J ho.all;dsimp only at hn4 hkey0 Hall;have Hls:=J hls;obtain⟨nx,hnx⟩:=e_ ys.length
 obtain⟨lx,hlx⟩:=e_ lists.length
 have Hlx:=J hlx;rw[hnx]at HCr hdim hn⊢;rw[hlx]at x00 hn4;unfold jv at h;dsimp only at h;rw[append_assoc,append_assoc]at h;have hgl:=h.lt;have hb1:=(ah w.heap.size w).alloc (ae _) (.cells #[U (some ⟨bx,ox,none⟩) nx c,.int .i64 (m:Nat)] 43);have hb0:=hb1.alloc hb1.size (.cells zN 157);have HB2:=J ((aa.new w 43 #[U (some ⟨bx,ox,none⟩) nx c,.int .i64 (m:Nat)]).alloc (.cells zN 157));have HB3:=J (aa.lay (w:=w.alloc (.cells #[U (some ⟨bx,ox,none⟩) nx c,.int .i64 (m:Nat)] 43)) (g:=w.heap.size+1) (t:=157) (cs:=zN) s_);have HR0:=J (h.under hb0);have Ht0:Kp (aq (·=g) w ((w.alloc (.cells #[U (some ⟨bx,ox,none⟩) nx c,.int .i64 (m:Nat)] 43)).alloc (.cells zN 157))):=.below hb0;have Hx0:Kp (∀W,aq (·=g) w W->C W bx (ox+aj) (U X.A lx X.c)):=λW ht=>(bF (a:=(M bx (ox+aj))) (ht.block bx o_ (λe=>o_))).trans x00;have HX:Kp (∀W,aq (·=g) w W->Row W g X.A (an X.keys)):=λW ht=>Row.below hX (ht.toBelow (λk e=>o_) o_);have hdm:(aj:Nat)<=nx-1:=o_
 have hnxm:nx-1<=1048576:=o_
 have HI0:=J (HN aj (nx-1) _ _ HR0 hdm hnxm);have hnx1:((nx-1:Nat):Int)=(nx:Int)-1:=o_
 simp only[N]at HI0;rw[hnx1]at HI0;clear h hi hb0 hb1 ho hch hX hlast hnx hlx hls hl x00 HR0;generalize hW0:(w.alloc (.cells #[U (some ⟨bx,ox,none⟩) nx c,.int .i64 (m:Nat)] 43)).alloc (.cells zN 157)=W0 at*;obtain⟨b0,b1,_,_⟩:=HB2.two;have hgS:¬w.heap.size=g:=o_
 have hgR:¬w.heap.size+1=g:=o_
 have hz0:w.heap.size+1<W0.heap.size:=HB3.lt;have hwn:IntKind.i64.wrap ((nx:Int)-1)=(nx:Int)-1:=IntWalk.i64_in _ o_;go_in;go_wp2_with fail;apply HI0.mono;clear hW0 b0 b1;rintro e w1⟨rfl,hr1,ht1⟩;have hgN:w1.heap.size≥W0.heap.size:=ht1.size;have hb2:=(ah w1.heap.size w1).alloc (ae _) (.cells #[.int .i64 (aj:Nat),Z,I 0,I 0,I 0,I 0,I 0,I 0,I 0,I 0,I 0,I 0,I 0,I 0] 157);have HBn:Kp (aa (w1.alloc (.cells #[.int .i64 (aj:Nat),Z,I 0,I 0,I 0,I 0,I 0,I 0,I 0,I 0,I 0,I 0,I 0,I 0] 157)) w1.heap.size 157 #[.int .i64 (aj:Nat),Z,I 0,I 0,I 0,I 0,I 0,I 0,I 0,I 0,I 0,I 0,I 0,I 0]):=aa.new _ _ _;have HBs:=J ((HB2.ax ht1 hgS).under hb2);have HBr:=J ((HB3.ax ht1 hgR).under hb2);have Hr2:=J (hr1.under hb2);have Ht2:=J ((Ht0.trans ht1).trans (.below hb2));clear hr1 ht1 hb2 HB2 HB3 Ht0 HI0;go_upto_region 2 with fail
 generalize hW2:w1.alloc (.cells #[.int .i64 (aj:Nat),Z,I 0,I 0,I 0,I 0,I 0,I 0,I 0,I 0,I 0,I 0,I 0,I 0] 157)=W2 at*;clear hW2;obtain⟨gN,hgNe⟩:∃gN,gN=w1.heap.size:=⟨_,rfl⟩
 rw[<-hgNe]at HBn hgN⊢;clear hgNe;obtain⟨b0,b1,_,_⟩:=HBs.two;have d0:=HBn.cell 0;have x00:=Hx0 _ Ht2;have p0:(0:Int)<=((aj:Nat):Int):=o_
 have p1:((aj:Nat):Int)<((nx:Nat):Int):=o_
 have hgNg:¬gN=g:=o_
 have hgNS:¬gN=w.heap.size:=o_
 have hgNR:¬gN=w.heap.size+1:=o_
 go_wp2_with fail;clear b0 b1 d0 x00
 go_loopw [25] (λv25 wr=>∃(k:Nat)(ls:List Ll)(A1:OA)(c1:Nat),k<=lx/\v25 = .int .i64 (k:Nat)/\ls.length=k/\(ls.map Ll.cs=lists.take k/\∀l∈ls,l.cs.length<=l.c)/\Rs wr g S (lN last m (lists.drop k)++(lI last m all++R))/\aa wr w.heap.size 43 #[U (some ⟨bx,ox,none⟩) nx c,.int .i64 (m:Nat)]/\aa wr (w.heap.size+1) 157 zN/\aa wr gN 157 #[.int .i64 (aj:Nat),U A1 k c1,I 0,I 0,I 0,I 0,I 0,I 0,I 0,I 0,I 0,I 0,I 0,I 0]/\db wr (gN+1) (U A1 k c1) ls/\aq (·=g) w wr) (λv25 wr=>lx-(intOf v25).toNat)
 case atStart=>exact⟨0,[],none,0,av _,rfl,rfl,⟨rfl,λx hx=>(by cases hx)⟩,Hr2,HBs,HBr,HBn,db.nil _ _,Ht2⟩
 .clear Hr2 HBs HBr HBn Ht2;obtain⟨k,ls,A1,c1,hk,rfl,hlk,hlc,hr,hbs,hbr,hbn,hown,ht⟩:=hrel;have Hlk:=J hlk;have Hlc:=J hlc;have Hbs:=J hbs;have Hbr:=J hbr;have Hbn:=J hbn;have Hown:=J hown;have Ht:=J ht;have hgNw:=hbn.lt;have hgw:=hr.lt;clear hlk hlc hbs hbr hbn hown ht;by_cases hlt:k<lx
  .have hkl:k<lists.length:=by rw[Hlx.o];exact hlt
   have hkx:k<X.keys.length:=by rw[<-Hls.o];exact hkl
   rw[drop_eq_getElem_cons hkl,lN,append_assoc,append_assoc]at hr;obtain⟨bk,ok,hXA,hbk,y0⟩:=Row.at_ (HX _ Ht) (k:=k) (by unfold an;rw[lM];exact hkx);have hy:(an X.keys)[k]'(by unfold an;rw[lM];exact hkx) = I ((X.keys[k]:Nat):Int):=by unfold an;rw[getElem_map]
   rw[hy]at y0;have hLs:=Heach k _ _ (gE hkl) (gE hkx);have hys:=Hsize _ (gM hkx);have Htk:Kp (∀l:Ll,l.cs=lists[k]->(ls++[l]).map Ll.cs=lists.take (k+1)):=(λl hl=>by rw[map_append,Hlc.1,take_succ_eq_append_getElem hkl,map_cons,map_nil,hl]);have Hmem:Kp (∀x∈lists[k],x∈cR ⟨aj,lists,all⟩):=λx hx=>mem_append_left _ (mem_flatten.2 ⟨_,gM hkl,hx⟩);generalize lists[k]=l at*;generalize X.keys[k]=y at*;have hll:=hLs.len;have HI3:=J (HN l.length y _ wr hr hll o_);have HLs:=J hLs;obtain⟨nl,hnl⟩:=e_ l.length
   have Hnl:=J hnl;rw[hnl]at HI3 hll;rw[hXA]at*;have hk0:(0:Int)<=(k:Int):=o_
   have hk1:(k:Int)<(lx:Int):=o_
   clear hr hnl hLs hy hkx;go_wp2_with fail;apply HI3.mono;rintro e w3⟨rfl,hr3,ht3⟩;have Hr3:=J hr3;have Hbs3:=J (Hbs.ax ht3 hgS);have Hbr3:=J (Hbr.ax ht3 hgR);have Hbn3:=J (Hbn.ax ht3 hgNg);have Hown3:=J (Hown.ax ht3 (by omega:g<gN+1));have Ht3:=J (Ht.trans ht3);have hz3:wr.heap.size<=w3.heap.size:=ht3.size;clear hr3 ht3 HI3 Hbs Hbr Hbn Hown Ht y0;go_wp2_with fail
   go_loopw [8,9,32] (λv8 v9 v32 wq=>∃(j:Nat)(A8:OA)(c8:Nat),j<=nl/\v32 = .int .i64 (j:Nat)/\v8 = U A8 j c8/\v9 = I (jd l j)/\Rs wq g S (l8 last m (jd l j) (l.drop j)++(lN last m (lists.drop (k+1))++(lI last m all++R)))/\wq.ownsRow w3.heap.size 155 12 (U A8 j c8) j ((l.take j).flatMap ch)/\aq (·=g) w3 wq) (λ_ _ v32 _=>nl-(intOf v32).toNat)
   case atStart=>exact⟨0,none,0,av _,rfl,rfl,rfl,Hr3,cK _ _ _ _,aq.refl _ _⟩
   .obtain⟨j,A8,c8,hj,rfl,rfl,rfl,hr,hown8,ht⟩:=hrel;have Hown8:=J hown8;have Ht8:=J ht;clear hown8 ht;by_cases hjl:j<nl
    .have hjl':j<l.length:=by rw[Hnl.o];exact hjl
     rw[drop_eq_getElem_cons hjl',l8,append_assoc,append_assoc]at hr;have hkey:=HLs.key _ (gM hjl');have hwas : -1<=jd l j/\jd l j<((l[j].key:Nat):Int):=by
      obtain _|j:=j
      .exact⟨Int.le_refl _,by show(-1:Int)<_;omega⟩
      .rw[Fi l j o_];have:=HLs.ja j hjl';exact⟨o_,o_⟩
     have HwN:=J (Fi l j hjl');have hx:=Hmem _ (gM hjl');have hck:=HLs.cell _ (gM hjl');have Htk8:Kp (∀x,x=l[j]->(l.take (j+1)).flatMap ch=(l.take j).flatMap ch++ch x):=(λx hx=>by rw[take_succ_eq_append_getElem hjl',flatMap_append,hx];simp);generalize hxx:l[j]=x at*;generalize jd l j=bJ at*;have HI4:=J (HN (((x.key:Nat):Int)-bJ-1).toNat y _ wr hr o_ o_);have hq:(((((x.key:Nat):Int)-bJ-1).toNat:Nat):Int)=((x.key:Nat):Int)-bJ-1:=o_
     simp only[N]at HI4;rw[hq]at HI4;have hw1:IntKind.i64.wrap (bJ+1)=bJ+1:=IntWalk.i64_in _ o_;have hw2:IntKind.i64.wrap (bJ+1+(((x.key:Nat):Int)-bJ-1))=((x.key:Nat):Int):=by rw[IntWalk.i64_in _ o_];omega
     have HCx:=J (λR w h=>HCr x R w h hx hck);have hgwq:=hr.lt;clear hr hq hx hck hxx hwas hkey;go_wp2_with fail;apply HI4.mono;rintro e w5⟨rfl,hr5,ht5⟩;have HC5:=J (HCx _ _ hr5);have Ht5:=J (Ht8.trans ht5);have Hown5:=J (fN Hown8 (λi hi=>ht5.block i (Hown8.lt i hi).2 (λe=>by have:=(Hown8.lt i hi).1;omega)));obtain⟨b0,b1,_,_⟩:=(Hbs3.ax Ht5 hgS).two;have d0:=(Hbn3.ax Ht5 hgNg).cell 0;clear hr5 ht5 HI4 HCx;go_wp2_with fail;apply HC5.mono;rintro e w6⟨rfl,hr6,ht6⟩;have Hr6:=J hr6;have Ht6:=J (Ht5.trans ht6);have Hown6:=J (fN Hown5 (λi hi=>ht6.block i (Hown5.lt i hi).2 (λe=>by have:=(Hown5.lt i hi).1;omega)));have hj1:j+1<1048576*64:=o_
     clear hr6 ht6 HC5 b0 b1 d0 hw1 hw2 Hown5 Ht5 Hown8 Ht8
     go_wp2_with(at_builtin;apply je rfl (.tmp 40) (.tmp 47) 223 rfl w3.heap.size 155 i0 _ 12 96 underlying223 ti0 tz0 tz1 tz2 rfl d_ w6 (bH x) rfl (sW x) (U A8 j c8) j ((l.take j).flatMap ch) rfl Hown6 rfl hj1 d_ Ht6.size;intro v7 w7 hown7 happ7;obtain⟨A7,c7,h7⟩:=cI hown7;subst h7;have Hown7:=J hown7;have Hap7:=J happ7;clear hown7 happ7)
     refine⟨⟨j+1,A7,c7,o_,by go_num,rfl,by rw[HwN.o],?_,by rw[Htk8 x rfl];exact Hown7,s9 Ht6 Hap7 (λi hi=>(Hown6.lt i hi).1)⟩,by simp[intOf];omega⟩;rw[HwN.o];exact Hr6.same (Hap7.bI Hr6.lt (λe=>by have:=(Hown6.lt g e).1;omega))
    .obtain rfl:j=nl:=o_
     rw[show l.drop j=[] by rw[<-Hnl.o,drop_length],l8,nil_append]at hr;have Hr8:=J hr;have Hown9:=J (show wr.ownsRow w3.heap.size 155 12 (U A8 j c8) j (l.flatMap ch) by have:=Hown8.o;rwa[<-Hnl,take_length,Hnl]at this);have HAp:=J (Ap.new (v:= U A1 k c1) Hown9 (λi hi=>(Hown3.1.lt i hi).2));have HFr:=J (eB.own (B0:=gN+1) Hown9 (by have:=Hbn3.lt;omega));have hfit:=rH Hown9;have Hbs8:=J (Hbs3.ax Ht8 hgS);have Hbr8:=J (Hbr3.ax Ht8 hgR);have Hbn8:=J (Hbn3.ax Ht8 hgNg);have Hown4:=J (Hown3.ax Ht8 (by omega:g<gN+1));have Ht4:=J (Ht3.trans Ht8);have Hown4r:=J (show wr.ownsRow (gN+1) 223 1 (U A1 k c1) k (ls.map dq) by have:=Hown4.1;rw[Hlk.o]at this;exact this);have d1:=Hbn8.cell 1;have f1:=Hbn8.free 1;have hgN8:gN<wr.heap.size:=Hbn8.lt;have hs4:gN+1<=wr.heap.size:=hgN8;have hk2:k<1048576*64:=o_
     clear hr Hown8 Hbs3 Hbr3 Hbn3 Hown3 Ht3
     go_wp2_with(at_builtin;apply iP rfl (.tmp 52) (.tmp 54) 153 rfl (gN+1) 223 j0 (Z) 24 underlying153 si0 sz0 sz1 sz2 rfl wr (U A8 j c8) rfl (U A1 k c1) k (ls.map dq) rfl Hown4r rfl hk2 d_ hs4;intro v6 w6 hown6 happ6;obtain⟨A6,c6,h6⟩:=bY hown6;subst h6;have Hown6:=J hown6;have Hap6:=J happ6;have HB6:Kp (aa w6 gN 157 #[.int .i64 (aj:Nat),U A1 k c1,I 0,I 0,I 0,I 0,I 0,I 0,I 0,I 0,I 0,I 0,I 0,I 0]):=(happ6.bI hgN8 (λe=>by have:=(Hown4r.lt gN e).1;omega)).trans Hbn8;have e1:=HB6.cell 1;have g1:=HB6.free 1;clear hown6 happ6)
     have HL6:=db.app (l:=⟨A8,l,c8⟩) Hown4 HAp HFr (by unfold dq;rw[Hnl.o];exact Hown6) Hap6 Hlk;have Hfar:=λi(h1:i<wr.heap.size)(h2:i<gN+1)(h3:i≠gN)=>(Below.heap_setCell w6 (M gN 1) (U A6 (k+1) c6) i h3).trans (Hap6.bI h1 (λe=>by have:=(Hown4r.lt i e).1;omega))
     refine⟨⟨k+1,ls++[⟨A8,l,c8⟩],A6,c6,o_,by go_num,by rw[aE,Hlk.o];rfl,⟨Htk _ rfl,λx hx=>(mem_append.1 hx).elim (Hlc.2 x) (λe=>by rw[mem_singleton.1 e];dsimp only;rw[Hnl.o];exact hfit)⟩,?_,?_,?_,?_,HL6.aJ s_ _,?_⟩,by simp[intOf];omega⟩
     .exact Hr8.same (Hfar g Hr8.lt o_ o_)
     .exact(Hfar w.heap.size o_ o_ o_).trans Hbs8
     .exact(Hfar (w.heap.size+1) o_ o_ o_).trans Hbr8
     .exact HB6.set 1 (U A6 (k+1) c6)
     .have q:=s9 Ht4 Hap6 (λi hi=>by have:=(Hown4r.lt i hi).1;omega);exact l9 (g:=gN) o_ [U A6 (k+1) c6] w6 1 q
  .obtain rfl:k=lx:=o_
   rw[show lists.drop k=[] by rw[<-Hlx.o,drop_length],lN,nil_append]at hr;have HC:=J (HCr all R wr hr (mem_append_right _ mem_cons_self) Hall);rw[hkey0]at HC;have Hpl:=J (show ls.map Ll.cs=lists by rw[Hlc.1,<-Hlx.o,take_length]);obtain⟨b0,b1,_,_⟩:=Hbs.two;have d0:=Hbn.cell 0;clear hr;go_wp2_with fail;apply HC.mono;rintro e w5⟨rfl,hr5,ht5⟩;have Hr5:=J hr5;have Hbr5:=J (Hbr.ax ht5 hgR);have Hbn5:=J (Hbn.ax ht5 hgNg);have Hown5:=J (Hown.ax ht5 (by omega:g<gN+1));have Ht5:=J (Ht.trans ht5);obtain⟨⟨d0',d1,d2,d3,d4,d5,d6,d7,d8,d9,d10,d11,d12,d13⟩,f0,f1,f2,f3,f4,f5,f6,f7,f8,f9,f10,f11,f12,f13⟩:=aa.bK Hbn5;clear hr5 ht5 HC b0 b1 d0;go_upto_region 16 with fail
   have HBn6:Kp (aa (aH w5 gN 2 [I 0,I all.child,I all.ag.c,I all.ag.s0,I all.ag.n0,I all.ag.x0,I all.ag.s1,I all.ag.n1,I all.ag.x1,I all.ag.s2,I all.ag.n2,I all.ag.x2]) gN 157 #[.int .i64 (aj:Nat),U A1 k c1,I 0,I all.child,I all.ag.c,I all.ag.s0,I all.ag.n0,I all.ag.x0,I all.ag.s1,I all.ag.n1,I all.ag.x1,I all.ag.s2,I all.ag.n2,I all.ag.x2]):=sQ (t:=157) [I 0,I all.child,I all.ag.c,I all.ag.s0,I all.ag.n0,I all.ag.x0,I all.ag.s1,I all.ag.n1,I all.ag.x1,I all.ag.s2,I all.ag.n2,I all.ag.x2] w5 [.int .i64 (aj:Nat),U A1 k c1] [I 0,I 0,I 0,I 0,I 0,I 0,I 0,I 0,I 0,I 0,I 0,I 0] Hbn5 rfl;have HBr6:Kp (aa (aH w5 gN 2 [I 0,I all.child,I all.ag.c,I all.ag.s0,I all.ag.n0,I all.ag.x0,I all.ag.s1,I all.ag.n1,I all.ag.x1,I all.ag.s2,I all.ag.n2,I all.ag.x2]) (w.heap.size+1) 157 zN):=(ee (λe=>hgNR e.symm) _ _ _).trans Hbr5;have Hr6:Kp (Rs (aH w5 gN 2 [I 0,I all.child,I all.ag.c,I all.ag.s0,I all.ag.n0,I all.ag.x0,I all.ag.s1,I all.ag.n1,I all.ag.x1,I all.ag.s2,I all.ag.n2,I all.ag.x2]) g S R):=Hr5.same (ee (λe=>hgNg e.symm) _ _ _);have Hown6:Kp (db (aH w5 gN 2 [I 0,I all.child,I all.ag.c,I all.ag.s0,I all.ag.n0,I all.ag.x0,I all.ag.s1,I all.ag.n1,I all.ag.x1,I all.ag.s2,I all.ag.n2,I all.ag.x2]) (gN+1) (U A1 k c1) ls):=db.jA o_ _ _ _ Hown5;have Ht6:Kp (aq (·=g) w (aH w5 gN 2 [I 0,I all.child,I all.ag.c,I all.ag.s0,I all.ag.n0,I all.ag.x0,I all.ag.s1,I all.ag.n1,I all.ag.x1,I all.ag.s2,I all.ag.n2,I all.ag.x2])):=l9 o_ _ _ _ Ht5;clear d0' d1 d2 d3 d4 d5 d6 d7 d8 d9 d10 d11 d12 d13 f0 f1 f2 f3 f4 f5 f6 f7 f8 f9 f10 f11 f12 f13 Hr5 Hbr5 Hbn5 Hown5 Ht5;obtain⟨W6,hW6⟩:=e_ (aH w5 gN 2 [.int .i64 0,.int .i64 all.child,.int .i64 all.ag.c,.int .i64 all.ag.s0,.int .i64 all.ag.n0,.int .i64 all.ag.x0,.int .i64 all.ag.s1,.int .i64 all.ag.n1,.int .i64 all.ag.x1,.int .i64 all.ag.s2,.int .i64 all.ag.n2,.int .i64 all.ag.x2])
   rw[hW6]at HBn6 HBr6 Hr6 Hown6 Ht6;simp only[aH,Nat.reduceAdd]at hW6;rw[hW6];clear hW6
   have HQ:Kp (∀W',Rs W' g S R->db W' (gN+1) (U A1 k c1) ls->aq (·=g) w W'->vh g S R ⟨aj,lists,all⟩ w (.returned (.agg #[.int .i64 (aj:Nat),U A1 k c1,I 0,I all.child,I all.ag.c,I all.ag.s0,I all.ag.n0,I all.ag.x0,I all.ag.s1,I all.ag.n1,I all.ag.x1,I all.ag.s2,I all.ag.n2,I all.ag.x2])) W'):=(λW' q1 q2 q3=>by
    refine⟨⟨aj,A1,ls,c1,all⟩,?_,?_,?_,?_,Hlc.2,q1,q3⟩
    .unfold aZ;dsimp only;rw[Hlk.o,hkey0];rfl
    .unfold aK;dsimp only;rw[Hpl.o]
    .exact⟨q2.at_.1,q2.at_.2⟩
    .exact(q2.base o_).from_)
   obtain⟨d0,d1,d2,d3,d4,d5,d6,d7,d8,d9,d10,d11,d12,d13⟩:=(aa.bK HBn6).1;obtain⟨⟨q0,q1,q2,q3,q4,q5,q6,q7,q8,q9,q10,q11,q12,q13⟩,f0,f1,f2,f3,f4,f5,f6,f7,f8,f9,f10,f11,f12,f13⟩:=aa.bK HBr6;generalize hQ:vh g S R ⟨aj,lists,all⟩ w=Q at*;clear hQ;go_wp2_with fail;have hfin:=dS HBr6 [.int .i64 (aj:Nat),U A1 k c1,I 0,I all.child,I all.ag.c,I all.ag.s0,I all.ag.n0,I all.ag.x0,I all.ag.s1,I all.ag.n1,I all.ag.x1,I all.ag.s2,I all.ag.n2,I all.ag.x2] rfl;clear q0 q1 q2 q3 q4 q5 q6 q7 q8 q9 q10 q11 q12 q13 d0 d1 d2 d3 d4 d5 d6 d7 d8 d9 d10 d11 d12 d13;obtain⟨q0,q1,q2,q3,q4,q5,q6,q7,q8,q9,q10,q11,q12,q13⟩:=(aa.bK hfin).1;dsimp only[aH,Nat.zero_add,Nat.reduceAdd]at q0 q1 q2 q3 q4 q5 q6 q7 q8 q9 q10 q11 q12 q13;refine bodyPost_ret (v:= .agg #[.int .i64 (aj:Nat),U A1 k c1,I 0,I all.child,I all.ag.c,I all.ag.s0,I all.ag.n0,I all.ag.x0,I all.ag.s1,I all.ag.n1,I all.ag.x1,I all.ag.s2,I all.ag.n2,I all.ag.x2]) (by simp[results,results194,go_sem,q0,q1,q2,q3,q4,q5,q6,q7,q8,q9,q10,q11,q12,q13]) rfl (HQ _ (Hr6.same ?_) ?_ ?_)
   .exact ee (λe=>hgR e.symm) [.int .i64 (aj:Nat),U A1 k c1,I 0,I all.child,I all.ag.c,I all.ag.s0,I all.ag.n0,I all.ag.x0,I all.ag.s1,I all.ag.n1,I all.ag.x1,I all.ag.s2,I all.ag.n2,I all.ag.x2] W6 0
   .exact db.jA o_ [.int .i64 (aj:Nat),U A1 k c1,I 0,I all.child,I all.ag.c,I all.ag.s0,I all.ag.n0,I all.ag.x0,I all.ag.s1,I all.ag.n1,I all.ag.x1,I all.ag.s2,I all.ag.n2,I all.ag.x2] W6 0 Hown6
   .exact l9 o_ [.int .i64 (aj:Nat),U A1 k c1,I 0,I all.child,I all.ag.c,I all.ag.s0,I all.ag.n0,I all.ag.x0,I all.ag.s1,I all.ag.n1,I all.ag.x1,I all.ag.s2,I all.ag.n2,I all.ag.x2] W6 0 Ht6
end Tc
namespace Tc
open List Go.RowKit Base Crc Go.Proofs.YtibjlpkpljnicaaGreatDoor.Nm Tk Plain Go.Proofs.Tryz
def GZ(gr b g:Nat)(w:World)(c0:C w gr 0 (Y g 0))(c2:C w g 2 (.bool true))(d:w.frozen? (M g 2)=false) :
 CallsD prog 256 #[Y gr 0,Y b 0] .returning w λe c w'=>e = .returned (.tuple #[])/\c = .returning/\w'=w.setCell (M g 2) (.bool false):=by
 refine callsD_of_wpS func256 rfl λm cs f=> ?_;show Code.wpS _ _ _ { tmps:=#[Y gr 0,Y b 0,undef,undef,undef,undef,undef,undef,undef,undef,undef,undef,undef,undef,undef,undef],defers:=[] } _ _;apply wpS_seq;apply wpS_region;simp[wpOpsS,go_sem,Exit.thenS,c0,c2,d];apply wpS_seq;apply wpS_region;simp[wpOpsS,go_sem,recoverD,f,Exit.thenS];apply wpS_of_wp;generalize w.setCell _ _=W;go_wp2;refine⟨rfl,_,?_,_,by simp[results],rfl,rfl,rfl⟩;cases m;simp_all
structure gy(p:aQ)(gn:Nat)(n0:Nat)(w':World)(nd:Nd):Prop where
 plain:aK nd=p
 box:aa w' gn 157 #[I nd.aj,U nd.A nd.ls.length nd.c,I nd.all.key,I nd.all.child,I nd.all.ag.c,I nd.all.ag.s0,I nd.all.ag.n0,I nd.all.ag.x0,I nd.all.ag.s1,I nd.all.ag.n1,I nd.all.ag.x1,I nd.all.ag.s2,I nd.all.ag.n2,I nd.all.ag.x2]
 at_:du w' w'.heap.size nd
 from_:gW n0 nd
 fits:∀l∈nd.ls,l.cs.length<=l.c
def gy.aJ{p:aQ}{gn n0:Nat}{w:World}{nd:Nd}(h:gy p gn n0 w nd){q:Addr}(s:q.block<n0)(b:q.block≠gn)(v:Value):gy p gn n0 (w.setCell q v) nd:=by
 have f:(w.setCell q v).heap.size=w.heap.size:=s_;have c:∀{A:OA}{d:LV},Row w _ A d->eB n0 A d->Row _ (w.setCell q v).heap.size A d:=λr n=>by
  rw[f];exact fO r λk hk=>Below.heap_setCell w q v k (λe=>by
   obtain⟨b,off,m⟩:=hk;have:=n k _ m b;omega)
 exact⟨h.plain,h.box.aJ (λe=>b e.symm) v,⟨c h.at_.row h.from_.1,λl g=>c (h.at_.each l g) (h.from_.2 l g)⟩,h.from_,h.fits⟩
def gy.jA{p:aQ}{gn n0 g:Nat}{nd:Nd}(d:g<n0)(b:g≠gn):∀(c:LV)(w:World)(o:Nat),gy p gn n0 w nd->gy p gn n0 (aH w g o c) nd
 | [],_,_,h=>h
 |v::c,_,o,h=>gy.jA d b c _ _ (h.aJ (q:=(M g o)) d b v)
def gy.below{p:aQ}{gn n0:Nat}{w w':World}{nd:Nd}(h:gy p gn n0 w nd)(b:E w w'):gy p gn n0 w' nd:=⟨h.plain,h.box.under b,(h.at_.below b).more b.size,h.from_,h.fits⟩
def gy.less{p:aQ}{gn n0 n1:Nat}{w:World}{nd:Nd}(h:gy p gn n0 w nd)(b:n1<=n0):gy p gn n1 w nd:=⟨h.plain,h.box,h.at_,⟨h.from_.1.less b,λl c=>(h.from_.2 l c).less b⟩,h.fits⟩
structure sD(S:List UInt8)(g:Nat)(A:OA)(m:Nat)(ys:List Fa)(p:aQ)(w:World):Prop where
 shape:cG w g A ys
 n16:ys.length<=16
 m1:1<=m
 m3:m<=3
 ok:∃hdim:p.aj<ys.length,im (decide (p.aj+1=ys.length)) (ys[p.aj]'hdim).keys m p
 cells:∀x∈cR p,x.child<=1048576/\cB x.ag
 len:S.length<=900000
def Il(g D gn:Nat)(S R:List UInt8)(A:OA)(c m:Nat)(ys:List Fa)(p:aQ)(w:World)(h:Rs w g S (jv (decide (p.aj+1=ys.length)) m p++R))(f:sD S g A m ys p w)(hx:aa w D 43 #[U A ys.length c,N m])(T:aa w gn 157 zN)(V:D<g)(B:gn<g) :
 Calls prog 193 #[Y g 0,Y D 0,Y gn 0] w λe w'=>e = .returned (.tuple #[])/\(∃nd,gy p gn w.heap.size w' nd)/\Rs w' g S R/\aq (λk=>k=g\/k=gn) w w':=by
 obtain⟨s,q⟩:=f.ok;have O:=J (G' g S R A c m _ p w h f.shape f.n16 f.m1 f.m3 s q f.cells (by have:=f.len;omega));obtain⟨x0,x1,_,_⟩:=hx.two;have W:=J T;have v:=h.lt;clear h f hx T q;go_in;go_wp2_with fail;apply O.mono;rintro e d⟨nd,rfl,h1,h2,F,M,E,u⟩;obtain⟨r,H1,L,C,Z,y,H6⟩:=j7_ (W.ax u (λe=>o_)) h1 h2 F M E u;obtain⟨z,z,z,z,z,z,z,z,z,z,z,X,z,z,z⟩:=aa.bK r;clear h1 h2 F M E u x0 x1 O;unfold aZ;go_wp2;go_end0;have G:=Nat.lt_trans B v;have z:=nH gn [I nd.aj,U nd.A nd.ls.length nd.c,I nd.all.key,I nd.all.child,I nd.all.ag.c,I nd.all.ag.s0,I nd.all.ag.n0,I nd.all.ag.x0,I nd.all.ag.s1,I nd.all.ag.n1,I nd.all.ag.x1,I nd.all.ag.s2,I nd.all.ag.n2,I nd.all.ag.x2] d 0;have b:∀k,k≠gn->(aH d _ 0 [I nd.aj,U nd.A nd.ls.length nd.c,I nd.all.key,I nd.all.child,I nd.all.ag.c,I nd.all.ag.s0,I nd.all.ag.n0,I nd.all.ag.x0,I nd.all.ag.s1,I nd.all.ag.n1,I nd.all.ag.x1,I nd.all.ag.s2,I nd.all.ag.n2,I nd.all.ag.x2]).heap[k]? = d.heap[k]?:= λk hk=>ee hk _ _ _;refine⟨rfl,⟨_,H1,dS r [I _,U _ _ _,I _,I _,I _,I _,I _,I _,I _,I _,I _,I _,I _,I _] rfl,?_,C,Z⟩,y.same (b g o_),(H6.more (λk e=> .inl e)).trans (yY (.inr rfl) [I _,U _ _ _,I _,I _,I _,I _,I _,I _,I _,I _,I _,I _,I _,I _] d 0 (aq.refl _ _))⟩;have n:∀{A:OA}{x:LV},Row d _ A x->eB w.heap.size A x->Row _ (aH d _ 0 _).heap.size A x:=λZ u=>by
  rw[z];exact fO Z λk hk=>b k (λe=>by
   obtain⟨y,off,z⟩:=hk;have:=u k _ z y;omega)
 exact⟨n L.row C.1,λl H=>n (L.each l H) (C.2 l H)⟩
def Im:∀(args:AV)(w:World),(callFunc 193 args).run prog w = .ok (.enter 193 args) w:=by
 simp
def Gc(C gn:Nat)(S:List UInt8)(A:OA)(c m:Nat)(ys:List Fa)(p:aQ)(w:World)(hS:S=jv (decide (p.aj+1=ys.length)) m p)(r:sD S w.heap.size A m ys p w)(hx:aa w C 43 #[U A ys.length c,N m])(hn:aa w gn 157 zN) :
 Calls prog 192 #[T (str S),.func (.func 193) #[] #[Y C 0,Y gn 0]] w λe w'=>e = .returned (I 0)/\(∃nd,gy p gn w.heap.size w' nd)/\aq (·=gn) w w':=by
 have u:=Im;have u:=hx.lt;have u:=hn.lt;have d:Kp (E w (((w.alloc (.cells #[I 0] 49)).alloc (.cells #[T (str S),I 0,.bool true] 374)).alloc (.cells #[Y (w.heap.size+1) 0] 312))):=(by repeat(first|exact ah _ _|assumption|refine Below.drew ?_|(refine Below.alloc ?_ o_ _)|(refine Below.setCell ?_ o_ _)));have u:Kp (Rd (((w.alloc (.cells #[I 0] 49)).alloc (.cells #[T _,I 0,.bool _] _)).alloc (.cells #[Y (w.heap.size+1) 0] 312)) (w.heap.size+1) S 0):=(aa.lay s_).alloc _;have D:Kp (aa (((w.alloc _).alloc (.cells #[T (str S),I 0,.bool true] 374)).alloc (.cells #[Y (w.heap.size+1) 0] 312)) _ 49 #[I 0]):=((aa.lay rfl).alloc _).alloc _;have V3:Kp (aa (((w.alloc (.cells #[I 0] 49)).alloc (.cells #[T (str S),I 0,.bool true] 374)).alloc _) (w.heap.size+1+1) 312 #[Y (w.heap.size+1) 0]):=aa.lay s_;have y:=J (Il _ C _ S [] A c m _ p _ ⟨0,u,o_,o_⟩ ⟨(r.shape.below d.out).more o_,r.n16,r.m1,r.m3,r.ok,r.cells,r.len⟩ (hx.under d.out) (hn.under d.out) o_ o_);have O:=J (show S.length<=1000000 by have:=r.len;omega);clear hx hn r hS;have HQ:Kp (∀w',(∃nd,gy p _ _ _ _)->aq _ w _->(λ(e:Ending) w'=>e = .returned (I 0)/\(∃nd,gy p gn w.heap.size w' nd)/\aq (·=gn) w w') _ w'):=λw' h1 h2=>⟨rfl,h1,h2⟩;generalize u:(λ(e:Ending) w'=>e = .returned _/\(∃nd,gy p _ _ _ _)/\aq _ w _)=Q at*;clear u;go_enter_defers func192,ntmps192;go_wp2_with fail;generalize(((w.alloc _).alloc _).alloc _)=Z at*;apply y.mono;rintro e v⟨rfl,b,z,s⟩;have G:=V3.ax s o_;have L:=D.ax s o_;obtain⟨u,R,W,D,V⟩:=j5_ z b L G s;obtain⟨c0,f0⟩:=G.one;clear s z b G L y;have y:((0:Int) == 0)=true:=rfl;have H:=J (λn=>show Calls _ _ _ _ λe w'=>e = .returned (I 0)/\∃y,w'=(v.drewN n).drewN y from ON _ S [] _ u O);have O:=J (λn=>Eh _ S _ 3 (v.drewN n) u);go_wp2;go_quiet (first
  |(go_at_call 258;exact Calls.quiet_of (H _))
  |(go_at_call 257;exact rO (O _)))
 have y:=W.drewN nq;have X:=J (D.drewN nq);have F:Kp (Rs (v.drewN nq) _ S _):=u;have g:=J (V.drewN nq);obtain⟨nd,b⟩:=R;have B:Kp (gy p _ _ (v.drewN nq) _):=⟨b.plain,b.box,⟨b.at_.row,b.at_.each⟩,b.from_,b.fits⟩;have L:=J y;obtain⟨V,O⟩:=y.one;clear y c0 f0 b;generalize v.drewN _=z at*;obtain⟨u,G,_,_⟩:=F;have u:=V3.lt;have u:=L.set 0 (I 0);have y:=X.aJ (p:=(M w.heap.size 0)) o_ (I 0);have Z:=aa.aJ G (p:=(M w.heap.size 0)) s_ (I 0);have D:=u.aJ (p:=(M (w.heap.size+1) 2)) s_ (.bool false);have x:((z.setCell (M _ 0) _).setCell _ _).cell? _=some (I 0):=D.cell 0;have G:=J (HQ ((z.setCell (M w.heap.size 0) (I 0)).setCell (M (w.heap.size+1) 2) (.bool false)) ⟨_,((B.aJ o_ o_ _).aJ o_ o_ _).less o_⟩ (by
  refine⟨g.os.trans d.out.os,g.tape.trans d.out.tape,g.output.trans d.out.output,by have:=g.size;simp;omega,λk hk z=> ?_⟩;rw[Below.heap_setCell _ _ _ _ o_,Below.heap_setCell _ _ _ _ o_,g.block k o_ o_];exact d.out.block k hk))
 go_wp2;apply leaves_cons (f:=256) (args:=#[Y _ 0,Y _ 0]) s_ o_;apply(GZ _ _ _ _ (y.cell 0) (Z.cell 2) (Z.free 2)).mono;rintro e z z⟨rfl,rfl,rfl⟩;clear y Z u D V O;simp[Leaves,settle,results,go_sem,x];exact G
def AU(s:ByteArray)(n:Nat)(R:List UInt8)(w:World)(hs:bl s=bX n++R)(hn:n<=1048576)(hl:s.size<=1000000) :
 Calls prog 117 #[T s] w (R_ (.tuple #[.int .i64 ((n+aM n:Nat):Int),.int .i64 0]) w):=by
 have HT:=J (rX s n (aM n) w hl (by rw[show s.data.toList=bl s from rfl,hs];exact tS n R o_));have hz:=j7 n;have h1:¬(1048576:Int)<(n:Int):=o_
 have hw:IntKind.i64.wrap (n:Int)=(n:Int):=IntWalk.i64_in _ o_;have hw2:IntKind.i64.wrap ((n:Int)+(aM n:Int))=((n+aM n:Nat):Int):=by rw[IntWalk.i64_in _ o_];omega
 clear hs;generalize hN:n+aM n=N at*;clear hN;generalize aM n=z at*;go_in;go_wp2_with fail;apply HT.mono;rintro e w1⟨rfl,hb1⟩;go_wp2_with fail;go_ret2;exact⟨rfl,hb1⟩
def vo(p:aQ)(N:Nat)(w:World)(e:Ending)(w':World):Prop:=∃nd:Nd,e = .returned (.tuple #[.agg (aZ nd),.int .i64 (N:Nat),I 0])/\aK nd=p/\du w' w'.heap.size nd/\gW w.heap.size nd/\(∀l∈nd.ls,l.cs.length<=l.c)/\E w w'
def Iw(S:List UInt8)(A:OA)(c m:Nat)(ys:List Fa)(p:aQ)(w:World)(hS:S=jv (decide (p.aj+1=ys.length)) m p)(ho:sD S w.heap.size A m ys p w)(hx1:1<=ys.length) :
 Calls prog 118 #[.agg #[U A ys.length c,.int .i64 (m:Nat)],T (str (bX S.length++S))] w (vo p (S.length+aM S.length) w):=by
 have hz:=j7 S.length;have hSl:=ho.len;have hsz:(str (bX S.length++S)).size=S.length+aM S.length:=by rw[dR,aE,j6];omega
 have HSz:=J (λw=>AU (str (bX S.length++S)) S.length S w rfl o_ (by rw[hsz];omega));have HNt:=J (λw=>rX (str (bX S.length++S)) S.length (aM S.length) w (by rw[hsz];omega) (tS S.length S o_));have hcut:∀W,(Instr.slice 9 (T (str (bX S.length++S))) (some (I (aM S.length:Nat))) (some (I ((S.length+aM S.length:Nat):Int))) none).run prog W = .ok (T (str S)) W:=λW=>by
  have:=Txt.B8 (bX S.length++S) (aM S.length) (S.length+aM S.length) (aM S.length:Nat) ((S.length+aM S.length:Nat):Int) rfl rfl o_ (by rw[aE,j6];omega) W;rw[drop_left' (j6 _),Nat.add_sub_cancel,take_length]at this;exact this
 have hmf:∀(fn:Fn)(first cap:AV)(w:World),(Instr.makeFunc fn first cap).run prog w = .ok (.func fn first cap) w:=λ_ _ _ _=>rfl
 obtain⟨hdim,hok⟩:=ho.ok;have Hsh:=J ho.shape;have HAll:=J (λgx gn(W:World)(hb:E w W) hx hn=>Gc gx gn S A c m ys p W hS ⟨(ho.shape.below hb).more hb.size,ho.n16,ho.m1,ho.m3,ho.ok,ho.cells,ho.len⟩ hx hn)
 have HCk:=J (λ(nd:Nd)(W:World)(hb:E w W)(hp:aK nd=p)(hr:du W W.heap.size nd)=>show Calls prog 150 #[.agg #[U A ys.length c,.int .i64 (m:Nat)],.agg (aZ nd)] W (R_ (.int .i64 0) W) by
  subst hp
  exact tP A c m ys nd W ((ho.shape.below hb).more hb.size) hr ho.n16 ho.m1 ho.m3 hdim hok)
 have hb1:=(ah w.heap.size w).alloc (ae _) (.cells #[U A ys.length c,.int .i64 (m:Nat)] 43);have hb0:=hb1.alloc hb1.size (.cells zN 157);have HB2:=J ((aa.new w 43 #[U A ys.length c,.int .i64 (m:Nat)]).alloc (.cells zN 157));have HB3:=J (aa.lay (w:=w.alloc (.cells #[U A ys.length c,.int .i64 (m:Nat)] 43)) (g:=w.heap.size+1) (t:=157) (cs:=zN) s_);have Hb0:=J hb0;have hq1:((ys.length:Int) == 0)=false:=by rw[beq_eq_false_iff_ne];omega
 have hNs:¬((str (bX S.length++S)).size:Int)<((S.length+aM S.length:Nat):Int):=by rw[hsz];exact Int.lt_irrefl _
 have hNs2:decide ((str (bX S.length++S)).size<S.length+aM S.length)=false:=decide_eq_false o_;have HQ:Kp (∀(nd:Nd) w',aK nd=p->du w' w'.heap.size nd->gW w.heap.size nd->(∀l∈nd.ls,l.cs.length<=l.c)->E w w'->vo p (S.length+aM S.length) w (.returned (.tuple #[.agg #[I nd.aj,U nd.A nd.ls.length nd.c,I nd.all.key,I nd.all.child,I nd.all.ag.c,I nd.all.ag.s0,I nd.all.ag.n0,I nd.all.ag.x0,I nd.all.ag.s1,I nd.all.ag.n1,I nd.all.ag.x1,I nd.all.ag.s2,I nd.all.ag.n2,I nd.all.ag.x2],I ((S.length+aM S.length:Nat):Int),I 0])) w'):=λnd w' h1 h2 h3 h4 h5=>⟨nd,rfl,h1,h2,h3,h4,h5⟩;generalize hQ:vo p (S.length+aM S.length) w=Q at*;clear hQ hb0 hb1 hS ho hok hdim hSl;generalize S.length+aM S.length=N at*;generalize str (bX S.length++S)=s at*;generalize S.length=L at*;generalize aM L=z at*;obtain⟨nx,hnx⟩:=e_ ys.length
 rw[hnx]at HB2 HB3 Hb0 hq1 HCk HAll⊢;clear hnx;generalize hW0:(w.alloc (.cells #[U A nx c,.int .i64 (m:Nat)] 43)).alloc (.cells zN 157)=W0 at*;have hz0:w.heap.size+1<W0.heap.size:=HB3.lt;go_in;go_wp2_with fail;apply(HSz _).mono;clear hW0;rintro e w1⟨rfl,hb1⟩;have Hb1:=ay Hb0 hb1;have HB21:=bu HB2 hb1;have HB31:=bu HB3 hb1;have hz1:W0.heap.size<=w1.heap.size:=hb1.size;obtain⟨x0,x1,_,_⟩:=HB21.two;have hb2:=(ah w1.heap.size w1).alloc (ae _) (.cells zN 157);have HBn:Kp (aa (w1.alloc (.cells zN 157)) w1.heap.size 157 zN):=aa.new _ _ _;have HB22:=bu HB21 hb2;have HB32:=bu HB31 hb2;have Hb2:=ay Hb1 hb2;clear hb1 HB2 HB3 Hb0 hb2 HB21 HB31 Hb1;go_upto_region 5 with fail
 clear x0 x1;generalize hW2:w1.alloc (.cells zN 157)=W2 at*;clear hW2;generalize w1.heap.size=gn at*;go_wp2_with fail;apply(HNt _).mono;rintro e w3⟨rfl,hb3⟩;have HBn3:=bu HBn hb3;have HB23:=bu HB22 hb3;have HB33:=bu HB32 hb3;have Hb3:=ay Hb2 hb3;clear hb3 HBn HB22 HB32 Hb2;have hz33:=HB33.lt;have HA:=J (HAll w.heap.size gn w3 Hb3 HB23 HBn3);go_wp2_with fail;apply HA.mono;rintro e w4⟨rfl,⟨nd,hnd⟩,ht4⟩;have Hnd:=J hnd;have HB24:=J (HB23.ax ht4 (λe=>o_));have HB34:=J (HB33.ax ht4 (λe=>o_));have Hb4:=J (Hb3.trans (ht4.toBelow (λk e=>o_) (by have:=Hb3.size;omega)));have HC4:=J (HCk nd w4 Hb4 hnd.plain hnd.at_);have hz3:=Hb3.size;have hz4:=Hb4.size;obtain⟨x0,x1,_,_⟩:=HB24.two;have dD:=(aa.bK hnd.box).1;clear hnd ht4 HA HB23 HB33 HBn3;unfold aZ at HC4;go_wp2_with fail;apply HC4.mono;rintro e w5⟨rfl,hb5⟩;have Hnd5:=J (Hnd.below hb5);have HB35:=bu HB34 hb5;have Hb5:=ay Hb4 hb5;clear hb5 x0 x1 dD HB24 HB34 HC4;have dD:=(aa.bK Hnd5.box).1;obtain⟨⟨q0,q1,q2,q3,q4,q5,q6,q7,q8,q9,q10,q11,q12,q13⟩,f0,f1,f2,f3,f4,f5,f6,f7,f8,f9,f10,f11,f12,f13⟩:=aa.bK HB35;go_wp2_with fail;have hfin:=dS HB35 [I nd.aj,U nd.A nd.ls.length nd.c,I nd.all.key,I nd.all.child,I nd.all.ag.c,I nd.all.ag.s0,I nd.all.ag.n0,I nd.all.ag.x0,I nd.all.ag.s1,I nd.all.ag.n1,I nd.all.ag.x1,I nd.all.ag.s2,I nd.all.ag.n2,I nd.all.ag.x2] rfl;clear q0 q1 q2 q3 q4 q5 q6 q7 q8 q9 q10 q11 q12 q13 dD;obtain⟨q0,q1,q2,q3,q4,q5,q6,q7,q8,q9,q10,q11,q12,q13⟩:=(aa.bK hfin).1;dsimp only[aH,Nat.zero_add,Nat.reduceAdd]at q0 q1 q2 q3 q4 q5 q6 q7 q8 q9 q10 q11 q12 q13;have hN6:=gy.jA (g:=w.heap.size+1) o_ o_ [I nd.aj,U nd.A nd.ls.length nd.c,I nd.all.key,I nd.all.child,I nd.all.ag.c,I nd.all.ag.s0,I nd.all.ag.n0,I nd.all.ag.x0,I nd.all.ag.s1,I nd.all.ag.n1,I nd.all.ag.x1,I nd.all.ag.s2,I nd.all.ag.n2,I nd.all.ag.x2] w5 0 Hnd5;refine bodyPost_ret (v:= .tuple #[.agg #[I nd.aj,U nd.A nd.ls.length nd.c,I nd.all.key,I nd.all.child,I nd.all.ag.c,I nd.all.ag.s0,I nd.all.ag.n0,I nd.all.ag.x0,I nd.all.ag.s1,I nd.all.ag.n1,I nd.all.ag.x1,I nd.all.ag.s2,I nd.all.ag.n2,I nd.all.ag.x2],.int .i64 (N:Nat),I 0]) (by simp[results,results118,go_sem,q0,q1,q2,q3,q4,q5,q6,q7,q8,q9,q10,q11,q12,q13]) rfl (HQ nd _ Hnd.plain hN6.at_ (hN6.less o_).from_ hN6.fits (fq o_ [I nd.aj,U nd.A nd.ls.length nd.c,I nd.all.key,I nd.all.child,I nd.all.ag.c,I nd.all.ag.s0,I nd.all.ag.n0,I nd.all.ag.x0,I nd.all.ag.s1,I nd.all.ag.n1,I nd.all.ag.x1,I nd.all.ag.s2,I nd.all.ag.n2,I nd.all.ag.x2] w5 0 Hb5))
end Tc
end Go.Proofs.YtibjlpkpljnicaaGreatDoor
