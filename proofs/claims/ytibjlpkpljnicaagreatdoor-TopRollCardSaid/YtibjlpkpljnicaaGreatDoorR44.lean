/- Parts. -/
import Derived.Test.YtibjlpkpljnicaaGreatDoorR26
import Derived.Test.YtibjlpkpljnicaaGreatDoorR43
import Derived.Defers
import Derived.Recover
import Derived.Laws.Pointers
set_option maxRecDepth 100000
set_option maxHeartbeats 8000000
set_option linter.all false
namespace Go.Proofs.YtibjlpkpljnicaaGreatDoor
namespace Tc
open List Go.RowKit Base Crc Go.Proofs.YtibjlpkpljnicaaGreatDoor.Nm Tk Go.Proofs.Tryz
def mi(a:Ag)(k:Nat):Ag:=⟨a.c,if 0<k then a.s0 else 0,if 0<k then a.n0 else 0,if 0<k then a.x0 else 0,if 1<k then a.s1 else 0,if 1<k then a.n1 else 0,if 1<k then a.x1 else 0,if 2<k then a.s2 else 0,if 2<k then a.n2 else 0,if 2<k then a.x2 else 0⟩
def FZ{m:Nat}{a:Ag}(h:eS m a)(h1:1<=m)(r:m<=3):mi a m=a:=by
 have q:=h.none 1 o_;have n:=h.none 2 o_;obtain⟨c,s0,n0,x0,s1,n1,x1,s2,n2,x2⟩:=a;have hk:m=1\/m=2\/m=3:=o_;obtain rfl|rfl|rfl:=hk
 .obtain⟨g,p,f⟩:=q o_;obtain⟨d,b,e⟩:=n o_;simp only[ps,pn,px]at g p f d b e;subst g p f d b e;rfl
 .obtain⟨d,b,e⟩:=n o_;simp only[ps,pn,px]at d b e;subst d b e;rfl
 .rfl
def G5{w:World}{g:Nat}{t:TypeId}{a:Ag}{k:Nat}(h:aa w g t (aA (mi a k)))(hk:k<3) :
 aa (((w.setCell (M g (1+k*3)) (I (ps a k))).setCell (M g (1+k*3+1)) (I (pn a k))).setCell (M g (1+k*3+2)) (I (px a k))) g t (aA (mi a (k+1))):=by
 match k,hk,h with
 |0,_,h=>exact((h.set 1 _).set 2 _).set 3 _
 |1,_,h=>exact((h.set 4 _).set 5 _).set 6 _
 |2,_,h=>exact((h.set 7 _).set 8 _).set 9 _
def G0{w:World}{g:Nat}{t:TypeId}{a:Ag}{k:Nat}(h:aa w g t (aA (mi a k)))(hk:k<3):C w g 0 (I a.c)/\(w.frozen? (M g (1+k*3))=false/\w.frozen? (M g (1+k*3+1))=false/\w.frozen? (M g (1+k*3+2))=false)/\C w g (1+k*3) (I 0)/\C w g (1+k*3+1) (I 0)/\C w g (1+k*3+2) (I 0):=by
 refine⟨h.cell 0,⟨h.free _,h.free _,h.free _⟩,?_⟩;match k,hk,h with
 |0,_,h=>exact⟨h.cell 1,h.cell 2,h.cell 3⟩
 |1,_,h=>exact⟨h.cell 4,h.cell 5,h.cell 6⟩
 |2,_,h=>exact⟨h.cell 7,h.cell 8,h.cell 9⟩
def cB.pn{a:Ag}(h:cB a)(k:Nat):fit (pn a k):=by
 unfold cB at h;unfold Tc.pn;grind
def cB.px{a:Ag}(h:cB a)(k:Nat):fit (px a k):=by
 unfold cB at h;unfold Tc.px;grind
def Ga(g:Nat)(S R:List UInt8)(m:Nat)(a:Ag)(w:World)(h:Rs w g S (mX a.c++(kz a 0 m++R)))(h1:1<=m)(h3:m<=3)(ho:eS m a)(hf:cB a)(hl:S.length<=1000000) :
 Calls prog 298 #[Y g 0,N m] w (kt g S R (.agg (aA a)) w):=by
 have HI:=J (λz R w h(hz:fit z)=>OL g S R z w h hz.1 hz.2 hl);have HW:=J (λR w h=>Eh g S R 3 w h);have HM:=J (λw=>sL m a w h1 h3 ho);have Hf:=J hf;have Ho:=J ho;have i7:=J (FZ ho h1 h3);have c9:=(ah _ w).alloc (ae _) (.cells (aA az) 78);have i2:=J (h.under c9);have a1:=J (aa.new w 78 (aA az));have u1:=h.lt;have y:¬g=w.heap.size:=o_
 have e9:=J (HI _ _ _ i2 hf.1);have e0:=J c9;have HQ:Kp (∀w',Rs _ g S R->aq _ w _->kt g S R (.agg (aA a)) w _ w'):=λw' h1 h2=>⟨rfl,h1,h2⟩;generalize hQ:kt g S R _ w=Q at*;clear h ho hf c9 hQ;unfold aA az at a1 e0 e9;generalize n3:w.alloc (.cells zA _)=W0 at*;have t7:=a1.lt;go_in;go_wp2_with fail;apply e9.mono;rintro e V⟨rfl,g0,a6⟩;have c4:=J (a1.ax a6 (λe=>y e.symm));have j3:=J ((aq.below e0).trans a6);have u3:=a6.size;have a7:=(ah _ V).alloc (ae _) (.cells #[I a.c,I 0,I 0,I 0,I 0,I 0,I 0,I 0,I 0,I 0] 78);have e5:Kp (aa _ V.heap.size 78 #[I a.c,I 0,I 0,I 0,I 0,I 0,I 0,I 0,I 0,I 0]):=aa.new _ _ _;have c5:=J (g0.under a7);have C:=bu c4 a7;have k0:=J (j3.trans (.below a7));clear g0 a6 a7 n3 e9 i2 a1 c4 j3 e0;have v6:a.c≥1:=Ho.c;have u8:0<=(m:Int):=o_
 have u0:(m:Int)<=3:=o_
 have v2:max (m:Int) 0=m:=o_
 have v3:min (m:Int) 3=m:=o_
 have a0:=e5.cell 0;go_wp2_with fail;apply(HW _ _ c5).mono;generalize p5:V.alloc _=W2 at*;rintro e w'⟨rfl,rfl⟩;clear p5 a0;have s:¬V.heap.size=w.heap.size:=o_
 have b:¬V.heap.size=g:=o_
 have d:w.heap.size<=V.heap.size:=o_
 generalize V.heap.size=ga at*;obtain⟨gR,i6⟩:∃gR,gR=w.heap.size:=⟨_,rfl⟩
 have i9:w.heap.size<=gR:=o_
 rw[<-i6]at s C y d⊢;clear i6;go_wp2
 go_loopw [27] (λc6 wr=>∃k:Nat,k<=m/\c6 = N k/\Rs wr g S (kz a k (m-k)++R)/\aa wr ga 78 (aA (mi a k))/\aa wr gR 78 zA/\aq (·=g) w wr) (λc6 wr=>m-(intOf c6).toNat)
 case atStart=>exact⟨0,o_,rfl,c5,e5,C,k0⟩
 .clear c5 e5 C k0;obtain⟨k,hk,rfl,hr,B,a3,ht⟩:=hrel;have n:=J B;have a4:=J a3;have Ht:=J ht;by_cases n5:k<m
  .rw[show m-k=(m-(k+1))+1 by omega,kz]at hr;unfold yt at hr;rw[append_assoc,append_assoc]at hr;have i8:=J (HI _ _ _ hr (Hf.ps k));have a8:=J (λw'(h:aa w' ga 78 (aA (mi a k)))=>G5 h (o_:k<3));have E:=J (λw'(h:aa w' ga 78 (aA (mi a k)))=>G0 h (o_:k<3));clear B a3 ht hr;have t6:=n.lt;have t3:=a4.lt;go_wp2_with fail;apply i8.mono;rintro e H⟨rfl,e6,D⟩;have s8:=e6.lt;have b0:=J (n.ax D b);have b3:=J (a4.ax D (λe=>y e.symm));have h6:=J (Ht.trans D);have o1:=D.size;have g9:=J e6;clear e6 D i8 n a4 Ht;go_upto_region 8 with fail
   have G:=(ah _ H).alloc (ae _) (.cells #[I (ps a k),I (ps a k),I (ps a k)] 75);have i3:Kp (aa _ H.heap.size 75 #[I (ps a k),I (ps a k),I (ps a k)]):=aa.new _ _ _;have j0:=J (g9.under G);have L:=bu b0 G;have b9:=bu b3 G;have g7:=J (h6.trans (.below G));have b4:¬H.heap.size=ga:=o_
   have b8:¬H.heap.size=gR:=o_
   have u:¬H.heap.size=g:=o_
   have b1:Kp (∀W,Rs W g S _->aa W _ _ _->aa W _ _ _->aq _ w W->∃W',W'=((W.setCell _ _).setCell _ _).setCell _ _/\Rs W' g S (kz a (k+1) (m-(k+1))++R)/\aa W' _ _ _/\aa W' _ 78 zA/\aq (·=g) w W'):=(λW q1 q2 q3 q4=>by
    refine⟨_,rfl,?_,a8 W q2,?_,?_⟩
    .exact q1.same (by rw[Below.heap_setCell _ _ _ _ (λe=>b e.symm),Below.heap_setCell _ _ _ _ (λe=>b e.symm),Below.heap_setCell _ _ _ _ (λe=>b e.symm)])
    .exact((q3.aJ (λe=>s e.symm) _).aJ (λe=>s e.symm) _).aJ (λe=>s e.symm) _
    .exact⟨q4.os,q4.tape,q4.output,by have:=q4.size;simpa using this,λi hi hn=>by
      rw[Below.heap_setCell _ _ _ _ (λe=>r_),Below.heap_setCell _ _ _ _ (λe=>r_),Below.heap_setCell _ _ _ _ (λe=>r_)]
      exact q4.block i hi hn⟩)
   clear G g9 b0 b3 h6 a8;generalize H.alloc _=W4 at*;obtain⟨a0,⟨f1,f2,f3⟩,d1,d2,d3⟩:=E _ L;obtain⟨p0,p1,p2,X,Z,a5⟩:=i3.three;have u2:0<=(k:Int):=o_
   have t9:(k:Int)<3:=o_
   generalize H.heap.size=gp at*;by_cases hc:1<a.c
   .have f:=j0.o;rw[if_pos hc,append_assoc]at f;have h9:=J (HI _ _ _ f (Hf.pn k));clear f f1 f2 f3 d1 d2 d3 p0 p1 p2 X Z a5;go_wp2_with fail;apply h9.mono;rintro e w5⟨rfl,h0,T⟩;have h4:=J (HI _ _ _ h0 (Hf.px k));have b7:=J (L.ax T b);have b5:=J (b9.ax T (λe=>y e.symm));have c3:=J (i3.ax T u);have i1:=J (g7.trans T);clear h0 T h9 a0;go_wp2_with fail;apply h4.mono;rintro e w6⟨rfl,h8,O⟩;have h5:=J h8;have a9:=J (b7.ax O b);have b2:=J (b5.ax O (λe=>y e.symm));have U:=J (c3.ax O u);have A:=J (i1.trans O);obtain⟨p0,p1,p2,X,Z,a5⟩:=U.three;clear h8 O h4 b7 b5 c3 i1;go_upto_region 10 with fail
    have j1:=J ((U.set 1 (I (pn a k))).set 2 (I (px a k)));have r:=J ((a9.aJ (p:=(M _ 1)) (λe=>b4 e.symm) (I (pn a k))).aJ (p:=(M _ 2)) (λe=>b4 e.symm) (I (px a k)));have q:=J ((b2.aJ (p:=(M _ 1)) (λe=>b8 e.symm) (I (pn a k))).aJ (p:=(M _ 2)) (λe=>b8 e.symm) (I (px a k)));have a2:Kp (Rs ((w6.setCell (M _ 1) (I (pn a k))).setCell (M _ 2) (I (px a k))) g S _):=h5.same (by rw[Below.heap_setCell _ _ _ _ (λe=>u e.symm),Below.heap_setCell _ _ _ _ (λe=>u e.symm)])
    have e8:Kp (aq _ w ((w6.setCell (M gp 1) (I (pn a k))).setCell (M gp 2) (I (px a k)))):=⟨A.os,A.tape,A.output,by have:=A.size;simpa using this,λi hi hn=>by
     rw[Below.heap_setCell _ _ _ _ (λe=>r_),Below.heap_setCell _ _ _ _ (λe=>r_)]
     exact A.block i hi hn⟩
    obtain⟨W',x,e1,e2,e3,e4⟩:=b1 _ a2 r q e8;clear p0 p1 p2 X Z a5 h5 a9 b2 U A;generalize(w6.setCell _ _).setCell _ _=W7 at*;obtain⟨a0,⟨f1,f2,f3⟩,d1,d2,d3⟩:=E _ r;have i4:aa _ _ _ #[I _,I _,I _]:=j1;obtain⟨p0,p1,p2,X,Z,a5⟩:=i4.three;clear i4;have E1:=J e1;have E2:=J e2;have E3:=J e3;have E4:=J e4;have e7:=J x;clear e1 e2 e3 e4 x;go_wp2;rw[<-e7];exact⟨⟨_,o_,o_,E1,E2,E3,E4⟩,o_⟩
   .have f:=j0.o;rw[if_neg hc,nil_append]at f;obtain⟨W',x,e1,e2,e3,e4⟩:=b1 _ f L b9 g7;obtain⟨q1,q2⟩:=Ho.one k o_ n5 (by omega);rw[<-q1,<-q2]at x;have E1:=J e1;have E2:=J e2;have E3:=J e3;have E4:=J e4;have e7:=J x;clear e1 e2 e3 e4 x q1 q2 f;go_wp2;rw[<-e7];exact⟨⟨_,o_,o_,E1,E2,E3,E4⟩,o_⟩
  .obtain rfl:k=m:=o_
   rw[Nat.sub_self,kz,nil_append]at hr;have Hr:=J hr;rw[i7]at B;have n:=J B;clear B a3 ht hr;obtain⟨d0,d1,d2,d3,d4,d5,d6,d7,d8,d9⟩:=(aa.cr n).1;go_wp2_with fail;apply(HM _).mono;rintro e w7⟨rfl,F⟩;have r:=bu n F;have q:=bu a4 F;have e8:=J (Ht.trans (.below F));have a2:=J (Hr.under F);clear F d0 d1 d2 d3 d4 d5 d6 d7 d8 d9 n Ht Hr;go_wp2_with fail;apply(HW _ _ a2).mono;rintro e w'⟨rfl,rfl⟩;obtain⟨d0,d1,d2,d3,d4,d5,d6,d7,d8,d9⟩:=(aa.cr r).1;obtain⟨⟨r0,r1,r2,r3,r4,r5,r6,r7,r8,r9⟩,f0,f1,f2,f3,f4,f5,f6,f7,f8,f9⟩:=aa.cr q;go_wp2;have j2:=aa.kJ (I a.c) (I a.s0) (I a.n0) (I a.x0) (I a.s1) (I a.n1) (I a.x1) (I a.s2) (I a.n2) (I a.x2) q;clear r0 r1 r2 r3 r4 r5 r6 r7 r8 r9 d0 d1 d2 d3 d4 d5 d6 d7 d8 d9;obtain⟨r0,r1,r2,r3,r4,r5,r6,r7,r8,r9⟩:=(aa.cr j2).1;refine bodyPost_ret (by simp[results,go_sem,r0,r1,r2,r3,r4,r5,r6,r7,r8,r9]) rfl (HQ _ (a2.same ?_) ?_)
   .exact ee y [I _,I _,I _,I _,I _,I _,I _,I _,I _,I _] _ 0
   .exact l9 i9 [I _,I _,I _,I _,I _,I _,I _,I _,I _,I _] _ 0 e8
def I8(g:Nat)(S R:List UInt8)(A:OA)(n c m aj:Nat)(x:Cl)(w:World)(h:Rs w g S (lI (decide (aj+1=n)) m x++R))(hn:1<=n)(O:n<=1000000)(hd:aj<=1000000)(V:1<=m)(hm:m<=3)(hx:x.child<=1048576)(ho:kj (decide (aj+1=n)) m x)(hf:cB x.ag)(hl:S.length<=1000000) :
 Calls prog 260 #[Y g 0,.agg #[U A n c,N m],N aj,I x.key] w (kt g S R (.agg (bH x)) w):=by
 obtain⟨key,child,⟨ac,s0,n0,x0,s1,n1,x1,s2,n2,x2⟩⟩:=x;have b:=(ah _ w).alloc (ae _) (.cells #[U A n c,N m] 43);have M:=b.alloc o_ (.cells zC 155);obtain⟨r,E,d⟩:=j3_ ((aa.new w 43 #[U A n c,N m]).alloc (.cells zC 155)) (aa.lay (w:=w.alloc (.cells #[U A n c,N m] 43)) (g:=w.heap.size+1) (t:=155) (cs:=zC) s_) (h.under M);have D:Kp (aq (·=g) w _):=.below M;have HL:=J (λw=>mD A n c m _ w hn O hd);have u:=h.lt;have a1:g≠w.heap.size+1:=o_;have Z:¬w.heap.size+1=g:=o_;have b3:w.heap.size<=w.heap.size+1:=o_;clear M b;dsimp only at hx hf;by_cases f:aj+1=n
 .rw[decide_eq_true f]at HL ho d;obtain⟨h1,h2⟩:=ho;dsimp only at h1 h2;subst h1;unfold lI at d;rw[if_pos rfl,append_assoc]at d;have y:=J (λw h=>Ga g S R m _ w h V hm h2 hf hl);have HQ:Kp (∀w',Rs _ g S R->aq _ w _->kt g S R (.agg (bH ⟨key,0,⟨ac,s0,n0,x0,s1,n1,x1,s2,n2,x2⟩⟩)) w _ w'):=λw' h1 h2=>⟨rfl,h1,h2⟩;generalize hQ:kt g S R _ w=Q at*;clear hQ h h2 f hn O hd V hm hx hf hl;go_in;obtain⟨W,F,_,_⟩:=r.two;go_wp2_with fail;apply(HL _).mono;clear W F;generalize(w.alloc _).alloc _=W0 at*;rintro e w1⟨rfl,b⟩;have H:=J (d.under b);have u:=bu r b;have s:=bu E b;have L:=J (D.trans (.below b));obtain⟨W,F,_,_⟩:=u.two;clear b d r E D;go_wp2_with fail;apply(y _ H).mono;rintro e w2⟨rfl,z,q⟩;obtain⟨G,T,p⟩:=j3_ z (L.trans q) (s.ax q Z);clear z q W F;obtain⟨dD,f0,f1,f2,f3,f4,f5,f6,f7,f8,f9,c6,b8⟩:=aa.gu p;go_wp2;have B:=dS p [N key,I 0,I ac,I s0,I n0,I x0,I s1,I n1,I x1,I s2,I n2,I x2] rfl;clear dD;obtain⟨r0,r1,r2,r3,r4,r5,X,M,r8,r9,C,y⟩:=(aa.gu B).1;dsimp only[aH,Nat.zero_add,Nat.reduceAdd]at r0 r1 r2 r3 r4 r5 X M r8 r9 C y;refine bodyPost_ret (by simp[results,go_sem,r0,r1,r2,r3,r4,r5,X,M,r8,r9,C,y]) rfl (HQ _ (G.same ?_) ?_)
  .exact ee a1 [N _,I 0,I _,I _,I _,I _,I _,I _,I _,I _,I _,I _] _ 0
  .exact l9 b3 [N _,I 0,I _,I _,I _,I _,I _,I _,I _,I _,I _,I _] _ 0 T
 .rw[decide_eq_false f]at HL ho d;have h1:⟨ac,s0,n0,x0,s1,n1,x1,s2,n2,x2⟩=az:=ho;rw[h1];unfold lI at d;rw[if_neg d_]at d;have HN:=J (λw h=>DT g S R _ _ w h hx o_ hl);have HQ:Kp (∀w',Rs _ g S R->aq _ w _->kt g S R (.agg (bH ⟨key,child,az⟩)) w _ w'):=λw' h1 h2=>⟨rfl,h1,h2⟩;generalize hQ:kt g S R _ w=Q at*;clear hQ h h1 ho f hn O hd V hm hx hf hl;go_in;obtain⟨W,F,_,_⟩:=r.two;go_wp2_with fail;apply(HL _).mono;clear W F;generalize(w.alloc _).alloc _=W0 at*;rintro e w1⟨rfl,b⟩;have H:=J (d.under b);have u:=bu r b;have s:=bu E b;have L:=J (D.trans (.below b));obtain⟨W,F,_,_⟩:=u.two;clear b d r E D;go_wp2_with fail;apply(HN _ H).mono;rintro e w2⟨rfl,z,q⟩;obtain⟨G,T,p⟩:=j3_ z (L.trans q) (s.ax q Z);clear z q W F;obtain⟨dD,f0,f1,f2,f3,f4,f5,f6,f7,f8,f9,c6,b8⟩:=aa.gu p;go_wp2;have B:=dS p [N key,N child,I 0,I 0,I 0,I 0,I 0,I 0,I 0,I 0,I 0,I 0] rfl;clear dD;obtain⟨r0,r1,r2,r3,r4,r5,X,M,r8,r9,C,y⟩:=(aa.gu B).1;dsimp only[aH,Nat.zero_add,Nat.reduceAdd]at r0 r1 r2 r3 r4 r5 X M r8 r9 C y;refine bodyPost_ret (by simp[results,go_sem,az,r0,r1,r2,r3,r4,r5,X,M,r8,r9,C,y]) rfl (HQ _ (G.same ?_) ?_)
  .exact ee a1 [N _,N _,I 0,I 0,I 0,I 0,I 0,I 0,I 0,I 0,I 0,I 0] _ 0
  .exact l9 b3 [N _,N _,I 0,I 0,I 0,I 0,I 0,I 0,I 0,I 0,I 0,I 0] _ 0 T
def sw.len{last:Bool}{m size:Nat}{l:List Cl}(h:sw last m size l):l.length<=size:=by
 have H:∀i(hi:i<l.length),i<=l[i].key:=λi=>by
  induction i with
  |zero=>omega
  |succ i b=>
   intro hi;have h1:=b o_;have h2:=h.ja i hi;omega
 obtain h0|h0:=Nat.eq_zero_or_pos l.length
 .omega
 .have h1:=H (l.length-1) o_;have h2:=h.key _ (gM (show l.length-1<l.length by omega));omega
def db.ax{w w':World}{B g:Nat}{v:Value}{ls:List Ll}(h:db w B v ls)(ht:aq (·=g) w w')(f:g<B):db w' B v ls:=
 ⟨fN h.1 (λk hk=>ht.block k (h.1.lt k hk).2 (λe=>by have:=(h.1.lt k hk).1;omega)),λl b=>⟨sN (h.2 l b).1 ht.size (λk hk=>ht.block k (Row.bU (h.2 l b).1.1 hk) (λe=>by
  obtain⟨c,off,d⟩:=hk;have:=(h.2 l b).2 k _ d c;omega)),(h.2 l b).2⟩⟩
def db.jA{g B:Nat}{v:Value}{ls:List Ll}(c:g<B):∀(b:LV)(w:World)(o:Nat),db w B v ls->db (aH w g o b) B v ls
 | [],_,_,h=>h
 |u::b,w,o,h=>db.jA c b _ _ (h.aJ (p:=(M g o)) c u)
def Fi(l:List Cl)(j:Nat)(b:j<l.length):jd l (j+1)=((l[j].key:Nat):Int):=by
 show(((l.getD j jy).key:Nat):Int)=_;grind
def vh(g:Nat)(S R:List UInt8)(p:aQ)(w:World)(e:Ending)(w':World):Prop:=∃nd:Nd,e = .returned (.agg (aZ nd))/\aK nd=p/\du w' w'.heap.size nd/\gW w.heap.size nd/\(∀l∈nd.ls,l.cs.length<=l.c)/\Rs w' g S R/\aq (·=g) w w'
def G'(g:Nat)(S R:List UInt8)(A:OA)(c m:Nat)(ys:List Fa)(p:aQ)(w:World)(h:Rs w g S (jv (decide (p.aj+1=ys.length)) m p++R))(hi:cG w g A ys)(hn:ys.length<=16)(x4:1<=m)(hm:m<=3)(z:p.aj<ys.length)
 (ho:im (decide (p.aj+1=ys.length)) (ys[p.aj]'z).keys m p)(n7:∀x∈cR p,x.child<=1048576/\cB x.ag)(hl:S.length<=1000000) :
 Calls prog 194 #[Y g 0,.agg #[U A ys.length c,.int .i64 (m:Nat)]] w (vh g S R p w):=by
 obtain⟨i0,x8,z3,A0,y4⟩:=info_parts o6;obtain⟨j0,y3,y6,B4,B5⟩:=info_parts xm;obtain⟨aj,lists,all⟩:=p;dsimp only at z ho h;obtain⟨G,L,rfl,u,D⟩:=Row.at_ hi.row (by rw[lM];exact z);rw[getElem_map]at D;unfold fL at D;have hX:=hi.each _ (gM z);generalize(ys[aj]'z)=X at*;have O:=ho.ls;dsimp only at O;rw[<-O]at D;generalize F:decide (aj+1=ys.length)=last at*;have HN:=J (λn most R w h h1 h2=>DT g S R n most w h h1 h2 hl);have o2:=J (λx R w(h:Rs w g S (lI last m x++R)) hx(hk:kj last m x)=>show Calls _ _ #[Y g 0,.agg #[U _ _ c,.int _ _],.int _ _,I _] w _ from by
  have:=I8 g S R (some ⟨G,L,none⟩) ys.length c m aj x w r_ o_ o_ o_ x4 hm (n7 x hx).1 r_ (n7 x hx).2 hl;omega)
 have n5:=J ho.size;have n9:=J ho.each;have u0:=ho.n4;have T:=ho.xw;have h4:=J ho.all;dsimp only at u0 T h4;have x6:=J O;obtain⟨u,t0⟩:=e_ ys.length;obtain⟨lx,V⟩:=e_ lists.length;have m8:=J V;rw[t0]at o2 z hn⊢;rw[V]at D u0;unfold jv at h;dsimp only at h;rw[append_assoc,append_assoc]at h;have F3:=h.lt;have k8:=(ah _ w).alloc (ae _) (.cells #[U (some ⟨G,L,none⟩) u c,.int .i64 m] 43);have k7:=k8.alloc o_ (.cells zN 157);obtain⟨n3,k0,s5⟩:=j3_ ((aa.new w 43 #[U (some ⟨G,L,none⟩) u c,.int .i64 m]).alloc (.cells zN 157)) (aa.lay (w:=w.alloc (.cells #[U (some ⟨G,L,none⟩) u c,.int .i64 m] 43)) (g:=w.heap.size+1) (t:=157) (cs:=zN) s_) (h.under k7);have s3:Kp (aq (·=g) w _):=.below k7;have z4:Kp (∀W,aq (·=g) w W->C W G _ _):=λW ht=>(bF (ht.block G o_ (λe=>o_))).trans D;have HX:Kp (∀W,aq (·=g) w W->Row W g _ _):=λW ht=>Row.below hX (ht.toBelow (λk e=>o_) o_);have y1:aj<=u-1:=o_;have p6:u-1<=1048576:=o_;have g3:=J (HN _ _ _ _ s5 y1 p6);have p4:(u-1:Nat)=(u:Int)-1:=o_;simp only[N]at g3;rw[p4]at g3;clear h hi k7 k8 ho n7 hX F t0 V O hl D s5;generalize O:(w.alloc _).alloc _=V at*;obtain⟨b0,b1,_,_⟩:=n3.two;have g7:¬w.heap.size=g:=o_;have b2:¬w.heap.size+1=g:=o_;have F7:=k0.lt;have H9:IntKind.i64.wrap _=u-1:=IntWalk.i64_in _ o_;go_in;go_wp2_with fail;apply g3.mono;clear O b0 b1;rintro e O⟨rfl,s7,c4⟩;have z6:O.heap.size≥V.heap.size:=c4.size;have V:=(ah _ O).alloc (ae _) (.cells #[.int .i64 aj,Z,I 0,I 0,I 0,I 0,I 0,I 0,I 0,I 0,I 0,I 0,I 0,I 0] 157);have g9:Kp (aa _ O.heap.size 157 #[.int .i64 aj,Z,I 0,I 0,I 0,I 0,I 0,I 0,I 0,I 0,I 0,I 0,I 0,I 0]):=aa.new _ _ _;obtain⟨m4,t5,s8,k3⟩:=j4_ ((n3.ax c4 g7).under V) ((k0.ax c4 b2).under V) (s7.under V) ((s3.trans c4).trans (.below V));clear s7 c4 V n3 k0 s3 g3;go_upto_region 2 with fail;generalize V:O.alloc _=W2 at*;clear V;obtain⟨f,V⟩:∃f,f=O.heap.size:=⟨_,rfl⟩;rw[<-V]at g9 z6⊢;clear V;obtain⟨b0,b1,_,_⟩:=m4.two;have d0:=g9.cell 0;have D:=z4 _ k3;have O:0<=(aj:Int):=o_;have p1:(aj:Nat)<(u:Int):=o_;have E:¬f=g:=o_;have s4:¬f=w.heap.size+1:=o_;go_wp2;clear b0 b1 d0 D;go_loopw [25] (λD wr=>∃(k:Nat)(ls:List Ll)(A1:OA)(c1:Nat),k<=lx/\D = .int .i64 (k:Nat)/\ls.length=k/\(ls.map Ll.cs=lists.take k/\∀l∈ls,l.cs.length<=l.c)/\Rs wr g S (lN last m (lists.drop k)++(lI last m all++R))/\aa wr w.heap.size 43 #[U (some ⟨G,L,none⟩) u c,.int .i64 (m:Nat)]/\aa wr (w.heap.size+1) 157 zN/\aa wr f 157 #[.int .i64 (aj:Nat),U A1 k c1,I 0,I 0,I 0,I 0,I 0,I 0,I 0,I 0,I 0,I 0,I 0,I 0]/\db wr (f+1) (U A1 k c1) ls/\aq (·=g) w wr) (λD wr=>lx-(intOf D).toNat)
 case atStart=>exact⟨0,_,_,0,o_,rfl,rfl,⟨rfl,λx hx=>r_⟩,s8,m4,t5,g9,db.nil _ _,k3⟩
 .clear s8 m4 t5 g9 k3;obtain⟨k,ls,A1,c1,hk,rfl,u1,L,G,V,O,u,D,ht⟩:=hrel;obtain⟨e6,g8,m5,k2,e7,e0,Ht⟩:=j7_ u1 L V O u D ht;have D4:=u.lt;clear u1 L V O u D ht;by_cases D:k<lx
  .have u:k<lists.length:=by rw[m8];omega
   have D:k<X.keys.length:=by rw[<-x6];omega
   rw[drop_eq_getElem_cons u,lN,append_assoc,append_assoc]at G;obtain⟨L,ok,B1,L,y0⟩:=Row.at_ (HX _ Ht) (by unfold an;rw[lM];exact D);have hy:(an _)[k]'(by unfold an;rw[lM];exact D) = I (X.keys[k]:Nat):=by unfold an;rw[getElem_map]
   rw[hy]at y0;have L:=n9 k _ _ (gE u) (gE D);have O:=n5 _ (gM D);have y2:Kp (∀l:Ll,l.cs=lists[k]->(ls++[l]).map _=lists.take _):=(λl hl=>by rw[map_append,g8.1,take_succ_eq_append_getElem,map_cons,map_nil,hl]);have p7:Kp (∀x∈lists[k],x∈cR ⟨aj,_,all⟩):=λx hx=>mem_append_left _ (mem_flatten.2 ⟨_,gM u,hx⟩);generalize lists[k]=l at*;generalize X.keys[k]=y at*;have t9:=L.len;have u:=J (HN _ y _ _ G t9 o_);have V:=J L;obtain⟨nl,O⟩:=e_ l.length;have a7:=J O;rw[O]at u t9;rw[B1]at*;have H3:0<=(k:Int):=o_;have H1:k<(lx:Int):=o_;clear G O L hy D;go_wp2_with fail;apply u.mono;rintro e w3⟨rfl,D,H⟩;obtain⟨y5,b3,i3,a5,a0,v1⟩:=j6_ D (m5.ax H g7) (k2.ax H b2) (e7.ax H E) (e0.ax H (by omega)) (Ht.trans H);have L:=H.size;clear D H u m5 k2 e7 e0 Ht y0;go_wp2;go_loopw [8,9,32] (λO v9 L u=>∃(j:Nat)(D:OA)(c8:Nat),j<=nl/\L = .int .i64 (j:Nat)/\O = U D j c8/\v9 = I (jd l j)/\Rs u g S (l8 last m (jd l j) (l.drop j)++(lN last m (lists.drop (k+1))++(lI last m all++R)))/\u.ownsRow w3.heap.size 155 12 (U D j c8) j ((l.take j).flatMap ch)/\aq (·=g) w3 u) (λ_ _ L _=>nl-(intOf L).toNat)
   case atStart=>exact⟨0,_,0,o_,rfl,rfl,rfl,y5,cK _ _ _ _,aq.refl _ _⟩
   .obtain⟨j,D,c8,u,rfl,rfl,rfl,G,u,ht⟩:=hrel;have r:=J u;have O:=J ht;clear u ht;by_cases L:j<nl
    .have u:j<l.length:=by rw[a7];omega
     rw[drop_eq_getElem_cons u,l8,append_assoc,append_assoc]at G;have u6:=V.key _ (gM u);have s6 : -1<=jd l j/\jd l j<(l[j].key:Nat):=by
      obtain _|j:=j
      .exact⟨Int.le_refl _,by show(-1:Int)<_;omega⟩
      .rw[Fi l j o_];have:=V.ja j u;omega
     have u2:=J (Fi l j u);have hx:=p7 _ (gM u);have L:=V.cell _ (gM u);have r9:Kp (∀x,x=l[j]->(l.take _).flatMap _=(l.take j).flatMap ch++ch x):=(λx hx=>by rw[take_succ_eq_append_getElem u,flatMap_append,hx];rfl);generalize A4:l[j]=x at*;generalize jd l j=bJ at*;have V:=J (HN _ y _ _ G o_ o_);have u:((((x.key:Nat):Int)-bJ-1).toNat:Nat)=(x.key:Nat)-bJ-1:=o_;simp only[N]at V;rw[u]at V;have y7:IntKind.i64.wrap _=bJ+1:=IntWalk.i64_in _ o_;have A2:IntKind.i64.wrap (bJ+1+((x.key:Nat)-bJ-1))=(x.key:Nat):=by rw[IntWalk.i64_in _ o_];omega
     have t8:=J (λR w h=>o2 x R w h hx L);clear G u hx L A4 s6 u6;go_wp2_with fail;apply V.mono;rintro e u⟨rfl,b9,B⟩;obtain⟨t3,L,d⟩:=j3_ (t8 _ _ b9) (O.trans B) (fN r (λi hi=>B.block i (r.lt i hi).2 (λe=>by have:=(r.lt i hi).1;omega)));obtain⟨b0,b1,_,_⟩:=(b3.ax L g7).two;have d0:=(a5.ax L E).cell 0;clear b9 B V t8;go_wp2_with fail;apply t3.mono;rintro e w6⟨rfl,r7,V⟩;obtain⟨b8,e2,b⟩:=j3_ r7 (L.trans V) (fN d (λi hi=>V.block i (d.lt i hi).2 (λe=>by have:=(d.lt i hi).1;omega)));have z0:j+1<1048576*64:=o_;clear r7 V t3 b0 b1 d0 y7 A2 d L r O;go_wp2_with(at_builtin;apply je rfl _ _ _ rfl _ 155 _ _ _ _ underlying223 x8 z3 A0 y4 rfl d_ _ _ rfl (sW x) (U D j _) j _ rfl b rfl z0 d_ e2.size;intro V V V c9;obtain⟨A7,c7,h7⟩:=cI V;subst h7;have l0:=J V;have i7:=J c9;clear V c9);refine⟨⟨_,_,_,o_,o_,rfl,by rw[u2],?_,by rw[r9 x rfl];exact l0,s9 e2 i7 (λi hi=>(b.lt i hi).1)⟩,o_⟩;rw[u2];exact b8.same (i7.bI b8.lt (λe=>by have:=(b.lt g e).1;omega))
    .obtain rfl:j=nl:=o_;rw[show l.drop j=[] by rw[<-a7,drop_length],l8,nil_append]at G;have t6:=J G;have V:=J (by have:=r.o;rwa[<-a7,take_length,a7]at this);have B2:=J (Ap.new V (λi hi=>(a0.1.lt i hi).2));have x7:=J (eB.own (B0:=f+1) V o_);have p9:=rH V;obtain⟨p8,r2,V,b5,z7⟩:=j5_ (b3.ax O g7) (i3.ax O b2) (a5.ax O E) (a0.ax O (by omega)) (v1.trans O);have s:=J (by have:=b5.1;rw[e6]at this;omega);have d1:=V.cell 1;have i8:=V.lt;have O:f+1<=wr.heap.size:=i8;have y8:k<1048576*64:=o_;clear G r b3 i3 a5 a0 v1;go_wp2_with(at_builtin;apply iP rfl _ _ _ rfl _ 223 _ _ _ underlying153 y3 y6 B4 B5 rfl _ _ rfl (U _ k _) k _ rfl s rfl y8 d_ O;intro O w6 O a2;obtain⟨A6,c6,h6⟩:=bY O;subst h6;have b:=J O;have e3:=J a2;have l7:Kp (aa _ f _ _):=(a2.bI i8 (λe=>by have:=(s.lt f e).1;omega)).trans V;have V:=l7.cell 1;have g1:=l7.free 1;clear O a2);have V:=db.app (l:=⟨D,l,_⟩) b5 B2 x7 (by unfold dq;rw[a7];exact b) e3 e6;have O:=λi h1(h2:i<f+1)(h3:i≠f)=>(Below.heap_setCell _ (M f 1) (U A6 (k+1) c6) i h3).trans (e3.bI h1 (λe=>by have:=(s.lt i e).1;omega));refine⟨⟨_,_,_,_,o_,o_,by rw[aE,e6];rfl,⟨y2 _ rfl,λx hx=>(mem_append.1 hx).elim (g8.2 x) (λe=>by rw[mem_singleton.1 e];dsimp only;rw[a7];omega)⟩,?_,?_,?_,?_,V.aJ s_ _,?_⟩,o_⟩
     .exact t6.same (O g o_ o_ o_)
     .exact(O _ o_ o_ o_).trans p8
     .exact(O _ o_ o_ o_).trans r2
     .exact l7.set 1 _
     .have q:=s9 z7 e3 (λi hi=>by have:=(s.lt i hi).1;omega);exact l9 o_ [U _ _ _] _ 1 q
  .obtain rfl:k=lx:=o_;rw[show lists.drop k=[] by rw[<-m8,drop_length],lN,nil_append]at G;have D:=J (o2 _ R _ G (mem_append_right _ mem_cons_self) h4);rw[T]at D;have A3:=J (show ls.map _=lists by rw[g8.1,<-m8,take_length]);obtain⟨b0,b1,_,_⟩:=m5.two;have d0:=e7.cell 0;clear G;go_wp2_with fail;apply D.mono;rintro e u⟨rfl,b9,B⟩;obtain⟨u3,O,G,d,L⟩:=j5_ b9 (k2.ax B b2) (e7.ax B E) (e0.ax B (by omega)) (Ht.trans B);obtain⟨⟨B3,d1,d2,d3,d4,d5,d6,d7,d8,d9,m9,n8,k5,o1⟩,f0,f1,f2,f3,f4,f5,f6,f7,f8,f9,r1,r4,u5,t7⟩:=aa.bK G;clear b9 B D b0 b1 d0;go_upto_region 16 with fail;have V:Kp (aa (aH u f 2 _) f _ #[.int _ _,U _ k _,I 0,I all.child,I all.ag.c,I all.ag.s0,I all.ag.n0,I all.ag.x0,I all.ag.s1,I all.ag.n1,I all.ag.x1,I all.ag.s2,I all.ag.n2,I all.ag.x2]):=sQ _ u [.int _ _,U _ k _] _ G rfl;have b4:Kp (aa (aH u f 2 [I 0,I all.child,I all.ag.c,I all.ag.s0,I all.ag.n0,I all.ag.x0,I all.ag.s1,I all.ag.n1,I all.ag.x1,I all.ag.s2,I all.ag.n2,I all.ag.x2]) _ _ _):=(ee (λe=>s4 e.symm) _ _ _).trans O;have b8:Kp (Rs (aH u f 2 [I 0,I all.child,I all.ag.c,I all.ag.s0,I all.ag.n0,I all.ag.x0,I all.ag.s1,I all.ag.n1,I all.ag.x1,I all.ag.s2,I all.ag.n2,I all.ag.x2]) g S R):=u3.same (ee (λe=>E e.symm) _ _ _);have b:Kp (db (aH u f 2 [I 0,I all.child,I all.ag.c,I all.ag.s0,I all.ag.n0,I all.ag.x0,I all.ag.s1,I all.ag.n1,I all.ag.x1,I all.ag.s2,I all.ag.n2,I all.ag.x2]) _ _ _):=db.jA o_ _ _ _ d;have e2:Kp (aq _ w (aH u f 2 [I 0,I all.child,I all.ag.c,I all.ag.s0,I all.ag.n0,I all.ag.x0,I all.ag.s1,I all.ag.n1,I all.ag.x1,I all.ag.s2,I all.ag.n2,I all.ag.x2])):=l9 o_ _ _ _ L;clear B3 d1 d2 d3 d4 d5 d6 d7 d8 d9 m9 n8 k5 o1 f0 f1 f2 f3 f4 f5 f6 f7 f8 f9 r1 r4 u5 t7 u3 O G d L;obtain⟨W6,D⟩:=e_ (aH u f 2 [.int .i64 0,.int .i64 all.child,.int .i64 all.ag.c,.int .i64 all.ag.s0,.int .i64 all.ag.n0,.int .i64 all.ag.x0,.int .i64 all.ag.s1,.int .i64 all.ag.n1,.int .i64 all.ag.x1,.int .i64 all.ag.s2,.int .i64 all.ag.n2,.int .i64 all.ag.x2]);rw[D]at V b4 b8 b e2;simp only[aH,Nat.reduceAdd]at D;rw[D];clear D;have HQ:Kp (∀u,Rs u g S R->db u (f+1) (U A1 k c1) ls->aq _ w u->vh g S R ⟨_,lists,_⟩ w (.returned (.agg #[.int _ _,U _ k _,I 0,I _,I _,I _,I _,I _,I _,I _,I _,I _,I _,I _])) u):=(λu G u D=>by
    refine⟨⟨aj,A1,_,c1,all⟩,?_,?_,?_,?_,g8.2,G,D⟩
    .unfold aZ;dsimp only;rw[e6,T];rfl
    .unfold aK;dsimp only;rw[A3]
    .exact⟨u.at_.1,u.at_.2⟩
    .exact(u.base o_).from_)
   obtain⟨d0,d1,d2,d3,d4,d5,d6,d7,d8,d9,m9,n8,k5,o1⟩:=(aa.bK V).1;obtain⟨⟨q0,G,u,D,q4,q5,O,q7,q8,q9,L,V,h0,e8⟩,f0,f1,f2,f3,f4,f5,f6,f7,f8,f9,r1,r4,u5,t7⟩:=aa.bK b4;generalize hQ:vh g S R _ w=Q at*;clear hQ;go_wp2;have p5:=dS b4 [.int .i64 aj,U A1 k c1,I 0,I all.child,I all.ag.c,I all.ag.s0,I all.ag.n0,I all.ag.x0,I all.ag.s1,I all.ag.n1,I all.ag.x1,I all.ag.s2,I all.ag.n2,I all.ag.x2] rfl;clear q0 G u D q4 q5 O q7 q8 q9 L V h0 e8 d0 d1 d2 d3 d4 d5 d6 d7 d8 d9 m9 n8 k5 o1;obtain⟨q0,G,u,D,q4,q5,O,q7,q8,q9,L,V,h0,e8⟩:=(aa.bK p5).1;dsimp only[aH,Nat.zero_add,Nat.reduceAdd]at q0 G u D q4 q5 O q7 q8 q9 L V h0 e8;refine bodyPost_ret (by simp[results,go_sem,q0,G,u,D,q4,q5,O,q7,q8,q9,L,V,h0,e8]) rfl (HQ _ (b8.same ?_) ?_ ?_)
   .exact ee (λe=>b2 e.symm) [.int _ _,U _ k _,I 0,I _,I _,I _,I _,I _,I _,I _,I _,I _,I _,I _] _ 0
   .exact db.jA o_ [.int _ _,U _ k _,I 0,I _,I _,I _,I _,I _,I _,I _,I _,I _,I _,I _] _ 0 b
   .exact l9 o_ [.int _ _,U _ k _,I 0,I _,I _,I _,I _,I _,I _,I _,I _,I _,I _,I _] _ 0 e2
end Tc
namespace Tc
open List Go.RowKit Base Crc Go.Proofs.YtibjlpkpljnicaaGreatDoor.Nm Tk Plain Go.Proofs.Tryz
def GZ(gr b g:Nat)(w:World)(c0:C w gr 0 (Y g 0))(c2:C w g 2 (.bool true))(d:w.frozen? (M g 2)=false) :
 CallsD prog 256 #[Y gr 0,Y b 0] .returning w λe c w'=>e = .returned (.tuple #[])/\c = .returning/\w'=w.setCell (M g 2) (.bool false):=by
 refine callsD_of_wpS func256 rfl λm cs f=> ?_;show Code.wpS _ _ _ { tmps:=#[Y gr 0,Y b 0,undef,undef,undef,undef,undef,undef,undef,undef,undef,undef,undef,undef,undef,undef],defers:=[] } _ _;apply wpS_seq;apply wpS_region;simp[wpOpsS,go_sem,Exit.thenS,c0,c2,d];apply wpS_seq;apply wpS_region;simp[wpOpsS,go_sem,recoverD,f,Exit.thenS];apply wpS_of_wp;generalize w.setCell _ _=W;go_wp2;refine⟨rfl,_,?_,_,by simp[results],rfl,rfl,rfl⟩;cases m;simp_all
structure gy(p:aQ)(gn:Nat)(n0:Nat)(w':World)(nd:Nd):Prop where
 plain:aK nd=p
 box:aa w' gn 157 #[I nd.aj,U nd.A nd.ls.length nd.c,I nd.all.key,I nd.all.child,I nd.all.ag.c,I nd.all.ag.s0,I nd.all.ag.n0,I nd.all.ag.x0,I nd.all.ag.s1,I nd.all.ag.n1,I nd.all.ag.x1,I nd.all.ag.s2,I nd.all.ag.n2,I nd.all.ag.x2]
 at_:du w' w'.heap.size nd
 from_:gW n0 nd
 fits:∀l∈nd.ls,l.cs.length<=l.c
def gy.aJ{p:aQ}{gn n0:Nat}{w:World}{nd:Nd}(h:gy p gn n0 w nd){q:Addr}(s:q.block<n0)(b:q.block≠gn)(v:Value):gy p gn n0 (w.setCell q v) nd:=by
 have f:(w.setCell q v).heap.size=w.heap.size:=s_;have c:∀{A:OA}{d:LV},Row w _ A d->eB n0 A d->Row _ (w.setCell q v).heap.size A d:=λr n=>by
  rw[f];exact fO r λk hk=>Below.heap_setCell w q v k (λe=>by
   obtain⟨b,off,m⟩:=hk;have:=n k _ m b;omega)
 exact⟨h.plain,h.box.aJ (λe=>b e.symm) v,⟨c h.at_.row h.from_.1,λl g=>c (h.at_.each l g) (h.from_.2 l g)⟩,h.from_,h.fits⟩
def gy.jA{p:aQ}{gn n0 g:Nat}{nd:Nd}(d:g<n0)(b:g≠gn):∀(c:LV)(w:World)(o:Nat),gy p gn n0 w nd->gy p gn n0 (aH w g o c) nd
 | [],_,_,h=>h
 |v::c,_,o,h=>gy.jA d b c _ _ (h.aJ (q:=(M g o)) d b v)
def gy.below{p:aQ}{gn n0:Nat}{w w':World}{nd:Nd}(h:gy p gn n0 w nd)(b:E w w'):gy p gn n0 w' nd:=⟨h.plain,h.box.under b,(h.at_.below b).more b.size,h.from_,h.fits⟩
def gy.less{p:aQ}{gn n0 n1:Nat}{w:World}{nd:Nd}(h:gy p gn n0 w nd)(b:n1<=n0):gy p gn n1 w nd:=⟨h.plain,h.box,h.at_,⟨h.from_.1.less b,λl c=>(h.from_.2 l c).less b⟩,h.fits⟩
structure sD(S:List UInt8)(g:Nat)(A:OA)(m:Nat)(ys:List Fa)(p:aQ)(w:World):Prop where
 shape:cG w g A ys
 n16:ys.length<=16
 m1:1<=m
 m3:m<=3
 ok:∃hdim:p.aj<ys.length,im (decide (p.aj+1=ys.length)) (ys[p.aj]'hdim).keys m p
 cells:∀x∈cR p,x.child<=1048576/\cB x.ag
 len:S.length<=900000
def Il(g D gn:Nat)(S R:List UInt8)(A:OA)(c m:Nat)(ys:List Fa)(p:aQ)(w:World)(h:Rs w g S (jv (decide (p.aj+1=ys.length)) m p++R))(f:sD S g A m ys p w)(hx:aa w D 43 #[U A ys.length c,N m])(T:aa w gn 157 zN)(V:D<g)(B:gn<g) :
 Calls prog 193 #[Y g 0,Y D 0,Y gn 0] w λe w'=>e = .returned (.tuple #[])/\(∃nd,gy p gn w.heap.size w' nd)/\Rs w' g S R/\aq (λk=>k=g\/k=gn) w w':=by
 obtain⟨s,q⟩:=f.ok;have O:=J (G' g S R A c m _ p w h f.shape f.n16 f.m1 f.m3 s q f.cells (by have:=f.len;omega));obtain⟨x0,x1,_,_⟩:=hx.two;have W:=J T;have v:=h.lt;clear h f hx T q;go_in;go_wp2_with fail;apply O.mono;rintro e d⟨nd,rfl,h1,h2,F,M,E,u⟩;obtain⟨r,H1,L,C,Z,y,H6⟩:=j7_ (W.ax u (λe=>o_)) h1 h2 F M E u;obtain⟨z,z,z,z,z,z,z,z,z,z,z,X,z,z,z⟩:=aa.bK r;clear h1 h2 F M E u x0 x1 O;unfold aZ;go_wp2;go_end0;have G:=Nat.lt_trans B v;have z:=nH gn [I nd.aj,U nd.A nd.ls.length nd.c,I nd.all.key,I nd.all.child,I nd.all.ag.c,I nd.all.ag.s0,I nd.all.ag.n0,I nd.all.ag.x0,I nd.all.ag.s1,I nd.all.ag.n1,I nd.all.ag.x1,I nd.all.ag.s2,I nd.all.ag.n2,I nd.all.ag.x2] d 0;have b:∀k,k≠gn->(aH d _ 0 [I nd.aj,U nd.A nd.ls.length nd.c,I nd.all.key,I nd.all.child,I nd.all.ag.c,I nd.all.ag.s0,I nd.all.ag.n0,I nd.all.ag.x0,I nd.all.ag.s1,I nd.all.ag.n1,I nd.all.ag.x1,I nd.all.ag.s2,I nd.all.ag.n2,I nd.all.ag.x2]).heap[k]? = d.heap[k]?:= λk hk=>ee hk _ _ _;refine⟨rfl,⟨_,H1,dS r [I _,U _ _ _,I _,I _,I _,I _,I _,I _,I _,I _,I _,I _,I _,I _] rfl,?_,C,Z⟩,y.same (b g o_),(H6.more (λk e=> .inl e)).trans (yY (.inr rfl) [I _,U _ _ _,I _,I _,I _,I _,I _,I _,I _,I _,I _,I _,I _,I _] d 0 (aq.refl _ _))⟩;have n:∀{A:OA}{x:LV},Row d _ A x->eB w.heap.size A x->Row _ (aH d _ 0 _).heap.size A x:=λZ u=>by
  rw[z];exact fO Z λk hk=>b k (λe=>by
   obtain⟨y,off,z⟩:=hk;have:=u k _ z y;omega)
 exact⟨n L.row C.1,λl H=>n (L.each l H) (C.2 l H)⟩
def Im:∀(args:AV)(w:World),(callFunc 193 args).run prog w = .ok (.enter 193 args) w:=by
 simp
def Gc(C gn:Nat)(S:List UInt8)(A:OA)(c m:Nat)(ys:List Fa)(p:aQ)(w:World)(hS:S=jv (decide (p.aj+1=ys.length)) m p)(r:sD S w.heap.size A m ys p w)(hx:aa w C 43 #[U A ys.length c,N m])(hn:aa w gn 157 zN) :
 Calls prog 192 #[T (str S),.func (.func 193) #[] #[Y C 0,Y gn 0]] w λe w'=>e = .returned (I 0)/\(∃nd,gy p gn w.heap.size w' nd)/\aq (·=gn) w w':=by
 have u:=Im;have u:=hx.lt;have u:=hn.lt;have d:Kp (E w (((w.alloc (.cells #[I 0] 49)).alloc (.cells #[T (str S),I 0,.bool true] 374)).alloc (.cells #[Y (w.heap.size+1) 0] 312))):=(by repeat(first|exact ah _ _|assumption|refine Below.drew ?_|(refine Below.alloc ?_ o_ _)|(refine Below.setCell ?_ o_ _)));have u:Kp (Rd (((w.alloc (.cells #[I 0] 49)).alloc (.cells #[T _,I 0,.bool _] _)).alloc (.cells #[Y (w.heap.size+1) 0] 312)) (w.heap.size+1) S 0):=(aa.lay s_).alloc _;have D:Kp (aa (((w.alloc _).alloc (.cells #[T (str S),I 0,.bool true] 374)).alloc (.cells #[Y (w.heap.size+1) 0] 312)) _ 49 #[I 0]):=((aa.lay rfl).alloc _).alloc _;have V3:Kp (aa (((w.alloc (.cells #[I 0] 49)).alloc (.cells #[T (str S),I 0,.bool true] 374)).alloc _) (w.heap.size+1+1) 312 #[Y (w.heap.size+1) 0]):=aa.lay s_;have y:=J (Il _ C _ S [] A c m _ p _ ⟨0,u,o_,o_⟩ ⟨(r.shape.below d.out).more o_,r.n16,r.m1,r.m3,r.ok,r.cells,r.len⟩ (hx.under d.out) (hn.under d.out) o_ o_);have O:=J (show S.length<=1000000 by have:=r.len;omega);clear hx hn r hS;have HQ:Kp (∀w',(∃nd,gy p _ _ _ _)->aq _ w _->(λ(e:Ending) w'=>e = .returned (I 0)/\(∃nd,gy p gn w.heap.size w' nd)/\aq (·=gn) w w') _ w'):=λw' h1 h2=>⟨rfl,h1,h2⟩;generalize u:(λ(e:Ending) w'=>e = .returned _/\(∃nd,gy p _ _ _ _)/\aq _ w _)=Q at*;clear u;go_enter_defers func192,ntmps192;go_wp2_with fail;generalize(((w.alloc _).alloc _).alloc _)=Z at*;apply y.mono;rintro e v⟨rfl,b,z,s⟩;have G:=V3.ax s o_;have L:=D.ax s o_;obtain⟨u,R,W,D,V⟩:=j5_ z b L G s;obtain⟨c0,f0⟩:=G.one;clear s z b G L y;have y:((0:Int) == 0)=true:=rfl;have H:=J (λn=>show Calls _ _ _ _ λe w'=>e = .returned (I 0)/\∃y,w'=(v.drewN n).drewN y from ON _ S [] _ u O);have O:=J (λn=>Eh _ S _ 3 (v.drewN n) u);go_wp2;go_quiet (first
  |(go_at_call 258;exact Calls.quiet_of (H _))
  |(go_at_call 257;exact rO (O _)))
 have y:=W.drewN nq;have X:=J (D.drewN nq);have F:Kp (Rs (v.drewN nq) _ S _):=u;have g:=J (V.drewN nq);obtain⟨nd,b⟩:=R;have B:Kp (gy p _ _ (v.drewN nq) _):=⟨b.plain,b.box,⟨b.at_.row,b.at_.each⟩,b.from_,b.fits⟩;have L:=J y;obtain⟨V,O⟩:=y.one;clear y c0 f0 b;generalize v.drewN _=z at*;obtain⟨u,G,_,_⟩:=F;have u:=V3.lt;have u:=L.set 0 (I 0);have y:=X.aJ (p:=(M w.heap.size 0)) o_ (I 0);have Z:=aa.aJ G (p:=(M w.heap.size 0)) s_ (I 0);have D:=u.aJ (p:=(M (w.heap.size+1) 2)) s_ (.bool false);have x:((z.setCell (M _ 0) _).setCell _ _).cell? _=some (I 0):=D.cell 0;have G:=J (HQ ((z.setCell (M w.heap.size 0) (I 0)).setCell (M (w.heap.size+1) 2) (.bool false)) ⟨_,((B.aJ o_ o_ _).aJ o_ o_ _).less o_⟩ (by
  refine⟨g.os.trans d.out.os,g.tape.trans d.out.tape,g.output.trans d.out.output,by have:=g.size;simp;omega,λk hk z=> ?_⟩;rw[Below.heap_setCell _ _ _ _ o_,Below.heap_setCell _ _ _ _ o_,g.block k o_ o_];exact d.out.block k hk))
 go_wp2;apply leaves_cons (f:=256) (args:=#[Y _ 0,Y _ 0]) s_ o_;apply(GZ _ _ _ _ (y.cell 0) (Z.cell 2) (Z.free 2)).mono;rintro e z z⟨rfl,rfl,rfl⟩;clear y Z u D V O;simp[Leaves,settle,results,go_sem,x];exact G
def AU(s:ByteArray)(n:Nat)(R:List UInt8)(w:World)(c:bl s=bX n++R)(u:n<=1048576)(g:s.size<=1000000) :
 Calls prog 117 #[T s] w (R_ (.tuple #[.int .i64 ((n+aM n:Nat):Int),.int .i64 0]) w):=by
 have f:=J (rX s n _ w g (by rw[show s.data.toList=bl s from rfl,c];exact tS n R o_));have p:=j7 n;have r:IntKind.i64.wrap _=n:=IntWalk.i64_in _ o_;have m:IntKind.i64.wrap (n+(aM n))=(n+aM n:Nat):=by rw[IntWalk.i64_in _ o_];omega
 clear c;generalize d:n+aM n=N at*;clear d;generalize aM n=z at*;go_in;go_wp2_with fail;apply f.mono;rintro e q⟨rfl,b⟩;go_wp2;go_ret2;trivial
def vo(p:aQ)(N:Nat)(w:World)(e:Ending)(w':World):Prop:=∃nd:Nd,e = .returned (.tuple #[.agg (aZ nd),.int .i64 (N:Nat),I 0])/\aK nd=p/\du w' w'.heap.size nd/\gW w.heap.size nd/\(∀l∈nd.ls,l.cs.length<=l.c)/\E w w'
def Iw(S:List UInt8)(A:OA)(c m:Nat)(ys:List Fa)(p:aQ)(w:World)(hS:S=jv (decide (p.aj+1=ys.length)) m p)(d:sD S w.heap.size A m ys p w)(g3:1<=ys.length) :
 Calls prog 118 #[.agg #[U A ys.length c,.int .i64 (m:Nat)],T (str (bX S.length++S))] w (vo p (S.length+aM S.length) w):=by
 have u:=j7 S.length;have d6:=d.len;have L:(str (bX S.length++S)).size=S.length+aM S.length:=by rw[dR,aE,j6];omega
 have d8:=J (λw=>AU _ S.length S w rfl o_ (by rw[L];omega));have d7:=J (λw=>rX _ _ _ w (by rw[L];omega) (tS S.length S o_));have hcut:∀W,(Instr.slice 9 (T _) (some (I _)) (some (I _)) _).run _ W = .ok (T _) W:=λW=>by
  have:=Txt.B8 (bX S.length++S) (aM S.length) (S.length+aM S.length) _ _ rfl rfl o_ (by rw[aE,j6];omega) W;rw[drop_left' (j6 _),Nat.add_sub_cancel,take_length]at this;omega
 obtain⟨V,O⟩:=d.ok;have u:=J d.shape;have Z:=J (λD gn W(u:E w W) hx G=>Gc D gn S A c m _ p W hS ⟨(d.shape.below u).more u.size,d.n16,d.m1,d.m3,d.ok,d.cells,o_⟩ hx G);have b4:=J (λnd W(u:E w W)(G:aK nd=p)(D:du W W.heap.size nd)=>show Calls _ _ #[.agg #[U A _ c,.int _ _],.agg (aZ nd)] W (R_ _ W) by
  subst G;exact tP A c m _ _ W ((d.shape.below u).more u.size) D d.n16 d.m1 d.m3 V O)
 have b:=(ah _ w).alloc (ae _) (.cells #[U A ys.length c,.int .i64 m] 43);have u:=b.alloc o_ (.cells zN 157);obtain⟨D,C,G⟩:=j3_ ((aa.new w 43 #[U A ys.length c,.int .i64 m]).alloc (.cells zN 157)) (aa.lay (w:=w.alloc (.cells #[U A ys.length c,.int .i64 m] 43)) (g:=w.heap.size+1) (t:=157) (cs:=zN) s_) u;have d4:((ys.length:Int) == 0)=false:=r_
 have L:decide ((str (bX S.length++S)).size<S.length+aM S.length)=false:=o_;have HQ:Kp (∀ nd w',aK _=p->du _ _ _->gW _ nd->(∀l∈nd.ls,l.cs.length<=l.c)->E w _->vo p (S.length+aM S.length) w (.returned (.tuple #[.agg #[I _,U _ _ _,I _,I _,I _,I _,I _,I _,I _,I _,I _,I _,I _,I _],I _,I 0])) w'):=λnd w' h1 h2 L h4 h5=>⟨_,rfl,h1,h2,L,h4,h5⟩;generalize L:vo p _ w=Q at*;clear L u b hS d O V d6;generalize S.length+aM _=N at*;generalize str _=s at*;generalize S.length=L at*;generalize aM L=z at*;obtain⟨u,c3⟩:=e_ ys.length;rw[c3]at D C G d4 b4 Z⊢;clear c3;generalize d5:(w.alloc _).alloc _=L at*;have u:=C.lt;go_in;go_wp2_with fail;apply(d8 _).mono;clear d5;rintro e u⟨rfl,b⟩;have b9:=ay G b;have n:=bu D b;have O:=bu C b;have V:=b.size;obtain⟨x0,x1,_,_⟩:=n.two;have F:=(ah _ u).alloc (ae _) (.cells zN 157);have V:Kp (aa _ u.heap.size 157 zN):=aa.new _ _ _;have Y:=bu n F;have X:=bu O F;have L:=ay b9 F;clear b D C G F n O b9;go_upto_region 5 with fail;clear x0 x1;generalize D:u.alloc _=G at*;clear D;generalize u.heap.size=gn at*;go_wp2_with fail;apply(d7 _).mono;rintro e O⟨rfl,q⟩;have a3:=bu V q;have u:=bu Y q;have r:=bu X q;have G:=ay L q;clear q V Y X L;have D:=r.lt;have D:=J (Z _ _ O G u a3);go_wp2_with fail;apply D.mono;rintro e w4⟨rfl,⟨nd,f⟩,x⟩;obtain⟨b2,V,a0,L⟩:=j4_ f (u.ax x (λe=>o_)) (r.ax x (λe=>o_)) (G.trans (x.toBelow (λk e=>o_) o_));have O:=J (b4 _ _ L f.plain f.at_);have i4:=G.size;obtain⟨x0,x1,_,_⟩:=V.two;have dD:=(aa.bK f.box).1;clear f x D u r a3;unfold aZ at O;go_wp2_with fail;apply O.mono;rintro e w5⟨rfl,D⟩;have a1:=J (b2.below D);have R:=bu a0 D;have d9:=ay L D;clear D x0 x1 dD V a0 O;have dD:=(aa.bK a1.box).1;obtain⟨⟨G,u,q2,D,V,O,L,q7,q8,q9,H,B,M,y⟩,f0,f1,f2,f3,f4,f5,f6,f7,f8,f9,g7,h0,i0,g4⟩:=aa.bK R;go_wp2;have b1:=dS R [I nd.aj,U nd.A nd.ls.length nd.c,I nd.all.key,I nd.all.child,I nd.all.ag.c,I nd.all.ag.s0,I nd.all.ag.n0,I nd.all.ag.x0,I nd.all.ag.s1,I nd.all.ag.n1,I nd.all.ag.x1,I nd.all.ag.s2,I nd.all.ag.n2,I nd.all.ag.x2] rfl;clear G u q2 D V O L q7 q8 q9 H B M y dD;obtain⟨G,u,q2,D,V,O,L,q7,q8,q9,H,B,M,y⟩:=(aa.bK b1).1;dsimp only[aH,Nat.zero_add,Nat.reduceAdd]at G u q2 D V O L q7 q8 q9 H B M y;have a9:=gy.jA o_ o_ [I nd.aj,U nd.A nd.ls.length nd.c,I nd.all.key,I nd.all.child,I nd.all.ag.c,I nd.all.ag.s0,I nd.all.ag.n0,I nd.all.ag.x0,I nd.all.ag.s1,I nd.all.ag.n1,I nd.all.ag.x1,I nd.all.ag.s2,I nd.all.ag.n2,I nd.all.ag.x2] _ 0 a1;refine bodyPost_ret (by simp[results,go_sem,G,u,q2,D,V,O,L,q7,q8,q9,H,B,M,y]) rfl (HQ _ _ b2.plain a9.at_ (a9.less o_).from_ a9.fits (fq o_ [I _,U _ _ _,I _,I _,I _,I _,I _,I _,I _,I _,I _,I _,I _,I _] _ 0 d9))
end Tc
end Go.Proofs.YtibjlpkpljnicaaGreatDoor
