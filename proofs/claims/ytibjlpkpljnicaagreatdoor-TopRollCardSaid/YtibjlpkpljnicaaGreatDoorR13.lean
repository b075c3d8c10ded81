/- Parts. -/
import Derived.Test.YtibjlpkpljnicaaGreatDoorR07
import Derived.Test.YtibjlpkpljnicaaGreatDoorR12
set_option maxRecDepth 100000
set_option maxHeartbeats 8000000
set_option linter.all false
namespace Go.Proofs.YtibjlpkpljnicaaGreatDoor
namespace Tc
open List Go.RowKit Base Go.Proofs.Tryz
def rk:(prog.info? 84).map (λi=>(i.zero,i.size,i.bytes))=some (some (Z),1,24):=k_
def nl(l:LN):LN×Ag:=(l,az)
def fL(f:Fa):Value:= U f.A f.keys.length f.c
def cV(w:World)(B:Nat)(v:Value)(xs:List Fa):Prop:=w.ownsRow B 84 1 v xs.length (xs.map fL)/\(∀x∈xs,bP w v x)/\eC B xs
structure cG(w:World)(B:Nat)(A:OA)(xs:List Fa):Prop where
 row:Row w B A (xs.map fL)
 each:∀x∈xs,Row w B x.A (an x.keys)
def cG.below{w w' B A xs}(h:cG w B A xs)(b:Below B w w'):cG w' B A xs:=⟨h.row.below b,λx hx=>(h.each x hx).below b⟩
def cG.more{w B b A xs}(h:cG w B A xs)(c:B<=b):cG w b A xs:=⟨h.row.more c,λx hx=>(h.each x hx).more c⟩
def cV.at_{w B n c A xs}(h:cV w B (U A n c) xs):cG w w.heap.size A xs:=by
 obtain⟨g,m,e⟩:=bY h.1;injection e with b d f;subst b d f;exact⟨dF h.1,λx hx=>(h.2.1 x hx).1⟩
def cV.below{w w' B v xs}(h:cV w B v xs)(b:E w w'):cV w' B v xs:=⟨bS h.1 b,λx hx=>(h.2.1 x hx).below b,h.2.2⟩
def cV.base{w B d v xs}(h:cV w B v xs)(g:d<=B):cV w d v xs:=⟨dZ h.1 g,h.2.1,λf m b off e c=>aF g (h.2.2 f m b _ e c)⟩
def cV.nil w B:cV w B (Z) []:=⟨cK _ _ _ _,(λx hx=>r_),λx hx=>r_⟩
def cV.app{w w' B n c b e A d xs f}(h:cV w B (U A n c) xs)(q:bP w (U A n c) f)(hk:eC B [f])(p:w'.ownsRow B 84 1 (U d b e) (n+1) (xs.map fL++[fL f]))(g:App w w' (U A n c) (U d b e))(m:xs.length=n):cV w' B (U d b e) (xs++[f]):=by
 refine⟨?_,λx hx=> ?_,λx hx=> ?_⟩
 .grind
 .obtain hx|hx:=mem_append.1 hx
  .exact(h.2.1 x hx).app g
  .rw[mem_singleton.1 hx];exact q.app g
 .obtain hx|hx:=mem_append.1 hx
  .exact h.2.2 x hx
  .exact hk x hx
def rj{w}{B n c:Nat}{A l v}(d:w.ownsRow B 3 1 (U A l.length c) l.length (an l))(g:∀k,v.ownBlock=some k->k<B){B0}(p:B0<=B):bP w v ⟨A,l,c,az⟩/\eC B0 [(⟨A,l,c,az⟩:Fa)]:=by
 refine⟨bP.new d g,λf q b off e m=> ?_⟩;rw[mem_singleton.1 q]at e;dsimp only at e;subst e;exact aF p (d.lt b rfl).1
structure uP(xs:List Fa)(m:Nat)(f:Fa):Prop where
 n:f.keys.length=xs.length
 lt:∀i(h:i<f.keys.length)(h':i<xs.length),∃h0:0<xs[i].keys.length,f.keys[i]<xs[i].keys[0]
 ag:eS m f.ag
def IU(A:OA)(c m:Nat)(xs:List Fa)(f:Fa)(w:World)(h:cG w w.heap.size A xs)(R:Row w w.heap.size f.A (an f.keys))(D:xs.length<=16)(H:1<=m)(hm:m<=3)(F:uP xs m f) :
 Calls prog 141 #[.agg #[.slice A xs.length c,.int .i64 m],.agg (bC f)] w λe w'=>e = .returned (.int .i64 0)/\Below w.heap.size w w':=by
 have B:=(ah _ w).alloc (ae _) (.cells #[U A xs.length c,I m] 43);have d:=B.alloc o_ (.cells (bC f) 89);obtain⟨q,p,r,E,s,Z⟩:=j6_ ((aa.new w 43 #[U A xs.length c,I m]).alloc (.cells (bC f) 89)) (aa.lay (w:=w.alloc (.cells #[U A xs.length c,I m] 43)) (g:=w.heap.size+1) (t:=89) (cs:=bC f) s_) d ((h.below d).more d.size) ((R.below d).more d.size) F;have HA:=J (λw=>sL m _ w H hm F.ag);have v:=F.n;clear h R F d B;obtain⟨n,O⟩:=e_ xs.length;have X:=J O;have G:=J v;unfold bC at q p r E s⊢;rw[v]at q p r E s⊢;rw[O]at q p r E s D⊢;clear O v;have u:(n == (n:Int))=true:=s_;go_in;go_wp2;generalize(w.alloc _).alloc _=u at*;obtain⟨z,u,_,_⟩:=q.two;have u:=aa.dk p;go_loop [17] (λx=>∃k:Nat,k<=n/\x = I k) (λx=>n-(intOf x).toNat)
 case atStart=>grind
 .obtain⟨k,hk,rfl⟩:=hrel;by_cases L:k<n
  .have b:k<xs.length:=by rw[X];omega
   have u:k<f.keys.length:=by rw[G];omega
   obtain⟨y,y,y,G,c0⟩:=Row.at_ E.row (by rw[lM];exact b);rw[getElem_map]at c0;obtain⟨G,of,M,G,V⟩:=Row.at_ s (by rw[ia];omega);unfold an at V;rw[getElem_map]at V;obtain⟨h0,G⟩:=Z.lt k u b;obtain⟨G,os,N,G,T⟩:=Row.at_ (E.each _ (gM b)) (by rw[ia];omega);unfold an at T;rw[getElem_map,Nat.add_zero]at T;unfold fL at c0;rw[N]at c0;rw[y]at z;rw[M];generalize(f.keys[k]'u)=y at*;generalize((xs[k]'b).keys[0]'h0)=z at*;generalize(xs[k]'b).keys.length=l at*;generalize(xs[k]'b).c=u at*;have u:((l:Int) == 0)=false:=o_;have Z:¬(y:Int)<0:=o_;have u:¬ z<=(y:Int):=o_;have u:0<=(k:Int):=o_;have p1:k<(n:Int):=o_;go_wp2;exact⟨⟨k+1,o_,o_⟩,o_⟩
  .obtain rfl:k=n:=o_;go_wp2_with fail;apply(HA _).mono;rintro e u⟨rfl,C⟩;have Y:=ay r C;clear C;go_wp2;go_ret;trivial
def sE(l:List Fa):Prop:=∀i(h:i+1<l.length),aI l[i].keys l[i+1].keys<0
def IV(A A':OA)(c c' m:Nat)(xs l:List Fa)(w:World)(h:cG w w.heap.size A xs)(hr:bM w w.heap.size A' l)(Y:xs.length<=16)(d5:l.length<=1000000)(b6:1<=m)(hm:m<=3)(ho:∀f∈l,uP xs m f)(hs:sE l) :
 Calls Tryz.prog 62 #[.agg #[.slice A xs.length c,.int .i64 m],.slice A' l.length c'] w λe w'=>e = .returned (.int .i64 0)/\Below w.heap.size w w':=by
 have a2:=(ah _ w).alloc (ae _) (.cells #[.slice A xs.length c,.int .i64 m] 43);have HB:=kp (aa.new w 43 #[.slice A xs.length c,.int .i64 m]);have a3:=kp a2;have Hh:=kp h;have Hr:=kp hr;have Ho:=kp ho;have Hs:=kp hs;have HC:=kp (λf w h1 h2 h3=>IU A c m _ f w h1 h2 Y b6 hm h3);have N:=kp te;have Hk:=kp (show∀f∈l,f.keys.length<=1000000 fromλf hf=>by have:=(ho f hf).n;omega);clear h hr ho hs a2;generalize hQ:(λ(e:Ending) w'=>e = .returned _/\Below _ w _)=Q;have HQ:=kp (show∀w',Below w.heap.size w w'->Q (.returned (.int .i64 0)) w' fromλw' hb=>r_);clear hQ;obtain⟨n,hn⟩:∃n,l.length=n:=⟨_,rfl⟩
 have Hn:=kp hn;rw[hn]at d5⊢;clear hn;go_enter Tryz.func62,Tryz.ntmps62;go_wp2
 go_loopw [10] (λH wr=>∃k:Nat,k<=n/\H = .int .i64 k/\aa wr w.heap.size 43 #[.slice A xs.length c,.int .i64 m]/\Below w.heap.size w wr) (λH _=>n-(intOf H).toNat)
 case atStart=>exact⟨0,o_,rfl,HB,a3⟩
 case round=>
  clear HB a3;obtain⟨k,hk,rfl,R,W⟩:=hrel;have b3:=kp R;have y:=kp W;clear R W;by_cases b9:k<n
  .have r:k<l.length:=by rw[Hn];omega
   have x:=(Hr.o.below y).more y.o.size;obtain⟨b,off,hA,hb,c0,c1,c2,c3,c4,c5,c6,c7,c8,c9,b0⟩:=x.cells k r;have hf:=x.keys _ (gM r);have a7:=kp (Ho _ (gM r));have b2:=kp (Hk _ (gM r));have d1:=kp (show∀q(h:q+1=k),aI (l[q]'(by omega)).keys (l[k]'r).keys<0 fromλq h=>by subst h;exact Hs q r);generalize(l[k]'r)=f at*;have s:=(ah _ wr).alloc (ae _) (.cells (bC f) 89);have a1:=kp (aa.new wr 89 (bC f));have J:=ay y s;have B:=bu b3 s;have Z:=kp ((x.below s).more s.size);have Hf:=kp ((hf.below s).more s.size);clear x hf s;have h6:0<=(k:Int):=o_
   have g7:k<(n:Int):=o_
   rw[hA];have HA:=kp hA;clear hA;go_upto_region 4 with fail
   clear c0 c1 c2 c3 c4 c5 c6 c7 c8 c9 b0;generalize wr.alloc _=W2 at*;generalize wr.heap.size=U at*;have aD:=aa.dk a1;obtain⟨x0,x1,_,_⟩:=B.o.two;have b8:=kp (HC f _ ((Hh.o.below J).more J.o.size) Hf a7);go_wp2_with fail;refine b8.o.mono ?_;rintro e z⟨rfl,g⟩;have I:=ay J g;have F:=bu a1 g;have D:=bu B g;have E:=kp ((Z.o.below g).more g.size);have d3:=kp ((Hf.o.below g).more g.size);clear g aD x0 x1;have aD:=aa.dk F;obtain _|q:=k
   .go_wp2;refine wp_region_noPanic ?_;refine br (t:=99) (S:=(λ_=>True)) k_ trivial (λd=> ?_);refine eR 0 1 2 d ?_;refine sk 3 d ?_;refine sk 4 d ?_;refine sk 5 d ?_;refine sk 6 d ?_;refine sk 7 d ?_;refine sk 8 d ?_;refine sk 9 d ?_;refine sk 10 d ?_;refine tk 11 d ?_;refine bQ k_ ?_ _
    try clear d
    refine NoPanic.normal ?_;go_wp2;exact⟨⟨1,o_,o_,D.o.drew,I.o.drew⟩,o_⟩
   .have v:q<l.length:=o_
    obtain⟨b',e0,d2,b1,p0,p1,p2,p3,p4,p5,p6,p7,p8,p9,a0⟩:=E.o.cells q v;have L:=HA.o.symm.trans d2;injection L with L
    injection L with b7 d0 _
    subst b7 d0;have a8:=d1 q rfl;have d4:=kp (N _ f z.drew (Hk _ (gM v)) b2 (E.o.keys _ (gM v)) d3);generalize(l[q]'v)=p at*;have i1:decide (0<=aI _ _)=false:=o_;generalize aI _ _=V at*;have h4:IntKind.i64.wrap _=q:=IntWalk.i64_in _ o_;have i7:0<=(q:Int):=o_
    have i2:q<(n:Int):=o_
    have b5:=b1;have d7:=F.o.lt;clear a8;go_wp2;refine wp_region_noPanic ?_;refine br (t:=99) (S:=(λw'=>(cF w' b _ p)/\(eG w' U f))) k_ ⟨⟨p0,p1,p2,p3,p4,p5,p6,p7,p8,p9,a0⟩,aD⟩ (λd=> ?_);refine tD 0 1 2 3 d ?_;refine tD 4 5 6 7 d ?_;refine tk 8 d ?_;refine oT 9 λK hK=>?_
    go_simp
    refine d4.o.mono ?_;rintro e wc⟨rfl,T⟩;have M:=kp T;clear T;refine oK hK ?_ λu=>?_
    .have e1:∀i,wc.cell? _=z.drew.cell? ⟨b,i,none⟩:=λi=>bF (by rw[M];exact(Below.heap_alloc _ _ _ o_).trans (Below.heap_alloc _ _ _ b5))
     have e2:∀i,wc.cell? _=z.drew.cell? ⟨U,i,none⟩:=λi=>bF (by rw[M];exact(Below.heap_alloc _ _ _ o_).trans (Below.heap_alloc _ _ _ d7))
     (try dsimp only[cA,gZ]);(try dsimp only[cF,eG]);(try dsimp only[cC,hJ,cN,iI]);simp only[C,e1,e2];omega
    replace d:=u;clear hK K u;refine tB 10 11 d ?_;refine bQ k_ ?_ _
    try clear d
    refine NoPanic.normal ?_;have G:=(show Below z.drew.heap.size _ wc by rw[M];exact(bR.alloc o_ _).alloc s_ _)
    have O:=kp (aa.under (w:=z.drew) D G);have X:=kp (I.o.drew.trans (G.mono I.o.size));clear G;go_wp2;exact⟨⟨q+2,o_,o_,O,X⟩,o_⟩
  .obtain rfl:k=n:=o_
   have Hf:=kp (HQ _ y);go_wp2;exact Hf
structure im(last:Bool)(X:LN)(m:Nat)(p:aQ):Prop where
 ls:p.lists.length=X.length
 n1:1<=p.lists.length
 n4:p.lists.length<=4
 rB:∀l∈p.lists,l.length<=1000000
 size:∀y∈X,y<=1000000
 each:∀(k:Nat)(l:List Cl)(y:Nat),p.lists[k]? = some l->X[k]? = some y->sw last m y l
 pI:∀(k:Nat)(l l':List Cl),p.lists[k]? = some l->p.lists[k+1]? = some l'->l'.length<=l.length
 xw:p.all.key=0
 child:p.all.child<=2000000
 all:kj last m p.all
def rA{ls:List Ll}{k:Nat}(h:k<ls.length):(ls.map Ll.cs)[k]? = some ls[k].cs:=by
 grind
def tP(A:OA)(c m:Nat)(xs:List Fa)(n:Nd)(w:World)(h:cG w w.heap.size A xs)(hr:du w w.heap.size n)(g8:xs.length<=16)(b7:1<=m)(hm:m<=3)(f:n.aj<xs.length)(M:im (decide (n.aj+1=xs.length)) (xs[n.aj]'f).keys m (aK n)) :
 Calls Tryz.prog 150 #[.agg #[.slice A xs.length c,.int .i64 m],.agg (aZ n)] w λe w'=>e = .returned (.int .i64 0)/\Below w.heap.size w w':=by
 obtain⟨aj,nA,ls,nc,key,child,ac,s0,n0,x0,s1,n1,x1,s2,n2,x2⟩:=n;have L:=M.ls;have a8:=M.n1;have b5:=M.n4;have G:=M.xw;have O:=kp M.rB;have H:=kp M.size;have y:=kp M.each;have R:=kp M.pI;have r:=kp M.child;have N:=kp M.all;clear M;dsimp only[aK]at f L a8 b5 G O H y R r N;rw[lM]at L a8 b5;have HL:=kp (λA' size c' l w h1 h2 h3 h4=>LA A A' xs.length c m aj size c' l w h1 h2 o_ o_ o_ b7 hm h3 h4);have HC:=kp (λw=>CF A _ c m _ _ w o_ o_ o_ b7 hm r.o N);obtain⟨bx,Z,rfl,a2,x⟩:=Row.at_ h.row (by rw[lM];exact f);rw[getElem_map]at x;unfold fL at x;have hX:=h.each _ (gM f);generalize(xs[aj]'f)=X at*;rw[<-L]at x;have g0:=kp L;clear L;obtain⟨D,c5⟩:∃D,xs.length=D:=⟨_,rfl⟩
 obtain⟨s,a7⟩:∃s,ls.length=s:=⟨_,rfl⟩
 have c7:=kp a7;dsimp only[aZ];rw[c5]at HL HC g8 f y⊢;rw[a7]at x a8 b5⊢;clear c5 a7 r N b7 hm h;have a5:=(ah _ w).alloc (ae _) (.cells #[.slice (some ⟨bx,Z,none⟩) D c,.int .i64 m] 43);have z:=a5.alloc o_ (.cells #[.int .i64 aj,.slice nA s nc,.int .i64 key,.int .i64 child,.int .i64 ac,.int .i64 s0,.int .i64 n0,.int .i64 x0,.int .i64 s1,.int .i64 n1,.int .i64 x1,.int .i64 s2,.int .i64 n2,.int .i64 x2] 157);have e1:=kp ((aa.new w 43 #[.slice (some ⟨bx,Z,none⟩) D c,.int .i64 m]).alloc (.cells #[.int .i64 aj,.slice nA s nc,.int .i64 key,.int .i64 child,.int .i64 ac,.int .i64 s0,.int .i64 n0,.int .i64 x0,.int .i64 s1,.int .i64 n1,.int .i64 x1,.int .i64 s2,.int .i64 n2,.int .i64 x2] 157));have e4:=kp (aa.lay (w:=w.alloc (.cells #[.slice (some ⟨bx,Z,none⟩) D c,.int .i64 m] 43)) (g:=w.heap.size+1) (t:=157) (cs:=#[.int .i64 aj,.slice nA s nc,.int .i64 key,.int .i64 child,.int .i64 ac,.int .i64 s0,.int .i64 n0,.int .i64 x0,.int .i64 s1,.int .i64 n1,.int .i64 x1,.int .i64 s2,.int .i64 n2,.int .i64 x2]) s_);clear a5;generalize g4:(w.alloc _).alloc _=W0 at*;have e2:=kp z;have HX:=kp ((hX.below z).more z.size);have b9:=kp ((hr.below z).more z.size);replace x:=(z.cell (p:=⟨bx,Z+aj,none⟩) a2).trans x;clear hX hr z a2;generalize hQ:(λ(e:Ending) w'=>e = .returned _/\Below _ w _)=Q;have HQ:=kp (show∀w',Below w.heap.size w w'->Q (.returned (.int .i64 0)) w' fromλw' hb=>r_);clear hQ;obtain⟨b0,b1,_,_⟩:=e1.o.two;obtain⟨d0,d1,d2,d3,d4,d5,d6,d7,d8,d9,Y,W,T,a0⟩:=(aa.bK e4).1;have q1:¬(aj:Int)<0:=o_
 have g9:=decide_eq_false q1;have q2:¬(D:Nat)<=(aj:Int):=o_
 have g3:decide (D<=aj)=false:=o_;have q3:((s:Int) == 0)=false:=o_
 have q5:((key:Int) != 0)=false:=o_
 clear G;have p0:0<=(aj:Int):=o_
 have p1:(aj:Nat)<(D:Int):=o_
 go_enter Tryz.func150,Tryz.ntmps150;go_upto_region 2 with fail
 clear g4;refine wp_region_noPanic ?_;refine br (t:=99) (S:=(λw'=>(w'.cell? _=some _/\w'.cell? _=some _)/\w'.cell? _=some _/\w'.cell? _=some (.slice _ s _))) k_ ⟨⟨b0,d0⟩,d1,x⟩ (λb=> ?_);refine tD 0 1 2 3 b ?_;refine tD 4 5 6 7 b ?_;refine tD 8 9 10 11 b ?_;refine tD 12 13 14 15 b ?_;refine tD 16 17 18 19 b ?_;refine tD 20 21 22 23 b ?_;refine tD 24 25 26 27 b ?_;refine tB 28 29 b ?_;refine bQ k_ ?_ _
 try clear b
 refine NoPanic.normal ?_;go_wp2;clear b0 b1 d0 d1 d2 d3 d4 d5 d6 d7 d8 d9 Y W T a0 q1 g9 q2 g3 q3
 go_loopw [41] (λa9 wr=>∃k:Nat,k<=s/\a9 = .int .i64 k/\Below W0.heap.size W0 wr) (λa9 _=>s-(intOf a9).toNat)
 case atStart=>exact⟨0,o_,rfl,bR.drew⟩
 case round=>
  obtain⟨k,hk,rfl,I⟩:=hrel;have u:=kp I;have F:=bu e1 I;have E:=bu e4 I;have U:=al I x;clear I;obtain⟨b0,b1,_,_⟩:=F.o.two;obtain⟨d0,d1,d2,d3,d4,d5,d6,d7,d8,d9,Y,W,T,a0⟩:=(aa.bK E).1;by_cases g5:k<s
  .have d:k<ls.length:=by rw[c7];omega
   have J:k<X.keys.length:=by rw[<-g0];omega
   have a6:=(b9.o.below u).more u.o.size;obtain⟨bl,ol,hA,n6,l0⟩:=Row.at_ a6.row (by rw[lM];exact d);rw[getElem_map]at l0;obtain⟨bk,ok,c3,k1,k0⟩:=Row.at_ ((HX.o.below u).more u.o.size) (by rw[ia];omega);unfold an at k0;rw[getElem_map]at k0;have h6:=H _ (gM J);have g6:=O _ (mem_map_of_mem (gM d));have f5:=kp (λw' hb=>HL _ (X.keys[k]'J) (ls[k]'d).c _ w' (((a6.each _ (gM d)).below hb).more hb.size) g6 h6 (y k _ _ (rA d) (gE J)));have f7:=kp (show∀q(h:q+1=k),(ls[k]'d).cs.length<=(ls[q]'(by omega)).cs.length fromλq h=>by subst h;exact R q _ _ (rA o_) (rA d));unfold dq at l0;generalize(X.keys[k]'J)=sz at*;generalize(ls[k]'d).cs.length=ll at*;generalize(ls[k]'d).A=lA at*;generalize(ls[k]'d).c=lc at*;dsimp only at hA;subst hA;rw[c3]at U;clear c3 a6;have m4:0<=(k:Int):=o_
   have j3:k<(s:Int):=o_
   have a2:=mq U;dsimp only at a2;go_upto_region 6 with fail
   refine wp_region_noPanic ?_;refine br (t:=99) (S:=(λw'=>(w'.cell? _=some _/\w'.cell? _=some _)/\w'.cell? _=some _/\w'.cell? _=some (.slice _ s _)/\w'.cell? _=some (.int _ _))) k_ ⟨⟨b0,b1⟩,d0,U,k0⟩ (λb=> ?_);refine tD 0 1 2 3 b ?_;refine tD 4 5 6 7 b ?_;refine tD 8 9 10 11 b ?_;refine tk 12 b ?_;refine oT 13 λK hK=>?_
   go_simp
   refine(f5 _ (bR.drew)).mono ?_;rintro e wc⟨rfl,c9⟩;have v:=kp (show Below wr.heap.size _ _ from bR.drew.trans c9);clear c9;refine oK hK ?_ λC=>?_
   .exact⟨⟨al v b0,al v b1⟩,al v d0,al v U,al v k0⟩
   replace b:=C;clear hK K C;refine tk 14 b ?_;refine bQ k_ ?_ _
   try clear b
   refine NoPanic.normal ?_;have B:=kp (u.o.trans (v.o.mono u.o.size));have c6:=kp (F.o.under v);have c8:=kp (E.o.under v);have a4:=(b9.o.below B).more B.o.size;have b6:=kp a4.row;clear a4 b0 b1 d0 d1 d2 d3 d4 d5 d6 d7 d8 d9 Y W T a0;obtain⟨d0,d1,d2,d3,d4,d5,d6,d7,d8,d9,Y,W,T,a0⟩:=(aa.bK c8).1;obtain _|q:=k
   .go_wp2;exact⟨⟨1,o_,o_,B⟩,o_⟩
   .have a3:q<ls.length:=o_
    obtain⟨k6,j2,V,i2,l1⟩:=Row.at_ b6 (by rw[lM];omega);rw[getElem_map]at l1;unfold dq at l1;have j1:=f7 q rfl;dsimp only at V;injection V with V
    injection V with g7 f6 _
    subst g7 f6;generalize(ls[q]'a3).cs.length=lq at*;generalize(ls[q]'a3).A=qA at*;generalize(ls[q]'a3).c=qc at*;have r1:¬(lq:Nat)<(ll:Int):=o_
    have m8:IntKind.i64.wrap _=q:=IntWalk.i64_in _ o_;have j0:0<=(q:Int):=o_
    have k8:q<(s:Int):=o_
    go_wp2;exact⟨⟨q+2,o_,o_,B⟩,o_⟩
  .obtain rfl:k=s:=o_
   go_wp2_with fail;refine(HC _).mono ?_;rintro e w3⟨rfl,b4⟩;have Hf:=kp (HQ _ (e2.o.trans ((u.o.trans (b4.mono u.o.size)).mono e2.o.size)));clear b4;go_wp2;exact Hf
def cV.aJ{w B v xs}(h:cV w B v xs){p}(q:p.block<B) u:cV (w.setCell p u) B v xs:=by
 obtain⟨⟨h1,h2⟩,f,d⟩:=h;refine⟨⟨h1,?_⟩,λx hx=>⟨?_,(f x hx).2⟩,d⟩
 .obtain h2|⟨g,cap,cur,e,m,n,r⟩:=h2
  .grind
  .exact .inr ⟨g,_,_,e,m,(Below.heap_setCell w p u g o_).trans n,r⟩
 .have:=mI (f x hx).1 (λb off e c=>Below.heap_setCell w p u b (by have:=d x hx b _ e c;omega));rw[show(w.setCell p u).heap.size=w.heap.size by simp];omega
def oZ(s:aN)(w:World)(e:Ending)(w':World):Prop:=∃(A:OA)(c:Nat)(xs:List Fa),e = .returned (.agg #[U A xs.length c,I s.aC.length])/\cV w' w.heap.size (U A xs.length c) xs/\xs.map Fa.keys=s.af.map aW/\E w w'
def PH s w(h:cQ w w.heap.size s)(ho:cJ s):Calls prog 61 #[.agg (aG s)] w (oZ s w):=by
 obtain⟨i0,g7,g8,f5,i6⟩:=info_parts rk;have HQ:Kp (∀A c xs w',cV _ _ (U A _ c) xs->xs.map _=s.af.map _->E w _->oZ s w _ w'):=λA c xs w' h1 h2 h3=>⟨A,c,_,rfl,h1,h2,h3⟩;have HS:=J PK;have Hh:=J h;have Ho:=J ho;have d9:=ho.n2;have d0:=(ah _ w).alloc (ae _) (.cells (aG s) 25);have HB:=J (aa.new w 25 (aG s));have b0:=J d0;clear h ho d0;generalize hQ:oZ s w=Q at*;clear hQ;unfold aG at HB b0⊢;obtain⟨z0,z1,_,_⟩:=HB.two;obtain⟨m,hm⟩:=e_ s.af.length
 have Hm:=J hm;rw[hm]at z0 d9 HB b0⊢;clear hm;go_in;go_wp2;clear z0 z1;obtain⟨W1,D⟩:=e_ ((w.alloc (.cells #[.slice s.A m s.c,.slice s.Am s.aC.length s.cm] 25)).alloc (.cells #[.slice none 0 0,.int .i64 0] 43))
 have a4:W1.heap.size=w.heap.size+1+1:=by rw[<-D];simp
 have b5:=J (show E w W1 by rw[<-D];exact b0.alloc s_ _);have d8:=J (show aa W1 (w.heap.size+1) _ #[Z,I 0] by rw[<-D];exact aa.lay s_);have f9:=J (b5.alloc o_ (.cells #[Z,I s.aC.length] 43));have c8:=J (d8.alloc (.cells #[Z,I s.aC.length] 43));have c9:Kp (aa _ _ 43 #[Z,I s.aC.length]):=aa.lay a4;rw[D];clear D d8 b5;generalize hM:W1.alloc _=W2 at*
 clear hM a4
 go_loopw [13] (λa6 wr=>∃(k:Nat)(xs:List Fa)(A:OA)(c:Nat),k<=m/\a6 = I k/\xs.length=k/\xs.map Fa.keys=(s.af.take k).map aW/\aa wr (w.heap.size+1) 43 #[Z,I 0]/\aa wr (w.heap.size+1+1) 43 #[U A k c,I s.aC.length]/\cV wr (w.heap.size+1+1+1) (U A k c) xs/\E w wr) (λa6 _=>m-(intOf a6).toNat)
 case atStart=>exact⟨0,_,_,0,o_,rfl,rfl,rfl,c8,c9,cV.nil _ _,f9⟩
 .obtain⟨k,xs,A,c,hk,rfl,c6,e0,e8,d4,a3,d6⟩:=hrel;have a1:=J c6;have d2:=J e0;have b4:=J e8;have a7:=J d4;have O:=J a3;have Y:=J d6;clear c6 e0 e8 d4 a3 d6;by_cases f8:k<m
  .have q:k<s.af.length:=by rw[Hm];omega
   have a8:=(Hh.below Y).more Y.size;obtain⟨b,off,hA,hb,c0,c1⟩:=a8.aj k q;have e6:=a8.af _ (gM q);have a0:=(ah _ wr).alloc (ae _) (.cells (aU (s.af[k]'q)) 70);have b3:=ay Y a0;have a5:=J (λW(hW:E _ W)=>HS _ W ((e6.below hW).more hW.size) (Ho.af k q).n2);have H:=J a0;have d3:=J (aa.new wr 70 (aU (s.af[k]'q)));have i9:Kp (∀f:Fa,f.keys=aW (s.af[k]'q)->(xs++[f]).map _=(s.af.take _).map _):=(λf hf=>by rw[take_succ_eq_append_getElem,map_append,map_append,d2,map_cons,map_nil,map_cons,map_nil,hf]);unfold aU at a5 H d3 b3 a0;generalize(s.af[k]'q).A=dA at*;generalize(s.af[k]'q).name=dn at*;generalize(s.af[k]'q).ai.length=dl at*;generalize(s.af[k]'q).c=dc at*;have m5:0<=(k:Int):=o_
   have l7:k<(m:Int):=o_
   rw[hA];have h7:Kp _:=a7.lt;clear a8 e6 a0 hA;go_upto_region 5 with fail
   clear c0 c1;have b6:Kp ((Value.slice A k c).ownBlock≠some wr.heap.size):=(λhh=>by have:=(O.1.lt _ hh).2;omega);have N:=J (a7.under H);have d1:=J (b4.under H);have L:=J (O.below H);have b7:=J H.drew;have h4:wr.heap.size<(wr.alloc (.cells #[T dn,U dA dl dc] 70)).heap.size:=s_
   generalize i2:wr.alloc _=W3 at*;have c3:=J (a5 _ b7);clear i2 a5;generalize i1:wr.heap.size=g5 at*;clear i1;obtain⟨y0,y1,_,_⟩:=d3.two;obtain⟨x0,x1,f0,_⟩:=N.two;have V:=N.lt;apply wp_region_noPanic;refine br (t:=7) (S:=(λw'=>(C w' _ 0 _/\w'.frozen? (M _ 0)=false)/\(C w' _ 0 _/\C w' _ 1 _))) k_ ⟨⟨x0,f0⟩,y0,y1⟩ (λd=> ?_);apply eR 0 1 2 d;refine oT 3 λK hK=>?_
   go_simp
   apply c3.mono;rintro e X⟨v4,rfl,z,d5⟩;obtain⟨A4,c4,rfl⟩:=bY z;have b1:=J z;have r:Kp (E W3 X):=bR.drew.trans d5;clear z d5;refine oK hK ?_ λg=>?_
   .exact⟨⟨al r d.1.1,by rw[iJ r _ _ V];omega⟩,al r d.2.1,al r d.2.2⟩
   replace d:=g;clear hK K g;have y:=bh V r.size;have F:=J (L.below r);have HN:=J (rj (n:=0) (B0:=w.heap.size+1+1+1) b1 (λj hj=>(L.1.lt j hj).2) V);have b9:=J (N.under r);have d7:=J (d1.under r);have b8:=J (b3.trans (r.mono o_));have x:=J (by have:=F.1;rw[a1]at this;omega);have i8:k<1048576*64:=o_
   have R:Kp (∀j,j<w.heap.size+1+1+1->(Value.slice A k c).ownBlock≠some j):=(λj hj hh=>by have:=(x.lt j hh).1;omega);refine oT 4 λK hK=>?_
   go_simp
   refine oK hK ?_ λg=>?_
   .exact⟨⟨al (bR.alloc o_ _) d.1.1,by rw[iJ (bR.alloc o_ _) _ _ y];exact d.1.2⟩,al (bR.alloc o_ _) d.2.1,al (bR.alloc o_ _) d.2.2⟩
   replace d:=g;clear hK K g;refine oT 5 λK hK=>?_
   apply jq rfl _ _ _ rfl _ 84 _ _ _ underlying41 g7 g8 f5 i6 rfl X (U _ _ _) rfl (U A k c) k _ rfl x rfl i8 d_ y;intro v5 w5 B G;obtain⟨A5,c5,h5⟩:=bY B;subst h5;have b2:=J B;have u:=J G;clear B G
   go_simp
   refine oK hK ?_ λg=>?_
   .have e1:=(u.bI y (R _ o_))
    have e2:=(Below.heap_alloc X (.cells #[U A4 (aW (s.af[k]'q)).length c4] 84) _ y)
    have a2:=bh h4 r.size;have e3:=(u.bI a2 b6)
    have e4:=(Below.heap_alloc X (.cells #[U A4 (aW (s.af[k]'q)).length c4] 84) _ a2)
    exact⟨⟨(bF (e1.trans e2.symm)).trans d.1.1,by have h:=d.1.2;unfold World.frozen? at h⊢;grind⟩,(bF (e3.trans e4.symm)).trans d.2.1,(bF (e3.trans e4.symm)).trans d.2.2⟩
   replace d:=g;clear hK K g;apply tk 6 d;refine fC (o:= ?op7) k_ ?ap7 k_ (λK hK=> ?bp7)
   case ap7=>rfl
   obtain⟨⟨f3,m6⟩,_⟩:=d
   go_simp
   apply hK.out _ _;clear hK K;apply NoPanic.normal
   have HF:=J (cV.app F HN.1 HN.2 b2 u a1);have g0:w.heap.size+1≠w.heap.size+1+1:=o_
   go_wp2;refine⟨⟨_,xs++[⟨A4,aW _,c4,az⟩],A5,c5,o_,o_,by rw[aE,a1];rfl,i9 _ rfl,?_,?_,?_,?_⟩,o_⟩
   .exact(Below.heap_setCell _ _ _ _ g0).trans ((u.bI o_ (R _ o_)).trans d7)
   .exact aa.set ((u.bI y (R _ o_)).trans b9) 0 _
   .exact HF.aJ s_ _
   .exact(u.below b8 x o_ o_).setCell o_ _
  .obtain rfl:k=m:=o_
   obtain⟨x0,x1,_,_⟩:=a7.two;obtain⟨q0,q1,f0,f1⟩:=b4.two;have HF:=J (HQ A c xs);rw[a1]at HF;have a9:=J (by have:=d2.o;rw[take_of_length_le (by rw[Hm];omega)]at this;omega);have h0:=J (((O.aJ (p:=(M (w.heap.size+1) 0)) o_ (U A k c)).aJ (p:=(M (w.heap.size+1) 1)) o_ (I s.aC.length)).base (show w.heap.size<=w.heap.size+1+1+1 by omega));have g6:=J ((Y.setCell (p:=(M (w.heap.size+1) 0)) s_ (U A k c)).setCell (p:=(M (w.heap.size+1) 1)) s_ (I s.aC.length));go_wp2;have f4:aa ((wr.setCell (M _ 0) _).setCell (M _ 1) _) _ _ #[U A k c,I s.aC.length]:=(b4.set 0 _).set 1 _;clear q0 q1;obtain⟨q0,q1,_,_⟩:=f4.two;refine bodyPost_ret (by simp[results,go_sem,q0,q1]) rfl (HF _ h0 a9 g6)
def JN:(prog.info? 41).map (λi=>(i.zero,i.size,i.bytes))=some (some (Z),1,24):=k_
def cG.same{w w' B A l}(h:cG w B A l)(g:∀b,cz A l b->w'.heap[b]? = w.heap[b]?):cG w' B A l:=
 ⟨mI h.row (λb off e c=>g b (.inl ⟨_,e,r_⟩)),λf d=>mI (h.each f d) (λb off e c=>g b (.inr ⟨f,d,_,e,c⟩))⟩
def cG.bU{w B A l}(h:cG w B A l){b}(m:cz A l b):b<B:=by
 obtain⟨off,e,d⟩|⟨f,m,off,e,d⟩:=m
 .obtain h0|⟨p,g,c,q,_⟩:=h.row
  .exact absurd (map_eq_nil_iff.1 h0) d
  grind
 .obtain h0|⟨p,g,c,q,_⟩:=h.each f m
  .grind
  grind
def kP(w:World)(v:Value)(r:Rn):Prop:=cG w w.heap.size r.A r.fs/\∀b,cz r.A r.fs b->v.ownBlock≠some b
def kP.app{wr w' v g r}(h:kP wr v r)(e:App wr w' v g):kP w' g r:=by
 have d:∀b,cz _ _ b->b<wr.heap.size:=λb c=>h.1.bU c;refine⟨(h.1.same (λb c=>e.bI (d b c) (h.2 b c))).more e.grown.size,λb c=> ?_⟩;obtain f|⟨k,f,hk⟩:=e.j4
 .rw[f];exact h.2 b c
 grind
def kP.below{w w' v r}(h:kP w v r)(b:E w w'):kP w' v r:=⟨(h.1.below b).more b.size,h.2⟩
def cV.o3{w B n c A l}(h:cV w B (U A n c) l){b}(m:cz A l b):B<=b:=by
 obtain⟨off,e,d⟩|⟨f,g,off,e,d⟩:=m
 .have:=h.1;rw[e]at this;exact(this.lt b rfl).1
 .exact h.2.2 f g b _ e d
def kP.new{w B n c A l v}(h:cV w B (U A n c) l)(f:∀k,v.ownBlock=some k->k<B):kP w v ⟨A,l,c⟩:=by
 refine⟨h.at_,λb d e=> ?_⟩;have h1:=f b e;have h2:=h.o3 d;omega
def iF(w:World)(B:Nat)(v:Value)(rs:List Rn):Prop:=w.ownsRow B 41 1 v rs.length (rs.map fy)/\∀r∈rs,kP w v r/\∀b,cz r.A r.fs b->B<=b
def iF.nil w B:iF w B (Z) []:=⟨cK _ _ _ _,λx hx=>r_⟩
def iF.below{w w' B v rs}(h:iF w B v rs)(c:E w w'):iF w' B v rs:=⟨bS h.1 c,λr b=>⟨(h.2 r b).1.below c,(h.2 r b).2⟩⟩
def iF.app{w w' B n c d f A e rs r}(h:iF w B (U A n c) rs)(s:kP w (U A n c) r)(q:∀b,cz r.A r.fs b->B<=b)(m:w'.ownsRow B 41 1 (U e d f) (n+1) (rs.map fy++[fy r]))(g:App w w' (U A n c) (U e d f))(p:rs.length=n):iF w' B (U e d f) (rs++[r]):=by
 refine⟨?_,λx hx=> ?_⟩
 .grind
 .obtain hx|hx:=mem_append.1 hx
  .exact⟨(h.2 x hx).1.app g,(h.2 x hx).2⟩
  .rw[mem_singleton.1 hx];exact⟨s.app g,q⟩
structure jr(w:World)(B:Nat)(A:OA)(rs:List Rn):Prop where
 row:Row w B A (rs.map fy)
 each:∀r∈rs,cG w B r.A r.fs
def jr.below{w w' B A rs}(h:jr w B A rs)(b:Below B w w'):jr w' B A rs:=⟨h.row.below b,λr c=>(h.each r c).below b⟩
def jr.more{w B b A rs}(h:jr w B A rs)(c:B<=b):jr w b A rs:=⟨h.row.more c,λr d=>(h.each r d).more c⟩
def iF.at_{w B n c A rs}(h:iF w B (U A n c) rs):jr w w.heap.size A rs:=by
 obtain⟨m,p,e⟩:=bY h.1;injection e with g d b;subst g d b;exact⟨dF h.1,λr f=>(h.2 r f).1.1⟩
def tq(A:OA)(rs:List Rn)(b:Nat):Prop:=(∃off,A=some ⟨b,off,none⟩/\rs≠[])\/∃r∈rs,cz r.A r.fs b
def jr.same{w w' B A rs}(h:jr w B A rs)(d:∀b,tq A rs b->w'.heap[b]? = w.heap[b]?):jr w' B A rs:=
 ⟨mI h.row (λb off e c=>d b (.inl ⟨_,e,r_⟩)),λr f=>(h.each r f).same (λb g=>d b (.inr ⟨r,f,g⟩))⟩
def jr.bU{w B A rs}(h:jr w B A rs){b}(f:tq A rs b):b<B:=by
 obtain⟨off,e,d⟩|⟨r,m,f⟩:=f
 .obtain h0|⟨p,g,c,q,_⟩:=h.row
  .exact absurd (map_eq_nil_iff.1 h0) d
  grind
 .exact(h.each r m).bU f
def iF.o3{w B n c A rs}(h:iF w B (U A n c) rs){b}(m:tq A rs b):B<=b:=by
 obtain⟨off,e,d⟩|⟨r,g,f⟩:=m
 .have:=h.1;rw[e]at this;exact(this.lt b rfl).1
 .exact(h.2 r g).2 b f
def dP(d:au):List LN:=(range d.ai.length).map (iw d)
def vc(s:aN)(w:World)(e:Ending)(w':World):Prop:=∃(A:OA)(c:Nat)(rs:List Rn),e = .returned (U A rs.length c)/\iF w' w.heap.size (U A rs.length c) rs/\rs.map (λr=>r.fs.map Fa.keys)=s.af.map dP/\E w w'
def KM s w(h:cQ w w.heap.size s)(ho:cJ s):Calls Tryz.prog 64 #[.agg (aG s)] w (vc s w):=by
 obtain⟨i0,f3,f4,e6,g8⟩:=info_parts JN;obtain⟨j0,g3,e9,f9,e7⟩:=info_parts rk;have HM:=kp KV;have HQ:=kp (show∀A c rs w',iF _ _ (.slice A _ c) _->rs.map (λr=>r.fs.map Fa.keys)=s.af.map _->Below _ w _->vc s w (.returned (.slice A _ c)) w' fromλA c rs w' h1 h2 h3=>⟨A,c,rs,rfl,h1,h2,h3⟩);have Hh:=kp h;have Ho:=kp ho;have c9:=ho.n2;have c3:=(ah _ w).alloc (ae _) (.cells (aG s) 25);have HB:=kp (aa.new w 25 (aG s));have a4:=kp c3;clear h ho c3;generalize hQ:vc s w=Q at*;clear hQ;unfold aG at HB a4⊢;obtain⟨z0,z1,_,_⟩:=HB.o.two;obtain⟨m,hm⟩:∃m,s.af.length=m:=⟨_,rfl⟩
 have Hm:=kp hm;rw[hm]at z0 c9 HB a4⊢;clear hm;go_enter Tryz.func64,Tryz.ntmps64;go_wp2;clear z0 z1;generalize w.alloc (.cells #[.slice _ m _,.slice _ _ _] _)=W0 at*
 go_loopw [3,11] (λv3 a2 wr=>∃(k:Nat)(rs:List Rn)(A:OA)(c:Nat),k<=m/\a2 = .int .i64 k/\v3 = .slice A k c/\rs.length=k/\rs.map (λr=>r.fs.map Fa.keys)=(s.af.take k).map dP/\iF wr w.heap.size (.slice A k c) rs/\Below w.heap.size w wr) (λ_ a2 _=>m-(intOf a2).toNat)
 case atStart=>exact⟨0,_,_,0,o_,rfl,rfl,rfl,rfl,iF.nil _ _,a4⟩
 case round=>
  obtain⟨k,rs,A,c,hk,rfl,rfl,b5,b2,V,b1⟩:=hrel;have N:=kp b5;have a7:=kp b2;have U:=kp V;have D:=kp b1;clear b5 b2 V b1;by_cases d5:k<m
  .have d:k<s.af.length:=by rw[Hm];omega
   have X:=(Hh.o.below D).more D.o.size;obtain⟨b,off,hA,hb,c0,c1⟩:=X.aj k d;have d2:=X.af _ (gM d);have Z:=Ho.o.af k d;have k2:=Z.n2;have I:=(ah _ wr).alloc (ae _) (.cells (aU (s.af[k]'d)) 70);have c4:=ay D I;have d1:=kp (λto W f2 hW=>HM _ to W ((d2.below hW).more hW.size) Z f2);have b9:=kp I;have O:=kp (aa.new wr 70 (aU (s.af[k]'d)));have u:=kp (U.o.below I);have e2:=kp (show∀r:Rn,r.fs.map _=dP (s.af[k]'d)->(rs++[r]).map (λr=>r.fs.map Fa.keys)=(s.af.take _).map _ fromλr hr=>by rw[take_succ_eq_append_getElem,map_append,map_append,a7,map_cons,map_nil,map_cons,map_nil,hr]);unfold aU at d1 b9 O c4 I u
   have HD:=kp (show∀j hj,(dP (s.af[k]'d)).take (j+1)=(dP (s.af[k]'d)).take j++[iw (s.af[k]'d) j]fromλj hj=>by
    rw[take_succ_eq_append_getElem (by unfold dP;rw[lM,length_range];exact hj)];unfold dP
    simp)
   have d6:=kp (show(dP (s.af[k]'d)).length=(s.af[k]'d).ai.length by unfold dP;simp);generalize e8:iw _=mp at*;clear e8;generalize dP _=ln at*;generalize(s.af[k]'d).A=dA at*;generalize(s.af[k]'d).name=dn at*;generalize(s.af[k]'d).ai.length=dl at*;generalize(s.af[k]'d).c=dc at*;have j1:0<=(k:Int):=o_
   have k9:k<(m:Int):=o_
   rw[hA];clear X d2 Z hA;go_upto_region 6 with fail
   clear c0 c1 I;generalize d9:wr.alloc (.cells #[.string _,.slice _ _ _] _)=T at*;clear d9;have f6:=O.o.lt;generalize c8:wr.heap.size=g5 at*;have d0:=kp c8;clear c8;obtain⟨y0,y1,_,_⟩:=O.o.two;go_wp2;clear y0 y1
   go_loopw [6,18] (λv6 a0 w4=>∃(j:Nat)(xs:List Fa)(F:OA)(M:Nat),j<=dl/\a0 = .int .i64 j/\v6 = .slice F j M/\xs.length=j/\xs.map Fa.keys=ln.take j/\cV w4 T.heap.size (.slice F j M) xs/\Below T.heap.size T w4) (λ_ a0 _=>dl-(intOf a0).toNat)
   case atStart=>exact⟨0,_,_,0,o_,rfl,rfl,rfl,o_,cV.nil _ _,bR⟩
   case round=>
    obtain⟨j,xs,F,M,hj,rfl,rfl,b7,b3,G,Y⟩:=hrel;have R:=kp b7;have a8:=kp b3;have q:=kp G;have C:=kp Y;obtain⟨y0,y1,_,_⟩:=(O.o.under Y).two;clear b7 b3 G Y;by_cases b8:j<dl
    .have f0:=kp (d1 j _ b8 (b9.o.trans (C.o.mono o_)));have e4:=kp (HD j b8);generalize mp j=mj at*;go_wp2_with fail;refine f0.o.mono ?_;rintro e w5⟨v5,rfl,y,a5⟩;obtain⟨A5,c5,rfl⟩:=bY y;have a9:=ay C a5;have E:=kp (q.o.below a5);have HN:=kp (rj (n:=0) y (λi hi=>(q.1.lt i hi).2) C.o.size);have z:=kp (by have:=E.1;rw[R]at this;omega);have b0:=kp a9.o.size;have a1:j<1048576*64:=o_
     clear y a5 y0 y1
     go_wp2_with(at_builtin;refine iP rfl _ _ _ rfl _ 84 _ _ _ Tryz.underlying41 g3 e9 f9 e7 rfl _ _ rfl (.slice F j M) j _ rfl z rfl a1 d_ b0 ?_;intro v6 w6 p g;obtain⟨A6,c6,h6⟩:=bY p;subst h6;have x:=kp p;have H:=kp g;have a3:=kp (g.below a9 z o_ b0);clear p g)
     have HF:=kp (cV.app E HN.1 HN.2 x H R);exact⟨⟨_,_,_,_,o_,o_,rfl,by rw[aE,R];rfl,by rw[e4,map_append,a8];rfl,HF,a3⟩,o_⟩
    .obtain rfl:j=dl:=o_
     have f8:=kp (show Below g5 T _ from C.o.mono o_);have J:=kp (c4.o.trans (f8.o.mono (by rw[<-d0];exact D.o.size)));have L:=kp (u.o.below C);have g6:=kp (kP.new q (λi hi=>(u.1.lt i hi).2));have b6:=kp (show∀b,cz F _ b->w.heap.size<=b fromλb hb=>by have h1:=q.o.o3 hb;have h3:=D.o.size;have h4:=d0.o;omega);have g0:=kp (e2 ⟨F,_,M⟩ (by have:=a8.o;rw[take_of_length_le (by rw[d6];omega)]at this;omega));have B:=kp (by have:=L.1;rw[N]at this;omega);have b4:=kp J.o.size;have a1:k<1048576*64:=o_
     clear y0 y1
     go_wp2_with(at_builtin;refine iP rfl _ _ _ rfl _ 41 _ _ _ Tryz.underlying139 f3 f4 e6 g8 rfl _ _ rfl (.slice A k c) k _ rfl B rfl a1 d_ b4 ?_;intro v6 w6 p g;obtain⟨A6,c6,h6⟩:=bY p;subst h6;have x:=kp p;have H:=kp g;have a3:=kp (g.below J B o_ b4);clear p g)
     have HF:=kp (iF.app L g6 b6 (by unfold fy;rw[R];exact x) H N);exact⟨⟨_,_,_,_,o_,o_,rfl,by rw[aE,N];rfl,g0,HF,a3⟩,o_⟩
  .obtain rfl:k=m:=o_
   have HF:=kp (HQ A c rs);rw[N]at HF;have Hf:=kp (HF _ U (by have:=a7.o;rw[take_of_length_le (by rw[Hm];omega)]at this;omega) D);go_wp2;exact Hf
structure zH(l:LN):Prop where
 n1:1<=l.length
 n2:l.length<=4
 each:∀j(h:j<l.length),1<=l[j]/\l[j]<=200
 pI:∀j(h:j+1<l.length),l[j+1]<=l[j]
structure vU(xs:List Fa)(m:Nat):Prop where
 n1:1<=xs.length
 n2:xs.length<=16
 m1:1<=m
 m2:m<=3
 each:∀x∈xs,zH x.keys
def xN(A:OA)(c m:Nat)(xs:List Fa)(w:World)(h:cG w w.heap.size A xs)(H:vU xs m) :
 Calls Tryz.prog 142 #[.agg #[.slice A xs.length c,.int .i64 m]] w λe w'=>e = .returned (.bool true)/\Below w.heap.size w w':=by
 have v:=(ah _ w).alloc (ae _) (.cells #[U A xs.length c,I m] 43);have HB:=J (aa.new w 43 #[U A xs.length c,I m]);have M:=J v;have Y:=J ((h.below v).more v.size);have Ho:=J H;have h1:=H.n1;have h2:=H.n2;have h3:=H.m1;have h4:=H.m2;clear h H v;obtain⟨n,hn⟩:∃n,xs.length=n:=⟨_,rfl⟩
 have Hn:=J hn;rw[hn]at HB M Y h1 h2⊢;clear hn;have u:¬(n:Int)<1:=o_
 have q:¬ 16<(n:Int):=o_
 have O:¬(m:Int)<1:=o_
 have T:¬ 3<(m:Int):=o_
 go_in;go_wp2;clear u q O T;generalize w.alloc _=W0 at*
 go_loop [30] (λF=>∃k:Nat,k<=n/\F = I k) (λF=>n-(intOf F).toNat)
 case atStart=>grind
 .obtain⟨k,hk,rfl⟩:=hrel;by_cases Z:k<n
  .have r:k<xs.length:=by rw[Hn];omega
   obtain⟨b,off,rfl,hb,c0⟩:=Row.at_ Y.row (by rw[lM];exact r);rw[getElem_map]at c0;have s:=Ho.each _ (gM r);have B:=Y.each _ (gM r);have L:=J s;have D:=J B;unfold fL at c0;generalize(xs[k]'r)=x at*;have h5:=s.n1;have h6:=s.n2;clear s B;obtain⟨l,hl⟩:=e_ x.keys.length
   have Hl:=J hl;rw[hl]at h5 h6 c0;clear hl;have b6:0<=(k:Int):=o_
   have b2:k<(n:Int):=o_
   have u:¬(l:Int)<1:=o_
   have q:¬ 4<(l:Int):=o_
   go_wp2;clear u q c0
   go_loop [44] (λE=>∃j:Nat,j<=l/\E = I j) (λE=>l-(intOf E).toNat)
   case atStart=>grind
   .obtain⟨j,hj,rfl⟩:=hrel;by_cases V:j<l
    .have p:j<x.keys.length:=by rw[Hl];omega
     obtain⟨be,oe,G,b0,W⟩:=Row.at_ D (by rw[ia];omega);unfold an at W;rw[getElem_map]at W;obtain⟨e1,e2⟩:=L.each j p;have p0:0<=(j:Int):=o_
     have p1:j<(l:Int):=o_
     obtain _|j:=j
     .rw[Nat.add_zero]at W;generalize(x.keys[0]'p)=y at*;have u:¬(y:Int)<1:=o_
      have q:¬ 200<(y:Int):=o_
      rw[G];go_wp2;exact⟨⟨1,o_,o_⟩,o_⟩
     .have C:j<x.keys.length:=o_
      obtain⟨b5,b3,d,a3,d1⟩:=Row.at_ D (by rw[ia];omega);rw[G]at d;injection d with d
      injection d with X a0 _
      subst X a0;unfold an at d1;rw[getElem_map]at d1;have b7:=L.pI j p;generalize(x.keys[j+1]'p)=y at*;generalize(x.keys[j]'C)=z at*;have u:¬(y:Int)<1:=o_
      have q:¬ 200<(y:Int):=o_
      have O:¬ z<(y:Int):=o_
      have p2:0<=(j:Int):=o_
      have p3:j<(l:Int):=o_
      have p4:0<(j:Int)+1:=o_
      rw[G];go_wp2;exact⟨⟨j+2,o_,o_⟩,o_⟩
    .obtain rfl:j=l:=o_
     go_wp2;exact⟨⟨k+1,o_,o_⟩,o_⟩
  .obtain rfl:k=n:=o_
   have Hf:=J M;go_wp2;go_ret;trivial
def jd(l:List Cl):Nat->Int
 |0=> -1
 |k+1=>((l.getD k jy).key:Nat)
def jb(last:Bool)(m:Nat)(l:List Cl)(o:ByteArray):Nat->ByteArray
 |0=>o
 |k+1=>jb last m l o k++(dQ ((((l.getD k jy).key:Nat):Int)-jd l k-1).toNat++fX last m (l.getD k jy))
def jE(last:Bool)(m aj:Nat)(ls:List (List Cl)):Nat->ByteArray
 |0=>dQ aj
 |k+1=>jb last m (ls.getD k []) (jE last m aj ls k++dQ (ls.getD k []).length) (ls.getD k []).length
def kY(last:Bool)(m:Nat)(p:aQ):ByteArray:=qq (jE last m p.aj p.lists p.lists.length++fX last m p.all)
def DV(last:Bool)(m:Nat)(l:List Cl)(o:ByteArray)(b:m<=3)(k:Nat):(jb last m l o k).size<=o.size+99*k:=by
 induction k with
 |zero=>exact ae _
 |succ k c=>
  show(jb last m l o k++(dQ _++fX last m _)).size<=_;rw[ByteArray.size_append,ByteArray.size_append];have h1:=kF (((l.getD k jy).key:Nat)-jd l k-1).toNat;have h2:=wN last m (l.getD k jy) b;omega
def Cg(last:Bool)(m aj:Nat)(ls:List (List Cl))(b:m<=3)(c:∀l∈ls,l.length<=1000)(k:Nat):(jE last m aj ls k).size<=9+99009*k:=by
 induction k with
 |zero=>exact kF _
 |succ k d=>
  have h0:(ls.getD k []).length<=1000:=r_
  have h1:=DV last m (ls.getD k []) (jE last m aj ls k++dQ (ls.getD k []).length) b (ls.getD k []).length;rw[ByteArray.size_append]at h1;have h2:=kF (ls.getD k []).length;show(jb last m (ls.getD k []) (jE last m aj ls k++dQ (ls.getD k []).length) (ls.getD k []).length).size<=_;omega
def LD(last:Bool)(m:Nat)(p:aQ)(b:m<=3)(c:∀l∈p.lists,l.length<=1000)(e:p.lists.length<=4):(kY last m p).size<=400000:=by
 have h1:=Cg last m p.aj _ b c p.lists.length;have h2:=wN last m p.all b;unfold kY qq;rw[ByteArray.size_append,ByteArray.size_append];have d:=kF (jE last m p.aj p.lists p.lists.length++fX last m p.all).size;grind
def R9{l:List Cl}(h:∀c∈l,c.key<=1000000)(k:Nat) : -1<=jd l k/\jd l k<=1000000:=by
 obtain _|k:=k
 .exact⟨Int.le_refl _,show(-1)<=1000000 by decide⟩
 .show -1<=(((l.getD k jy).key:Nat):Int)/\(((l.getD k jy).key:Nat):Int)<=1000000;rw[getD_eq_getElem?_getD];rcases e:l[k]? with _|c
  . trivial
  grind
def sh(s:ByteArray)(w:World)(e:Ending)(w':World):Prop:=e = .returned (.tuple #[T s,I 0])/\E w w'
def Iv(A:OA)(c m:Nat)(xs:List Fa)(n:Nd)(w:World)(h:cG w w.heap.size A xs)(hr:du w w.heap.size n)(g5:xs.length<=16)(g0:1<=m)(hm:m<=3)(u:n.aj<xs.length)(ho:im (decide (n.aj+1=xs.length)) (xs[n.aj]'u).keys m (aK n))(e8:∀l∈n.ls,l.cs.length<=1000) :
 Calls prog 70 #[.agg #[U A xs.length c,N m],.agg (aZ n)] w (sh (kY (decide (n.aj+1=xs.length)) m (aK n)) w):=by
 have M:=J (λw'(L:E w _)=>tP A c m _ n w' ((h.below L).more L.size) ((hr.below L).more L.size) g5 g0 hm u ho);obtain⟨aj,O,ls,Z,key,child,ac,s0,n0,x0,s1,n1,x1,s2,n2,x2⟩:=n;have e5:=ho.n4;have D:=J ho.size;have z:=J ho.each;have V:=ho.ls;have G:=ho.child;have b8:=ho.all;dsimp only[aK]at u V e5 G b8 z D M e8;have h4:=J e8;rw[lM]at V e5;generalize B:decide (aj+1=xs.length)=last at*;have f5:=J (λk=>Cg last m aj (ls.map Ll.cs) hm (λl hl=>r_) k);have HP:=J ug;have HT:=J O4;have e9:=J (λx w h1(h2:kj last m x)=>by
  have:=I7 A xs.length c m aj x w o_ o_ o_ g0 hm h1 r_;rw[B]at this;omega)
 have f7:=J (λx=>wN last m x hm);have i5:=J (λl o k=>DV last m l o hm k);have b5:=kp (show kY last m (aK ⟨aj,O,ls,Z,key,child,ac,s0,n0,x0,s1,n1,x1,s2,n2,x2⟩)=qq (jE last m aj (ls.map Ll.cs) ls.length++fX last m ⟨key,child,ac,s0,n0,x0,s1,n1,x1,s2,n2,x2⟩)from by unfold kY aK;simp);generalize kY _ m _=R at*;obtain⟨Q,hQ⟩:=e_ (sh R w);have HQ:Kp (∀w',E w _->Q _ w'):=(λw' L=>by rw[<-hQ];trivial);rw[hQ];have HX:∀l∈ls,(∀x∈l.cs,x.key<=1000000)/\(∀x∈l.cs,x.child<=2000000)/\∀x∈l.cs,kj _ m x:=λl hl=>by
  obtain⟨k,hk,rfl⟩:=getElem_of_mem hl;have y:k<(xs[aj]'u).keys.length:=o_
  have h1:=z k _ _ (rA hk) (gE y);have h2:=D.out _ (gM y);exact⟨λx hx=>by have:=h1.key x hx;omega,h1.child,h1.cell⟩
 have i4:=J HX;obtain⟨nx,h7⟩:=e_ xs.length;obtain⟨X,d9⟩:=e_ ls.length;have n5:=J d9;have y:aj<=16:=o_;dsimp only[aZ];dsimp only[aZ]at M;rw[h7]at M e9⊢;rw[d9]at M b5 e5⊢;have Hr:=J hr;have v:=(ah _ w).alloc (ae _) (.cells #[U A nx c,N m] 43);have g7:=v.alloc o_ (.cells #[N aj,U O X Z,N key,N child,I ac,I s0,I n0,I x0,I s1,I n1,I x1,I s2,I n2,I x2] 157);have d7:=J ((aa.new w 43 #[U A nx c,N m]).alloc (.cells #[N aj,U O X Z,N key,N child,I ac,I s0,I n0,I x0,I s1,I n1,I x1,I s2,I n2,I x2] 157));have d5:=J (aa.lay (w:=w.alloc (.cells #[U A nx c,N m] 43)) (g:=w.heap.size+1) (t:=157) (cs:=#[N aj,U O X Z,N key,N child,I ac,I s0,I n0,I x0,I s1,I n1,I x1,I s2,I n2,I x2]) s_);have y:=J g7;clear h7 d9 hr h ho v g7 hQ HX V D z u g5 B e8;generalize V:(w.alloc _).alloc _=D at*;have z:=J (M D y);obtain⟨b0,b1,_,_⟩:=d7.two;have D:=(aa.bK d5).1;go_in;go_wp2_with fail;apply z.mono;clear V b0 b1 D z M;rintro e z⟨rfl,v⟩;have M:=ay y v;have V:=bu d7 v;have z:=bu d5 v;clear v y d7 d5;have D:=(aa.bK z).1;have b9:(aj:Int)<9223372036854775808:=o_;go_wp2_with fail;apply(HP _ _ b9).mono;clear D;rintro e y⟨rfl,y⟩;have g4:=ay M y;have d2:=bu V y;have Y:=bu z y;clear y M V z b9;have D:=(aa.bK Y).1;rw[Int.toNat_natCast];go_wp2;clear D;go_loopw [7,25] (λv7 y wr=>∃k:Nat,k<=X/\y = N k/\v7 = T (jE last m aj (ls.map Ll.cs) k)/\aa wr w.heap.size 43 #[U A nx c,N m]/\aa wr (w.heap.size+1) 157 #[N aj,U O X Z,N key,N child,I ac,I s0,I n0,I x0,I s1,I n1,I x1,I s2,I n2,I x2]/\E w wr) (λ_ y _=>X-(intOf y).toNat)
 case atStart=>exact⟨0,o_,rfl,rfl,d2,Y,g4⟩
 .clear d2 Y g4;obtain⟨k,hk,rfl,rfl,W,z,a2⟩:=hrel;have H:=J W;have F:=J z;have q:=J a2;clear W z a2;by_cases y:k<X
  .have f:k<ls.length:=by rw[n5];omega
   have f4:=(Hr.below q);obtain⟨bl,ol,y,M,O⟩:=Row.at_ f4.row (by rw[lM];exact f);rw[getElem_map]at O;dsimp only at y;subst y;obtain⟨a7,e4,e0⟩:=i4 _ (gM f);have m9:=h4 _ (gM f);have h8:=J (λw'(L:E w w')=>((Hr.below L).each _ (gM f)).more L.size);have i7:=f5 k;have V:Kp (jE _ m aj _ (k+1)=jb last m (ls[k]'f).cs (jE last m aj (ls.map Ll.cs) k++dQ (ls[k]'f).cs.length) (ls[k]'f).cs.length):=(by
    show jb last m ((ls.map Ll.cs).getD k []) _ _=_;grind)
   unfold dq at O;generalize jE _ m _ _ k=M at*;generalize(ls[k]'f).A=y at*;generalize(ls[k]'f).cs=cs at*;have i8:=J (i5 cs);have k3:=J (λj=>R9 a7 j);have a7:=J a7;have e4:=J e4;have e0:=J e0;obtain⟨y,L⟩:=e_ cs.length;have m4:=J L;rw[L]at O V m9;clear L f4;generalize(ls[k]'f).c=L at*;have L:0<=(k:Int):=o_;have L:k<(X:Int):=o_;have L:(y:Int)<9223372036854775808:=o_;have o7:¬9223372036854775807<M.size+(dQ y).size:=by have:=kF y;omega
   go_wp2_with fail;apply(HP _ _ L).mono;clear O;rintro e L⟨rfl,L⟩;have h5:=ay q L;have b7:=bu H L;have d4:=bu F L;clear L q H F;rw[Int.toNat_natCast];go_wp2;have HO:=J (show(M++dQ y).size<=1000000 by rw[ByteArray.size_append];have:=kF y;omega);clear o7 i7;generalize M++dQ y=O at*;go_loopw [7,10,36] (λv7 l4 L wr=>∃j:Nat,j<=y/\L = N j/\l4 = I (jd cs j)/\v7 = T (jb last m cs O j)/\aa wr w.heap.size 43 #[U A nx c,N m]/\aa wr (w.heap.size+1) 157 #[N aj,U (some ⟨bl,ol,none⟩) X Z,N key,N child,I ac,I s0,I n0,I x0,I s1,I n1,I x1,I s2,I n2,I x2]/\E w wr) (λ_ _ L _=>y-(intOf L).toNat)
   case atStart=>exact⟨0,o_,rfl,rfl,rfl,b7,d4,h5⟩
   .clear b7 d4 h5;obtain⟨j,L,rfl,rfl,rfl,W,z,a2⟩:=hrel;have H:=J W;have F:=J z;have q:=J a2;clear W z a2;by_cases z:j<y
    .have p:j<cs.length:=by rw[m4];omega
     obtain⟨z,z,z,L,c0,c1,c2,c3,c4,c5,c6,c7,c8,c9,m5,k8⟩:=nV (h8 _ q) j p;subst z;have z:cs.getD j jy=cs[j]'p:=by rw[getD_eq_getElem?_getD,gE p];rfl
     have j0:Kp (jb _ m _ O (j+1)=jb _ m _ O j++(dQ _++fX _ m _)):=(by
      show jb last m cs O j++(dQ ((((cs.getD j jy).key:Nat):Int)-jd cs j-1).toNat++fX last m (cs.getD j jy))=_;rw[z])
     have k4:Kp (jd _ (j+1)=((cs[j]'p).key:Nat)):=(by
      show(((cs.getD j jy).key:Nat):Int)=_;rw[z])
     have n3:=a7 _ (gM p);have h3:=e4 _ (gM p);have L:=e0 _ (gM p);have k7:=k3 j;have n6:=i8 O j;clear z;generalize(cs[j]'p)=x at*;generalize jd _ j=z at*;generalize jb _ m _ O j=Z at*;have d6:=J (λw=>e9 x w h3 L);have f0:=f7 x;have O:=HO.o;have k5:=J (λw=>HP ((x.key:Nat)-z-1) w o_);have g9:¬9223372036854775807<(dQ ((x.key:Nat)-z-1).toNat).size+(fX last m x).size:=by have:=kF ((x.key:Nat)-z-1).toNat;omega
     have n7:¬9223372036854775807<Z.size+((dQ ((x.key:Nat)-z-1).toNat).size+(fX last m x).size):=by have:=kF ((x.key:Nat)-z-1).toNat;omega
     generalize dQ _=Z at*;generalize fX _ m x=CB at*;have g6:IntKind.i64.wrap _=(x.key:Nat)-z:=IntWalk.i64_in _ o_;have g3:IntKind.i64.wrap _=(x.key:Nat)-z-1:=IntWalk.i64_in _ o_;have z:=(ah _ wr).alloc (ae _) (.cells (bH x) 155);have i0:=J (aa.new wr 155 (bH x));have j3:=ay q z;have Z:=bu H z;have b4:=bu F z;have q2:0<=(j:Int):=o_;have q1:j<(y:Int):=o_;clear z n3 h3 L k7 n6 f0 O p;go_upto_region 13 with fail;clear c0 c1 c2 c3 c4 c5 c6 c7 c8 c9 m5 k8;generalize wr.alloc _=z at*;generalize wr.heap.size=gC at*;have HS:Kp (∀w',E z _->(hJ _ _ x)/\(C _ _ 0 (U A _ c)/\C _ _ 1 (N m))/\C _ _ 0 (N _)/\E z w'):=λw' h=>⟨(aa.gu (i0.under h)).1,⟨(Z.under h).cell 0,(Z.under h).cell 1⟩,(b4.under h).cell 0,h⟩;apply wp_region_noPanic;refine br (t:=99) (S:=(λw'=>(hJ w' _ x)/\(C w' _ 0 _/\C w' _ 1 _)/\C w' _ 0 _/\E z w')) k_ (HS _ bR.drew) (λb=> ?_);apply tD 0 1 2 3 b;apply tD 4 5 7 8 b;apply tB 9 10 b;refine oT 6 λK hK=>?_;go_simp;apply(k5 _).mono;rintro e w5⟨rfl,s⟩;refine oK hK ?_ λd=>?_
     .exact HS _ (b.2.2.2.trans (s.mono o_))
     replace b:=d;clear hK K d;refine oT 11 λK hK=>?_;go_simp;apply(d6 _).mono;rintro e O⟨rfl,L⟩;refine oK hK ?_ λd=>?_
     .exact HS _ (b.2.2.2.trans (L.mono b.2.2.2.size))
     replace b:=d;clear hK K d;refine oT 12 λK hK=>?_;go_simp;refine oK hK ?_ λd=>?_
     . omega
     replace b:=d;clear hK K d;refine oT 13 λK hK=>?_;go_simp;refine oK hK ?_ λd=>?_
     . omega
     replace b:=d;clear hK K d;apply tk 14 b;refine bQ k_ ?_ _;try clear b
     apply NoPanic.normal;have r:E z O:=(bR.drew.trans s).trans (L.mono (s.size));have E:=ay j3 r;have f8:=bu i0 r;have z:=bu Z r;have h0:=bu b4 r;have c0:C O _ 0 (I _):=f8.cell 0;clear s L r g9 n7 g6 g3;go_wp2;exact⟨⟨j+1,o_,o_,by rw[k4],by rw[j0],z,h0,E⟩,o_⟩
    .obtain rfl:j=y:=o_;go_wp2;exact⟨⟨k+1,o_,o_,by rw[V],H,F,q⟩,o_⟩
  .obtain rfl:k=X:=o_;have d6:=J (λw=>e9 _ w G b8);have f0:=f7 ⟨key,child,ac,s0,n0,x0,s1,n1,x1,s2,n2,x2⟩;have z:=f5 k;generalize fX _ m _=CB at*;generalize jE _ m _ _ k=M at*;have g9:¬9223372036854775807<M.size+CB.size:=o_;have y:=J (λw=>HT (M++CB) w o_);have D:=(aa.bK F).1;obtain⟨b0,b1,_,_⟩:=H.two;clear f0 z;go_wp2_with fail;apply(d6 _).mono;clear D b0 b1;rintro e w5⟨rfl,s⟩;go_wp2_with fail;apply(y _).mono;rintro e O⟨rfl,L⟩;have y:=J (HQ O (q.trans ((s.trans (L.mono s.size)).mono q.size)));rw[b5]at y;clear s L;go_wp2;exact y
end Tc
namespace Tc
open List Go.RowKit Base Crc Go.Proofs.YtibjlpkpljnicaaGreatDoor.Nm Go.Proofs.Tryz
abbrev bl(b:ByteArray):List UInt8:=b.data.toList
def kT a b:bl (a++b)=bl a++bl b:=by rfl
def wJ a:(bl a).length=a.size:=rfl
abbrev mX(z:Int):List UInt8:=bX (dW z).toNat
def yt(a:Ag)(k:Nat):List UInt8:=mX (ps a k)++(if 1<a.c then mX (pn a k)++mX (px a k)else [])
def kz(a:Ag):Nat->Nat->List UInt8
 |_,0=>[]
 |k,j+1=>yt a k++kz a (k+1) j
def zO a:∀j k,bl (gY a (k+j))=bl (gY a k)++kz a k j
 |0,k=>by simp[kz]
 |j+1,k=>by
  rw[show k+(j+1)=(k+1)+j by omega,zO,kz,<-append_assoc];congr 1;show bl (nB a k (gY a k))=_;unfold nB yt;split
  .rw[kT,kT,kT,append_assoc];rfl
  .rw[kT,append_nil];rfl
def G7 a m:bl (gY a m)=mX a.c++kz a 0 m:=by
 have:=zO a m 0;rw[Nat.zero_add]at this;exact this
def lI(last:Bool)(m:Nat)(c:Cl):List UInt8:=if last=true then mX c.ag.c++kz c.ag 0 m else bX c.child
def AK last m c:bl (fX last m c)=lI last m c:=by
 unfold fX lI;split
 .exact G7 _ _
 .rfl
def l8(last:Bool)(m:Nat)(bJ:Int):List Cl->List UInt8
 | []=>[]
 |c::l=>bX (((c.key:Nat):Int)-bJ-1).toNat++(lI last m c++l8 last m ((c.key:Nat):Int) l)
def E0 last m l o:∀k,k<=l.length->bl (jb last m l o k)++l8 last m (jd l k) (l.drop k)=bl o++l8 last m (-1) l
 |0,_=>rfl
 |k+1,hk=>by
  rw[<-E0 _ m l o k o_,drop_eq_getElem_cons (show k<l.length by omega)];have e:l.getD k jy=l[k]:=r_
  show bl (jb last m l o k++(dQ _++fX last m _))++l8 last m (((l.getD k jy).key:Nat):Int) _=_;rw[e,kT,kT,AK,l8,append_assoc,append_assoc];rfl
def OY last m l o:bl (jb last m l o l.length)=bl o++l8 last m (-1) l:=by
 have:=E0 last m l o _ (ae _);rw[drop_length,l8,append_nil]at this;omega
def lN(last:Bool)(m:Nat):List (List Cl)->List UInt8
 | []=>[]
 |l::ls=>bX l.length++(l8 last m (-1) l++lN last m ls)
def Cj last m aj ls:∀k,k<=ls.length->bl (jE last m aj ls k)++lN last m (ls.drop k)=bX aj++lN last m ls
 |0,_=>rfl
 |k+1,hk=>by
  rw[<-Cj _ m _ _ k o_,drop_eq_getElem_cons (show k<ls.length by omega)];have e:ls.getD k []=ls[k]:=r_
  show bl (jb last m (ls.getD k []) _ (ls.getD k []).length)++_=_;rw[e,OY,kT,lN,append_assoc,append_assoc];rfl
def jv(last:Bool)(m:Nat)(p:aQ):List UInt8:=bX p.aj++(lN last m p.lists++lI last m p.all)
def CP last m p:bl (kY last m p)=bX (jv last m p).length++jv last m p:=by
 have h:=Cj last m p.aj p.lists _ (ae _);rw[drop_length,lN,append_nil]at h;have e:bl (jE last m p.aj p.lists p.lists.length++fX last m p.all)=jv last m p:=by
  rw[kT,h,AK,jv,append_assoc]
 unfold kY qq;rw[kT,e];congr 1;show bX _=_;rw[<-e,wJ]
end Tc
namespace Tc
open List Go.RowKit Base Go.Proofs.Tryz
def DK s w(h:cQ w w.heap.size s)(ho:cJ s):Calls prog 12 #[.agg (aG s)] w (oZ s w):=by
 obtain⟨i0,i9,j1,h0,k7⟩:=info_parts rk;have HQ:Kp (∀A c xs w',cV _ _ (U A _ c) xs->xs.map _=s.af.map _->E w _->oZ s w _ w'):=λA c xs w' h1 h2 h3=>⟨A,c,_,rfl,h1,h2,h3⟩;have Hh:=J h;have Ho:=J ho;have f5:=ho.n2;have e4:=(ah _ w).alloc (ae _) (.cells (aG s) 25);have HB:=J (aa.new w 25 (aG s));have b9:=J e4;clear h ho e4;generalize hQ:oZ s w=Q at*;clear hQ;unfold aG at HB b9⊢;obtain⟨z0,z1,_,_⟩:=HB.two;obtain⟨m,hm⟩:=e_ s.af.length
 have Hm:=J hm;rw[hm]at z0 f5 HB b9⊢;clear hm;go_in;go_wp2;clear z0 z1;obtain⟨W1,a0⟩:=e_ ((w.alloc (.cells #[.slice s.A m s.c,.slice s.Am s.aC.length s.cm] 25)).alloc (.cells #[.slice none 0 0,.int .i64 0] 43))
 have b6:W1.heap.size=w.heap.size+1+1:=by rw[<-a0];simp
 have d5:=J (show E w W1 by rw[<-a0];exact b9.alloc s_ _);have f3:=J (show aa W1 (w.heap.size+1) _ #[Z,I 0] by rw[<-a0];exact aa.lay s_);have h9:=J (d5.alloc o_ (.cells #[Z,I s.aC.length] 43));have d9:=J (f3.alloc (.cells #[Z,I s.aC.length] 43));have e3:Kp (aa _ _ 43 #[Z,I s.aC.length]):=aa.lay b6;rw[a0];clear a0 f3 d5;generalize hM:W1.alloc _=W2 at*
 clear hM b6
 go_loopw [16] (λc4 wr=>∃(k:Nat)(xs:List Fa)(A:OA)(c:Nat),k<=m/\c4 = I k/\xs.length=k/\xs.map Fa.keys=(s.af.take k).map aW/\aa wr (w.heap.size+1) 43 #[Z,I 0]/\aa wr (w.heap.size+1+1) 43 #[U A k c,I s.aC.length]/\cV wr (w.heap.size+1+1+1) (U A k c) xs/\E w wr) (λc4 _=>m-(intOf c4).toNat)
 case atStart=>exact⟨0,_,_,0,o_,rfl,rfl,rfl,d9,e3,cV.nil _ _,h9⟩
 .obtain⟨k,xs,A,c,hk,rfl,d8,f6,f7,L,b5,e7⟩:=hrel;have b2:=J d8;have e5:=J f6;have d2:=J f7;have X:=J L;have e0:=J L;have a3:=J b5;have H:=J e7;clear d8 f6 f7 L b5 e7;by_cases h8:k<m
  .have g:k<s.af.length:=by rw[Hm];omega
   have e1:=(Hh.below H).more H.size;obtain⟨b,off,hA,hb,c0,c1⟩:=e1.aj k g;have i2:Kp (∀W,E w W->dB W _ _):=λW hW=>((Hh.below hW).more hW.size).af _ (gM g);have h6:=(Ho.af k g).n2;have b1:=(ah _ wr).alloc (ae _) (.cells (aU (s.af[k]'g)) 70);have D:=J b1;have c8:=J (aa.new wr 70 (aU (s.af[k]'g)));have k9:Kp (∀f:Fa,f.keys=aW (s.af[k]'g)->(xs++[f]).map _=(s.af.take _).map _):=(λf hf=>by rw[take_succ_eq_append_getElem,map_append,map_append,e5,map_cons,map_nil,map_cons,map_nil,hf]);generalize(s.af[k]'g)=d at*;unfold aU at D c8 b1;obtain⟨dl,c9⟩:=e_ d.ai.length
   rw[c9]at c1 h6 D c8 b1;have e8:=J c9;have p3:0<=(k:Int):=o_
   have o4:k<(m:Int):=o_
   rw[hA];have e6:Kp _:=X.lt;obtain⟨wo,rfl⟩:∃wo,wo=wr:=⟨_,rfl⟩
   clear e1 b1 hA c9 g;go_upto_region 5 with fail
   clear c0 c1;generalize k3:wo.alloc _=W3 at*;generalize f4:wo.heap.size=g5 at*;have Y:=J f4;clear k3 f4;have y1:=c8.cell 1;simp at y1;obtain⟨j0,i4,i6,g6,i5⟩:=info_parts iK;go_wp2;clear y1
   go_loopw [6,23] (λv6 d0 wx=>∃(q:Nat)(A6:OA)(c6:Nat),q<=dl/\d0 = N q/\v6 = U A6 q c6/\wx.ownsRow W3.heap.size 3 1 (U A6 q c6) q (an ((aW d).take q))/\E W3 wx) (λ_ d0 _=>dl-(intOf d0).toNat)
   case atStart=>exact⟨0,_,0,o_,rfl,rfl,cK _ _ _ _,bR⟩
   .obtain⟨q,A6,c6,hq,rfl,rfl,a6,L⟩:=hrel;have X:=J L;have a4:=J a6;have k0:=D;have g8:=kp (H.o.trans ((show Below _ _ _ by rw[Y];exact k0).mono H.size));have h4:=ay g8 L;clear L a6;by_cases i3:q<dl
    .have e:q<d.ai.length:=by rw[e8];omega
     obtain⟨bt,ot,f2,_,t0,t1,t2⟩:=(i2 _ h4).cU q e;have d1:=(ah _ wr).alloc (ae _) (.cells (cY (d.ai[q]'e)) 104);have b0:=ay X d1;have F:=J (bS a4 d1)
     have k2:=J (show an ((aW d).take _)=an ((aW d).take q)++[I ((d.ai[q]'e).ar.length:Nat)] by
      rw[take_succ_eq_append_getElem (by unfold aW;rw[lM];exact e),oh];unfold aW
      simp)
     have d6:=J (aa.new wr 104 (cY (d.ai[q]'e)));unfold cY at b0 F d6;have q0:0<=(q:Int):=o_
     have q1:q<(dl:Int):=o_
     have q2:q<1048576*64:=o_
     clear d1;rw[f2];generalize(d.ai[q]'e).ar.length=z at*;generalize(d.ai[q]'e).name=tn at*;generalize(d.ai[q]'e).At=tA at*;generalize(d.ai[q]'e).ct=tc at*;generalize(d.ai[q]'e).Au=uA at*;generalize(d.ai[q]'e).up.length=ul at*;generalize(d.ai[q]'e).cu=uc at*;clear f2 e;go_upto_region 9 with fail
     clear t0 t1 t2;have e2:=d6.o;generalize wr.alloc _=W2 at*;generalize wr.heap.size=gT at*;have y1:C _ _ 1 (U _ z _):=e2.cell 1;clear e2
     go_wp2_with(at_builtin;apply iP rfl _ _ _ rfl _ 3 _ _ 8 underlying84 i4 i6 g6 i5 rfl _ (I _) rfl (U _ q _) q _ rfl F rfl q2 d_ b0.size;intro v7 w7 O a5;obtain⟨A7,c7,h7⟩:=bY O;subst h7;have b7:=J O;have k1:=J (a5.below b0 F o_ b0.size);clear O a5)
     exact⟨⟨_,_,_,o_,o_,rfl,by rw[k2];exact b7,k1⟩,o_⟩
    .obtain rfl:q=dl:=o_
     have a7:(aW d).length=q:=by unfold aW;rw[lM,e8]
     have x:=a4.o;rw[take_of_length_le o_]at x;have b4:=kp (show Below wo.heap.size _ _ by rw[Y];exact D.trans (X.mono (by rw[<-Y];exact D.size)));have y:=J (e0.under b4);have e9:=J (d2.under b4);have a1:=J (a3.below b4);have p5:=D.size;have HN:=J (rj (n:=0) (l:=aW d) (c:=c6) (w:=wr) (A:=A6) (B0:=w.heap.size+1+1+1) (B:=W3.heap.size) r_ (λj hj=>by have h1:=(a3.1.lt j hj).2;omega) (by have h1:=e6.o;have h2:=Y.o;omega));have u:=J (by have:=a1.1;rw[b2]at this;omega);have R:=y.lt;have k8:k<1048576*64:=o_
     have V:Kp (∀j,j<w.heap.size+1+1+1->(Value.slice A k c).ownBlock≠some j):=(λj hj hh=>by have:=(u.lt j hh).1;omega);obtain⟨x0,x1,f0,_⟩:=y.two;have g7:w.heap.size+1+1+1<=wr.heap.size:=R;clear x;go_upto_region 12 with(at_builtin;apply iP rfl _ _ _ rfl _ 84 _ _ _ underlying41 i9 j1 h0 k7 rfl _ _ rfl (U A k c) k _ rfl u rfl k8 d_ g7;intro v5 w5 G a2;obtain⟨A5,c5,h5⟩:=bY G;subst h5;have b3:=J G;have r:=J a2;have f0:=(show w5.frozen? (M _ 0)=false from(aa.two ((r.bI R (V _ o_)).trans y)).2.2.1);have x0:=(show C _ _ 0 _ from(aa.two ((r.bI R (V _ o_)).trans y)).1);clear G a2)
     have HF:=J (cV.app a1 HN.1 HN.2 (by rw[show fL _ = U A6 q c6 from by rw[<-a7];rfl];exact b3) r b2);have i1:w.heap.size+1≠w.heap.size+1+1:=o_
     have d7:=J (H.trans (b4.mono H.size));go_wp2;refine⟨⟨_,xs++[⟨A6,aW d,c6,az⟩],A5,c5,o_,o_,by rw[aE,b2];rfl,k9 _ rfl,?_,?_,?_,?_⟩,o_⟩
     .exact(Below.heap_setCell _ _ _ _ i1).trans ((r.bI o_ (V _ o_)).trans e9)
     .exact aa.set ((r.bI R (V _ o_)).trans y) 0 _
     .exact HF.aJ s_ _
     .exact(r.below d7 u o_ o_).setCell o_ _
  .obtain rfl:k=m:=o_
   obtain⟨x0,x1,_,_⟩:=X.two;obtain⟨q0,q1,f0,f1⟩:=d2.two;have HF:=J (HQ A c xs);rw[b2]at HF;have b8:=J (by have:=e5.o;rw[take_of_length_le (by rw[Hm];omega)]at this;omega);have j3:=J (((a3.aJ (p:=(M (w.heap.size+1) 0)) o_ (U A k c)).aJ (p:=(M (w.heap.size+1) 1)) o_ (I s.aC.length)).base (show w.heap.size<=w.heap.size+1+1+1 by omega));have i8:=J ((H.setCell (p:=(M (w.heap.size+1) 0)) s_ (U A k c)).setCell (p:=(M (w.heap.size+1) 1)) s_ (I s.aC.length));go_wp2;have g9:aa ((wr.setCell (M _ 0) _).setCell (M _ 1) _) _ _ #[U A k c,I s.aC.length]:=(d2.set 0 _).set 1 _;clear q0 q1;obtain⟨q0,q1,_,_⟩:=g9.two;refine bodyPost_ret (by simp[results,go_sem,q0,q1]) rfl (HF _ j3 b8 i8)
end Tc
end Go.Proofs.YtibjlpkpljnicaaGreatDoor
