/- Parts. -/
import Derived.Test.YtibjlpkpljnicaaGreatDoorR06
set_option maxRecDepth 100000
set_option maxHeartbeats 8000000
set_option linter.all false
namespace Go.Proofs.YtibjlpkpljnicaaGreatDoor
namespace Tc
open List Go.RowKit Base Go.Proofs.Tryz
def mN(l:LN)(w:World)(e:Ending)(w':World):Prop:=∃v,e = .returned v/\w'.ownsRow w.heap.size 3 1 v l.length (an l)/\E w w'
def aW(d:au):LN:=d.ai.map λt=>t.ar.length
def PK d w(h:dB w w.heap.size d)(M:d.ai.length<=4):Calls prog 140 #[.agg (aU d)] w (mN (aW d) w):=by
 obtain⟨i0,H,Z,a0,L⟩:=info_parts iK;have V:=(ah _ w).alloc (ae _) (.cells (aU d) 70);have W:=J (aa.new w 70 (aU d));have y:=J V;have B:(aW d).length=d.ai.length:=by unfold aW;simp
 have HQ:Kp (∀v w',w'.ownsRow w.heap.size 3 1 v d.ai.length (an (aW d))->E w _->mN (aW d) w _ w'):=λv w' h1 hb=>⟨v,rfl,r_,hb⟩;generalize hQ:mN _ w=Q at*;unfold aU at W y⊢;obtain⟨z0,z1,_,_⟩:=W.two;obtain⟨m,N⟩:=e_ d.ai.length;rw[N]at z1 HQ M W y⊢;go_in;go_wp2;generalize w.alloc (.cells #[T _,U _ m _] _)=W0 at*;go_loopw [3,9] (λv3 R wr=>∃(k:Nat)(A:OA)(c:Nat),k<=m/\R = I k/\v3 = U A k c/\wr.ownsRow w.heap.size 3 1 (U A k c) k (an ((aW d).take k))/\E w wr) (λ_ R _=>m-(intOf R).toNat)
 case atStart=>exact⟨0,_,0,o_,rfl,rfl,cK _ _ _ _,y⟩
 .obtain⟨k,A,c,hk,rfl,rfl,s,F⟩:=hrel;have n:=J F;clear F;by_cases O:k<m
  .have e:k<d.ai.length:=o_
   obtain⟨b,off,hA,hb,c0,c1,c2⟩:=(((J h).below n).more n.size).cU k e;have r:=(ah _ wr).alloc (ae _) (.cells (cY (d.ai[k]'e)) 104);have z:=ay n r;have g:=J (bS (J s) r);have u:=J (aF n.size r.size);have Y:=J (show an ((aW d).take (k+1))=an ((aW d).take k)++[I ((d.ai[k]'e).ar.length:Nat)] by
    rw[take_succ_eq_append_getElem o_,oh];unfold aW;simp)
   have D:=J (aa.new wr 104 (cY (d.ai[k]'e)));unfold cY at r z g u D;have b1:0<=(k:Int):=o_;have b2:k<(m:Int):=o_;have X:k<1048576*64:=o_;rw[hA];generalize(d.ai[k]'e).ar.length=q at*;generalize(d.ai[k]'e).name=tn at*;generalize(d.ai[k]'e).At=tA at*;generalize(d.ai[k]'e).ct=tc at*;generalize(d.ai[k]'e).Au=uA at*;generalize(d.ai[k]'e).up.length=ul at*;generalize(d.ai[k]'e).cu=uc at*;go_upto_region 5 with fail;clear c0 c1 c2;have hz:=D;generalize wr.alloc _=W2 at*;generalize wr.heap.size=gT at*;have y1:C _ _ 1 (U _ q _):=hz.cell 1;go_wp2_with(at_builtin;apply iP rfl _ _ _ rfl _ 3 _ _ 8 underlying84 H Z a0 L rfl _ (I _) rfl (U A k c) k _ rfl g rfl X d_ u;intro v5 w5 f p;obtain⟨A5,c5,h5⟩:=bY f;subst h5;have x:=J f;have G:=J (p.below z g o_ u);clear f p);exact⟨⟨_,_,_,o_,o_,rfl,by rw[Y];exact x,G⟩,o_⟩
  .obtain rfl:k=m:=o_;have Hf:=J (HQ _ _ (by have:=(J s);rw[take_of_length_le o_]at this;exact this) n);go_wp2;exact Hf
def lh(t:dU)(i:Nat):Nat:=((t.up[i]?).getD 0).toNat
def bN(d:au):Nat->Nat->Nat
 |0,i=>i
 |k+1,i=>match d.ai[k]? with
  |some t=>lh t (bN d k i)
  |none=>0
def MI t i w(h:iV w w.heap.size t)(hi:i<t.up.length)(h0:0<=t.up[i]):Calls Tryz.prog 272 #[.agg (cY t),.int .i64 i] w λe w'=>e = .returned (.int .i64 (lh t i))/\Below w.heap.size w w':=by
 have c:=(ah _ w).alloc (ae _) (.cells (cY t) 104);have f:=kp c;have d:=(h.below c).more c.size;obtain⟨b,off,p,z,c0⟩:=Row.at_ d.up (by rw[lM];exact hi);rw[getElem_map]at c0;have s:=kp (show t.up[i]=(lh t i) by unfold lh;grind);rw[s]at c0;clear s h0 c;generalize lh t i=V at*;have u:=h.nu;unfold maxLen at u;clear h d;unfold cY at*;rw[p]at c0 f⊢;generalize x:t.up.length=n at*;have g:¬(i:Int)<0:=o_
 have m:¬ n<=(i:Int):=o_
 have y:0<=(i:Int):=o_
 have v:i<(n:Int):=o_
 clear p x;go_enter Tryz.func272,Tryz.ntmps272;go_wp2;go_ret;trivial
def pO d(k:Nat) w(q:d.ai.length<=maxLen)(hk:k<d.ai.length):Calls Tryz.prog 50 #[.agg (aU d),.int .i64 k] w λe w'=>e = .returned (.bool true)/\Below w.heap.size w w':=by
 have b:=(ah _ w).alloc (ae _) (.cells (aU d) 70);have f:=kp b;unfold maxLen at q;unfold aU at*;have c:0<=(k:Int):=o_
 have g:k<(d.ai.length:Int):=o_
 clear b;generalize d.ai.length=n at*;go_enter Tryz.func50,Tryz.ntmps50;go_wp2;go_ret;trivial
def sa{d}(h:da d){k}(hk:k+1<d.ai.length):(d.ai[k]'(by omega)).up.length=(d.ai[k]'(by omega)).ar.length/\∀n∈(d.ai[k]'(by omega)).up,0<=n/\n<((d.ai[k+1]'hk).ar.length:Int):=by
 have h1:=(h.ai k (by omega)).tree;have h2:=(h.ai _ hk).n1;have e:dJ d k=((d.ai[k+1]'hk).ar.length):=by unfold dJ;rw[gE]
 rw[e]at h1;exact⟨h1.len o_,h1.up⟩
def pS{d}(h:da d):∀{k:Nat}(hk:k<d.ai.length){i:Nat},i<(d.ai[0]'(by omega)).ar.length->bN d k i<(d.ai[k]'hk).ar.length
 |0,hk,i,hi=>hi
 |k+1,hk,i,hi=>by
  have h1:=pS h (k:=k) (by omega) hi;obtain⟨e,b⟩:=sa h hk;rw[bN,gE (by omega)];dsimp only;unfold lh;rw[gE (by omega)];have:=b _ (gM (by omega:bN d k i<(d.ai[k]'(by omega)).up.length));grind
def dp(d:au)(a:Nat):Nat->Nat->Nat
 |0,i=>i
 |n+1,i=>match d.ai[a+n]? with
  |some t=>lh t (dp d a n i)
  |none=>0
def fu(d:au)(a b i:Nat):Nat:=dp d a (b-a) i
def Cd d:∀n i,dp d 0 n i=bN d n i
 |0,i=>rfl
 |n+1,i=>by
  rw[dp,bN,Cd,Nat.zero_add]
def rz{d}(h:da d){a}:∀{k:Nat}(hk:a+k<d.ai.length){i:Nat},i<(d.ai[a]'(by omega)).ar.length->dp d a k i<(d.ai[a+k]'hk).ar.length
 |0,hk,i,hi=>hi
 |k+1,hk,i,hi=>by
  have h1:=rz h (k:=k) (by omega) hi;obtain⟨e,b⟩:=sa h (k:=a+k) hk;rw[dp,gE (by omega)];dsimp only;unfold lh;rw[gE (by omega)];have:=b _ (gM (by omega:dp d a k i<(d.ai[a+k]'(by omega)).up.length));grind
def KI{d}(h:da d){a k}(hk:a+k+1<d.ai.length){i}(hi:i<(d.ai[a]'(by omega)).ar.length) :
 ∃b:dp d a k i<(d.ai[a+k]'(by omega)).up.length,0<=(d.ai[a+k]'(by omega)).up[dp d a k i]/\dp d a (k+1) i=lh (d.ai[a+k]'(by omega)) (dp d a k i):=by
 have h1:=rz h (k:=k) (by omega) hi;obtain⟨e,b⟩:=sa h hk;refine⟨o_,(b _ (gM _)).1,?_⟩;rw[dp,gE]
def KH d a n to i w(h:dB w w.heap.size d)(ho:da d)(H:a+n=to)(V:to<d.ai.length)(f:a<d.ai.length)(hi:i<(d.ai[a]'f).ar.length) :
 Calls Tryz.prog 209 #[.agg (aU d),.int .i64 (a:Nat),.int .i64 to,.int .i64 i] w λe w'=>e = .returned (.int .i64 (dp d a n i))/\Below w.heap.size w w':=by
 have hn:=h.n;have N:=kp (λw=>pO d a w hn o_);have L:=kp (λw=>pO d _ w hn V);have HO:=kp MI;have s:=(ah _ w).alloc (ae _) (.cells (aU d) 70);have HB:=kp (aa.new w 70 (aU d));have H0:=kp ((h.below s).more s.size);have a0:=kp s;have Hh:=kp h;have a6:=kp V;have G:=kp H;have d0:a<=to:=o_
 have Hi:=kp hi;have b5:=kp (λk(q:a+k+1<d.ai.length)=>KI ho q hi);have d5:=ho.n2;clear h ho s hi hn H;generalize hQ:(λ(e:Ending) w'=>e = .returned _/\Below _ w _)=Q;have HQ:=kp (show∀w',Below w.heap.size w w'->Q (.returned (.int .i64 (dp d a n i))) w' fromλw' hb=>r_);clear hQ;unfold aU at N L HB H0 a0⊢;obtain⟨C,u,_,_⟩:=HB.o.two;go_enter Tryz.func209,Tryz.ntmps209;go_wp2_with fail;refine(N _).mono ?_;clear C u;generalize w.alloc _=W0 at*;rintro e w1⟨rfl,g⟩;have c4:=ay a0 g;have U:=bu HB g;have H1:=kp ((H0.o.below g).more g.size);clear g;obtain⟨C,u,_,_⟩:=U.o.two;go_wp2_with fail;refine(L _).mono ?_;rintro e w2⟨rfl,m⟩;have b7:=ay c4 m;have X:=bu U m;have H2:=kp ((H1.o.below m).more m.size);clear m C u;obtain⟨C,u,_,_⟩:=X.o.two;obtain⟨b,off,F,hb,c0,c1,c2⟩:=H2.o.cU a (by omega);rw[F]at u;have B:¬(to:Int)<0:=o_
 have E:¬(i:Int)<0:=o_
 have a1:=decide_eq_false E;have a7:=Hi.o;have I:¬((d.ai[a]'f).ar.length:Nat)<=(i:Int):=o_
 have b3:a<(d.ai.length:Int):=o_
 have a4:0<=(a:Int):=o_
 have b0:decide (to<a)=false:=o_;have M:decide ((d.ai[a]'f).ar.length<=i)=false:=o_;generalize(d.ai[a]'f).ar.length=n0 at*;generalize(d.ai[a]'f).At=A0 at*;generalize(d.ai[a]'f).ct=k0 at*;go_wp2;go_loopw [3,9] (λv3 v9 wr=>∃k:Nat,k<=n/\v9 = .int .i64 ((a+k:Nat):Int)/\v3 = .int .i64 (dp d a k i)/\aa wr w.heap.size 70 #[.string d.name,.slice d.A d.ai.length d.c]/\Below w.heap.size w wr) (λ_ v9 _=>to-(intOf v9).toNat)
 case atStart=>exact⟨0,o_,s_,rfl,by have:=X.o;omega,b7⟩
 case round=>
  clear C u c0 c1 c2 B E a1 I b3 a4 b0 a7 F hb M;obtain⟨k,hk,rfl,rfl,Y,T⟩:=hrel;have J:=kp Y;have x:=kp T;clear Y T;have b2:0<=((dp d a k i):Int):=o_
  obtain⟨y,v⟩:∃y,a+k=y:=⟨_,rfl⟩;have a5:=kp v;by_cases d8:k<n
  .have a9:y<(to:Int):=by have:=G.o;omega
   have q:a+k+1<d.ai.length:=by have:=G.o;omega
   have r:a+k<d.ai.length:=o_;obtain⟨hu,O,W⟩:=b5 k q;have hd:=(Hh.o.below x).more x.o.size;obtain⟨b,off,F,hb,c0,c1,c2⟩:=hd.cU _ r;have z:=kp (HO _ _ _ (hd.ai _ (gM r)) hu O);unfold cY at z;rw[<-W]at z;have B:y<(d.ai.length:Int):=o_
   have E:0<=(y:Int):=o_
   obtain⟨C,u,_,_⟩:=J.o.two;rw[F]at u;clear hu O W hd F;generalize d.ai[a+k]'r=tk at*;rw[v]at c0 c1 c2⊢;clear v q r;generalize dp d a k i=p at*;go_wp2_with fail;refine z.o.mono ?_;rintro e w3⟨rfl,D⟩;have b4:=ay x D;have b6:=bu J D;clear D C u c0 c1 c2;go_wp2;exact⟨⟨_,o_,by rw[<-Nat.add_assoc,a5];go_num,rfl,b6,b4⟩,o_⟩
  .obtain rfl:k=n:=o_
   obtain rfl:y=to:=by have:=G.o;omega
   rw[v];have a9:¬ y<(y:Int):=o_
   have d3:¬((dp d a k i):Int) < -1:=o_
   have Hf:=kp (HQ _ x);generalize dp d a k i=p at*;go_wp2;exact Hf
def iw(d:au)(to:Nat):LN:=(range (fin d).length).map (bN d to)
def ej(d:au)(a n len:Nat):LN:=(range len).map (dp d a n)
def tg{d}(h:0<d.ai.length):fin d=(d.ai[0]'h).ar:=by
 obtain⟨n,A,b,c⟩:=d;obtain _|⟨t,b⟩:=b
 .grind
 .rfl
def Co d a n to n0 w(h:dB w w.heap.size d)(ho:da d)(a5:a+n=to)(C:to<d.ai.length)(z:a<d.ai.length)(F:(d.ai[a]'z).ar.length=n0):Calls prog 144 #[.agg (aU d),N a,I to] w (mN (ej d a n n0) w):=by
 obtain⟨i0,b1,c3,c6,b2⟩:=info_parts iK;have u:=h.n;have D:=z;have y:a<=to:=o_;have M:=J (λw=>pO d a w u D);have L:=J (λw=>pO d _ w u C);have O:=J (λi w h(hi:i<n0)=>KH d a n _ i w h ho a5 C z o_);have y:=(ah _ w).alloc (ae _) (.cells (aU d) 70);have u:=J (aa.new w 70 (aU d));have V:=J y;have y:n0<=200:=by rw[<-F];exact(ho.ai a D).n2
 have y:=ho.n2;have Y:(ej d a n n0).length=n0:=by unfold ej;simp
 have HQ:Kp (∀v w',w'.ownsRow w.heap.size 3 1 v n0 (an (ej d a n n0))->E w _->mN (ej d a n n0) w _ w'):=λv w' h1 y=>⟨v,rfl,r_,y⟩;generalize G:mN _ w=Q at*;unfold aU at M L u V O⊢;obtain⟨R,G,_,_⟩:=u.two;go_in;go_wp2_with fail;apply(M _).mono;generalize w.alloc _=M at*;rintro e M⟨rfl,H⟩;have M:=ay V H;have V:=bu u H;obtain⟨R,G,_,_⟩:=V.two;go_wp2_with fail;apply(L _).mono;rintro e u⟨rfl,B⟩;have x:=ay M B;have Z:=bu V B;clear B R G;obtain⟨R,G,_,_⟩:=Z.two;obtain⟨b,off,L,y,c0,c1,c2⟩:=(((J h).below x).more x.size).cU a D;rw[(J F)]at c1;rw[L]at G;have u:¬(to:Int)<0:=o_;have b7:a<(d.ai.length:Int):=o_;have a3:0<=(a:Int):=o_;have D:decide (to<a)=false:=o_;go_wp2;go_loopw [7,31] (λV s wr=>∃(k:Nat)(A:OA)(c:Nat),k<=n0/\s = I k/\V = U A k c/\aa wr w.heap.size 70 #[T d.name,U d.A d.ai.length d.c]/\wr.ownsRow (w.heap.size+1) 3 1 (U A k c) k (an ((ej d a n n0).take k))/\E w wr) (λ_ s _=>n0-(intOf s).toNat)
 case atStart=>exact⟨0,_,0,o_,rfl,rfl,by have:=Z;rw[L]at this⊢;exact this,cK _ _ _ _,x⟩
 .clear R G c0 c1 c2 u b7 a3 D L y;obtain⟨k,A,c,hk,rfl,rfl,D,r,p⟩:=hrel;by_cases W:k<n0
  .have y:=J (O k _ (((J h).below (J p)).more (J p).size) W);have L:=J (show an ((ej d a n n0).take (k+1))=an ((ej d a n n0).take k)++[I (dp d a n k:Nat)] by
    rw[take_succ_eq_append_getElem o_,oh];unfold ej;simp)
   obtain⟨R,G,_,_⟩:=(J D).two;have u:k<(n0:Int):=o_;have u:k<1048576*64:=o_;generalize dp d a n k=q at*;go_wp2_with fail;apply y.mono;rintro e G⟨rfl,y⟩;have O:=ay (J p) y;have X:=bu (J D) y;have f:=J (bS (J r) y);go_wp2_with(at_builtin;apply iP rfl _ _ _ rfl _ 3 _ _ 8 underlying84 b1 c3 c6 b2 rfl G (I _) rfl (U A k c) k _ rfl f rfl u d_ X.lt;intro u u m g;obtain⟨G,u,y⟩:=bY m;subst y;have D:=J m;have M:=J (X.grown g.grown (λe=>by have:=(f.lt _ e.symm).1;omega));have y:=J (g.below O f o_ O.size);clear m g);exact⟨⟨_,G,u,o_,o_,rfl,M,by rw[L];exact D,y⟩,o_⟩
  .obtain rfl:k=n0:=o_;have u:=J (HQ _ _ (by have:=dZ (J r) (Nat.le_succ _);rw[take_of_length_le o_]at this;omega) (J p));go_wp2;exact u
def KV d to w(h:dB w w.heap.size d)(c:da d)(b:to<d.ai.length):Calls prog 144 #[.agg (aU d),I 0,I to] w (mN (iw d to) w):=by
 have:=Co d 0 to _ _ w h c o_ b o_ rfl;have e:ej d 0 to (d.ai[0]'o_).ar.length=iw d to:=by
  unfold ej iw;rw[tg o_];exact map_congr_left λi _=>Cd d _ i
 grind
end Tc
namespace Tc
open List Go.RowKit Base Go.Maps Go.WideMaps Go.Proofs.Tryz
def lL:Keyed prog 3:=int_keyed underlying3
def jH:Keyed prog 9:=string_keyed underlying9
def nM w:(zeroValue 3).run prog w = .ok (I 0) w:=k_
def lits(l:List Int):List Lit:=l.map (.int .i64)
def Cm l:∀x∈lits l,WideAt.IsKeyLit x:=by
 intro x hx;unfold lits at hx;obtain⟨y,_,rfl⟩:=mem_map.1 hx;trivial
def FR l:∀(b:List Int),b.Nodup->∃r:List Int,(lits l).foldl addKey (lits b)=lits r/\r.Nodup/\∀x,x∈r↔x∈b\/x∈l:=by
 induction l with
 |nil=>intro b h;exact⟨b,rfl,h,s_⟩
 |cons a l p=>
  intro b h;have c:(lits b).any (λy=>y.sameKey (.int .i64 a))=decide (a∈b):=by
   rw[Bool.eq_iff_iff];unfold lits;simp;constructor
   .rintro⟨y,g,e⟩;by_cases f:y=a
    .grind
    .rw[sameKey_ne o_]at e;cases e
   .intro d;exact⟨a,d,by simp[Lit.sameKey]⟩
  by_cases d:a∈b
  .obtain⟨r,h1,h2,m⟩:=p b h;refine⟨r,?_,h2,λx=> ?_⟩
   .rw[<-h1];show(lits l).foldl addKey (addKey (lits b) (.int .i64 a))=_;unfold addKey at*;grind
   grind
  .obtain⟨r,h1,h2,m⟩:=p (b++[a]) (r_)
   refine⟨r,?_,h2,λx=> ?_⟩
   .rw[<-h1];show(lits l).foldl addKey (addKey (lits b) (.int .i64 a))=_;have e:addKey (lits b) (.int .i64 a)=lits (b++[a]):=by
     unfold addKey;rw[c,decide_eq_false d,if_neg s_];simp[lits]
    rw[e]
   grind
def LJ{r:List Int}{m}(h1:r.Nodup)(h2:∀x,x∈r↔∃i:Nat,i<m/\x=(i:Int)):r.length=m:=by
 have b:r.Perm ((range m).map λi:Nat=>i):=by
  rw[perm_ext_iff_of_nodup h1]
  .grind
  .rw[nodup_iff_pairwise_ne,pairwise_map];have hd:(range m).Nodup:=nodup_range;grind
 have:=b.length_eq;grind
def jZ(l:List Int):DataW Unit:=setOf (.lit (.int .i64 1)) (lits l)
def Cs l x:jZ (l++[x])=(jZ l).put (.int .i64 x) (.lit (.int .i64 1)):=by
 unfold jZ lits;rw[map_append];exact setOf_snoc _ _ _
def KZ{t}{m:Nat}(h:jQ t (m:Int)):Maps.size (jZ t.up)=m:=by
 unfold jZ;rw[size_setOf _ _ (Cm _)];obtain⟨r,h1,h2,c⟩:=FR t.up _ nodup_nil;have e:(lits _).foldl _ []=lits r:=h1;rw[e];unfold lits;rw[lM];refine LJ h2 λx=> ?_;rw[c];constructor
 .rintro(hx|hx)
  .grind
  .obtain⟨a,b⟩:=h.up x hx;exact⟨x.toNat,o_,o_⟩
 .rintro⟨i,hi,rfl⟩;exact .inr (h.all i o_)
def QN t c w(h:iV w w.heap.size t)(y:jQ t c):Calls Tryz.prog 271 #[.slice t.Au t.up.length t.cu,.int .i64 t.ar.length,.int .i64 c] w (cy (λr=>r=true) w):=by
 have J:=kp (λr w' h G=>cy.mono (P:=λr=>r=true) (w:=w) (r:=r) (w':=w') h G);have R:=kp h.up;have X:=h.nt;have V:=h.nu;unfold maxLen at X V;have H:=y.most;generalize Y:cy (λr=>r=true) w=Q at*;by_cases I:c<=0
 .have T:=y.top I;rw[T];go_enter Tryz.func271,Tryz.ntmps271;go_wp2;exact J _ _ s_ bR
 .obtain⟨m,rfl⟩:∃m:Nat,c=m:=⟨c.toNat,o_⟩;have L:=y.len o_;have u:=kp (KZ y);have B:=kp y.up;have W:(t.up.length != (t.ar.length:Int))=false:=o_
  have M:=@run_makeMap Tryz.prog;generalize t.ar.length=nt at*;generalize t.up=l at*;generalize t.Au=Au at*;generalize t.cu=cu at*;generalize F:l.length=n at*;clear L;go_enter Tryz.func271,Tryz.ntmps271;go_wp2;go_loopw [22] (λv wr=>∃k:Nat,k<=n/\v = .int .i64 k/\wr.ownsMap Tryz.prog 3 (plainElem Tryz.prog 3) w.heap.size k (jZ (l.take k))/\Below w.heap.size w wr) (λv _=>n-(intOf v).toNat)
  case atStart=>exact⟨0,o_,rfl,World.ownsMap_made _ _ _ _,bR.alloc o_ _⟩
  case round=>
   obtain⟨k,hk,rfl,q,p⟩:=hrel;by_cases D:k<n
   .have f:k<l.length:=o_
    obtain⟨b,off,rfl,G,c0⟩:=Row.at_ ((R.o.below p)) (by rw[lM];exact f);rw[getElem_map]at c0;obtain⟨O,U⟩:=B _ (gM f);have E:=kp (show jZ (l.take _)=(jZ (l.take k)).put (.int _ (l[k]'f)) _ by rw[take_succ_eq_append_getElem,Cs]);generalize(l[k]'f)=z at*;have C:=kp (show k<maxLen by unfold maxLen;omega);go_wp2_with(at_mapUpdate;refine wpList_mapUpdate_own _ rfl _ _ _ _ rfl 3 3 lL Tryz.underlying276 _ _ k _ rfl q C _ _ _ rfl rfl (keyOf_int_mk Tryz.underlying3 (WalkArith.wf_i64 o_)) _ _ (plainElem_int Tryz.underlying3 d_) ?_;intro Z g s;have x:=kp g;have A:=kp s;clear g s);refine⟨⟨k+1,o_,o_,?_,p.grown A p.size (λj e=>r_)⟩,o_⟩;rw[E];exact x
   .have d:=q;rw[take_of_length_le o_]at d;go_wp2_with(at_len;refine wpList_len_own _ rfl _ _ rfl 3 3 Tryz.underlying276 _ _ _ _ rfl d ?_;rw[u]);exact J _ _ s_ p
def QH t b w(h:iV w w.heap.size t)(f:kS t b):Calls prog 206 #[.agg (cY t),I b] w (cM (λr=>r=0) w):=by
 have D:=J (λr w' h z=>cM.mono (P:=λr=>r=0) (w:=w) (r:=r) (w':=w') h z);have d:=(ah _ w).alloc (ae _) (.cells (cY t) 104);have g:=J d;have q:=J (aa.new w 104 (cY t));have h0:=(h.below d).more d.size;have s:=J (yX _ (w.alloc (.cells (cY t) 104)) f.name);have c:=J (EW _ _ t.ct _ h0.nt h0.ar f.row);have u:=J (QN t b _ h0 f.tree);have h1:=f.n1;have h2:=f.n2;generalize L:cM (λr=>r=0) w=Q at*;unfold cY at q s c u g⊢;generalize t.name=x0 at*;generalize t.At=x1 at*;generalize t.ar.length=n at*;generalize t.ct=v at*;generalize t.Au=C at*;generalize t.up.length=E at*;generalize t.cu=B at*;have A:¬(n:Int)<1:=o_;go_in;go_wp2_with fail;generalize w.alloc (.cells #[T _,U _ n v,U C E B] _)=M at*;obtain⟨H,F,G,_,_,_⟩:=q.three;apply s.mono;rintro e y⟨rfl,rfl⟩;go_wp2_with fail;apply c.mono;rintro e y⟨rfl,rfl⟩;go_wp2_with fail;apply u.mono;rintro e N⟨r,rfl,rfl,m⟩;have p:=ay g m;go_wp2;exact D _ _ rfl p
def qB(D:DataW Unit)(L:List ByteArray):Prop:=∀x:ByteArray,x.size<=maxLen->(x∈L->D.atKey (.string x.data.toList) (.lit (.int .i64 0)) = .lit (.int .i64 1))/\(x∉L->D.atKey (.string x.data.toList) (.lit (.int .i64 0)) = .lit (.int .i64 0))
def gv(w:World)(g:Nat)(L:List ByteArray):Prop:=
 ∃D:DataW Unit,w.ownsMap prog 9 (plainElem prog 3) g L.length D/\IsMap D/\qB D L
def gv.new(w:World):gv (w.alloc (.map #[] 0)) w.heap.size []:=
 ⟨_,World.ownsMap_made _ _ _ _,isMap_empty,λx _=>⟨s_,λ_=>o_⟩⟩
def gv.below{w w' g L}(h:gv w g L)(e:E w w'):gv w' g L:=by
 obtain⟨D,⟨d,cl,h1,h2⟩,f⟩:=h;have b:g<w.heap.size:=r_
 exact⟨D,⟨d,_,(e.block g b).trans h1,h2⟩,f⟩
def gv.lt{w g L}(h:gv w g L):g<w.heap.size:=by
 obtain⟨D,h1,_⟩:=h;exact h1.lt
def Qh{x y:ByteArray}(h:Lit.string x.data.toList=Lit.string y.data.toList):x=y:=by
 injection h with h;cases x with
 |mk b=>cases y with
  |mk c=>exact congrArg _ (Array.toList_inj.1 h)
def Ct{D L}(b:IsMap D)(d:qB D L) z(f:z.size<=maxLen):qB (D.put (.string z.data.toList) (.lit (.int .i64 1))) (L++[z]):=by
 intro x hx;by_cases e:x=z
 .subst e;rw[atKey_put_same (k:= .string _) b (trivial)];simp
 .rw[atKey_put_other (λc=>e (Qh c))];simp only[mem_append,mem_singleton,e,or_false];exact d x hx
def uW(w:World)(g:Nat)(L:List ByteArray)(z:ByteArray)(e:Ending)(w':World):Prop:=e = .returned (.bool true)/\w.grownBy w' (some g)/\gv w' g (L++[z])
def Bo g L z w(u:z.size<=maxLen)(G:L.length<=5000)(M:gv w g L)(v:z∉L) :
 Calls Tryz.prog 138 #[.map (some g),.string z] w (uW w g L z):=by
 obtain⟨D,f,C,r⟩:=M;have e:=Ct C r z u;have F:∀q:Int,D.atKey (.string z.data.toList) (.lit (.int .i64 0)) = .lit (.int .i64 q)->q=0:=by
  intro q c;rw[(r z u).2 v]at c;injection c with c;injection c with _ c;omega
 have B:∀q:Int,(D.put (.string z.data.toList) (.lit (.int .i64 1))).atKey (.string z.data.toList) (.lit (.int .i64 0)) = .lit (.int .i64 q)->q=1:=by
  intro q c;rw[(e z u).1 s_]at c;injection c with c;injection c with _ c;omega
 have d:=kp (show keyOf _ 9 _=some _ from keyOf_string_mk Tryz.underlying9 u);have E:=kp (show L.length<maxLen from Nat.lt_of_le_of_lt G (by unfold maxLen;omega));have I:=kp (show∀w',w.grownBy w' _->w'.ownsMap _ 9 (plainElem _ 3) g (L.length+1) (D.put (.string _) (.lit _))->uW w g L z _ _ fromλw' h1 h2=>⟨rfl,h1,_,o_,C.put _ _,e⟩);generalize H:uW w g L z=Q at*;clear H e r C v u G;go_enter Tryz.func138,Tryz.ntmps138;go_wp2_with(first
  |(at_lookup;refine wpList_lookup_own_int _ rfl (.tmp 5) (.tmp 6) 242 rfl 9 3 .i64 jH Tryz.underlying242 Tryz.underlying3 (nM _) g L.length D rfl f (.string z) (.string z.data.toList) rfl d.o ?_;intro q p A;obtain rfl:=F q p;clear p A)
  |(at_mapUpdate;refine wpList_mapUpdate_own _ rfl _ _ _ _ rfl 9 3 jH Tryz.underlying242 _ g _ D rfl f E _ _ _ rfl rfl d _ _ (plainElem_int Tryz.underlying3 d_) ?_;intro N b n;have x:=kp n;clear n)
  |(at_lookup;refine wpList_lookup_own_int _ rfl _ _ _ rfl 9 3 _ jH Tryz.underlying242 Tryz.underlying3 (nM _) g _ _ rfl b _ _ rfl d ?_;intro J m y;obtain rfl:=B J m;have s:=kp b;clear m y b))
 exact I _ x s
def FQ d k w(h:dB w w.heap.size d)(hk:k<d.ai.length):Calls Tryz.prog 207 #[.agg (aU d),.int .i64 k] w λe w'=>e = .returned (.int .i64 (dJ d k))/\Below w.heap.size w w':=by
 have q:=h.n;unfold maxLen at q;have f:=(ah _ w).alloc (ae _) (.cells (aU d) 70);by_cases c:k+1<d.ai.length
 .have h0:=(h.below f).more f.size;obtain⟨b,off,r,u,c0,c1,c2⟩:=h0.cU _ c;have p:=J (show dJ d k=((d.ai[k+1]'c).ar.length) by unfold dJ;rw[gE]);generalize dJ d k=V at*;have m:k+1<(d.ai.length:Int):=o_;have s:0<=(k:Int)+1:=o_;have g:=J f;unfold aU at*;rw[r]at*;generalize(d.ai[k+1]'c).At=x1 at*;generalize(d.ai[k+1]'c).ar.length=x2 at*;generalize(d.ai[k+1]'c).ct=v at*;go_in;go_wp2;go_ret;exact⟨by rw[p];rfl,g⟩
 .have p:=J (show dJ d k=0 by unfold dJ;grind);generalize dJ d k=V at*;have m:¬ k+1<(d.ai.length:Int):=o_;have g:=J f;unfold aU at*;go_enter Tryz.func207,Tryz.ntmps207;go_wp2;go_ret;exact⟨by rw[p];rfl,g⟩
def Q0{l:List dU}{k}(hk:k<l.length)(b:∀i(hi:i<k),l[i].name≠l[k].name):l[k].name∉(l.take k).map dU.name:=by
 intro c;obtain⟨t,ht,e⟩:=mem_map.1 c;obtain⟨i,hi,rfl⟩:=getElem_of_mem ht;grind
def gv.look{D L z}(d:qB D L)(e:z.size<=maxLen)(c:z∉L):∀q:Int,D.atKey (.string z.data.toList) (.lit (.int .i64 0)) = .lit (.int .i64 q)->q=0:=by
 intro q b;rw[(d z e).2 c]at b;grind
def gv.KS{D L z}(d:qB D L)(e:z.size<=maxLen)(c:z∈L):∀q:Int,D.atKey (.string z.data.toList) (.lit (.int .i64 0)) = .lit (.int .i64 q)->q=1:=by
 intro q b;rw[(d z e).1 c]at b;grind
def K9{a b c x0 x1 f d g v w'}(e:E v w')(h:C v f 0 x0/\C v f 1 x1/\C v d 0 a/\C v d 1 b/\C v d 2 c/\E g v) :
 C w' f 0 x0/\C w' f 1 x1/\C w' d 0 a/\C w' d 1 b/\C w' d 2 c/\E g w':=by
 obtain⟨h0,h1,h2,n,p,m⟩:=h;exact⟨al e h0,al e h1,al e h2,al e n,al e p,m.trans (e.mono m.size)⟩
def IF d w(h:dB w w.heap.size d)(ho:da d):Calls Tryz.prog 137 #[.agg (aU d)] w (cM (λr=>r=0) w):=by
 have HR:=J (λr w' h hb=>cM.mono (P:=λr=>r=0) (w:=w) (r:=r) (w':=w') h hb);have z:=(ah _ w).alloc (ae _) (.cells (aU d) 70);have a2:=J z;have H0:=J ((h.below z).more z.size);have HB:=J (aa.new w 70 (aU d));have hn:=h.n;have HN:=J (yX _ (w.alloc (.cells (aU d) 70)) ho.name);have HA:=kp FQ;have HW:=J QH;have g6:=@run_makeMap prog;have c6:¬(d.ai.length:Int)<1:=by have:=ho.n1;omega
 have h4:=ho.n2;unfold maxLen at hn;clear h z;generalize hQ:cM (λr=>r=0) w=Q at*;clear hQ;unfold aU at HB HN a2 H0⊢;go_in;go_wp2_with fail;generalize w.alloc _=G at*;obtain⟨b0,b1,_,_⟩:=HB.two;apply HN.mono;rintro e w1⟨rfl,rfl⟩;obtain⟨m0,m1,_,_⟩:=(HB.alloc (.map #[] 0)).two;go_wp2;clear c6 b0 b1 m0 m1 HN
 go_loopw [28] (λY wr=>∃k:Nat,k<=d.ai.length/\Y = I k/\gv wr G.heap.size ((d.ai.take k).map dU.name)/\E G wr) (λY _=>d.ai.length-(intOf Y).toNat)
 case atStart=>exact⟨0,o_,rfl,gv.new _,bR.alloc o_ _⟩
 .obtain⟨k,hk,rfl,N,g⟩:=hrel;obtain⟨b0,b1,_,_⟩:=(HB.under g).two;by_cases f:k<d.ai.length
  .have hd:=(H0.o.below g).more g.size;have H:=(ah _ wr).alloc (ae _) (.cells (cY (d.ai[k]'f)) 104);have b5:=kp (show∀W,Below _ _ W->Calls _ _ #[.agg #[.string _,.slice _ _ _],.int _ k] W λe w'=>e = .returned _/\Below _ W _ fromλW M=>HA d k W ((hd.below M).more M.size) f);have d5:=kp (show∀W,Below _ _ W->Calls _ _ #[.agg #[.string (d.ai[k]'f).name,.slice (d.ai[k]'f).At (d.ai[k]'f).ar.length (d.ai[k]'f).ct,.slice (d.ai[k]'f).Au (d.ai[k]'f).up.length (d.ai[k]'f).cu],.int _ _] W _ fromλW M=>HW _ _ W (((hd.ai _ (gM f)).below M).more M.size) (ho.ai k f));obtain⟨b,off,hA,hb,c0,c1,c2⟩:=hd.cU k f;have y:=kp ((hd.ai _ (gM f)).name);have b4:=kp (Q0 f (λi hi=>ho.names i k f hi));have a9:=kp (show(d.ai.take _).map _=(d.ai.take k).map _++[(d.ai[k]'f).name] by rw[take_succ_eq_append_getElem,map_append];rfl);have c9:=kp (show((d.ai.take k).map dU.name).length<=4 by grind);rw[hA]at b1 b5⊢;have f8:0<=(k:Int):=o_
   have f9:k<(d.ai.length:Int):=o_
   clear H;generalize c8:(d.ai.take (k+1)).map _=L1 at*;generalize(d.ai.take k).map _=L at*;generalize dJ d k=ab at*;generalize(d.ai[k]'f).name=nm at*;generalize(d.ai[k]'f).At=x1 at*;generalize(d.ai[k]'f).ar.length=x2 at*;generalize(d.ai[k]'f).ct=C at*;generalize(d.ai[k]'f).Au=F at*;generalize(d.ai[k]'f).up.length=B at*;generalize(d.ai[k]'f).cu=x at*;go_upto_region 5 with fail
   have c3:=kp (aa.new wr 104 #[.string nm,.slice x1 x2 C,.slice F B x]);have m:=kp ((ah _ wr).alloc (ae _) (.cells #[.string nm,.slice x1 x2 C,.slice F B x] 104));have b8:=kp (λW(M:Below _ _ W)=>b5 W (m.o.trans (M.mono m.o.size)));have d7:=kp (λW(M:Below _ _ W)=>d5 W (m.o.trans (M.mono m.o.size)));obtain⟨t0,t1,t2,_,_,_⟩:=c3.o.three;obtain⟨d0,d1,_,_⟩:=((HB.o.under g).alloc (.cells #[.string nm,.slice x1 x2 C,.slice F B x] 104)).two;rw[hA]at d1;generalize g0:wr.alloc _=W2 at*;generalize b2:wr.heap.size=gT at*;have d3:=kp (show some gT≠some G.heap.size fromλhh=>by injection hh with hh;have:=N.lt;omega)
   go_region_held3 (λw'=>w'.cell? ⟨w.heap.size,0,none⟩=some (.string d.name)/\w'.cell? ⟨w.heap.size,1,none⟩=some (.slice (some ⟨b,off,none⟩) d.ai.length d.c)/\w'.cell? ⟨gT,0,none⟩=some (.string nm)/\w'.cell? ⟨gT,1,none⟩=some (.slice x1 x2 C)/\w'.cell? ⟨gT,2,none⟩=some (.slice F B x)/\Below W2.heap.size W2 w')
    (first
      |exact⟨d0,d1,t0,t1,t2,(ah _ _).drew⟩
      |(go_split_ands;with_reducible exact K9 H ⟨o_,o_,o_,o_,o_,o_⟩))
    (first
      |(go_at_call 207;go_split_ands;refine(b8 _ o_).mono ?_;rintro e wx⟨rfl,H⟩)
      |(go_at_call 206;go_split_ands;refine(d7 _ o_).mono ?_;rintro e wx⟨r1,rfl,b7,H⟩))
   rename_i a1;obtain⟨e0,e1,e2,e3,e4,a0⟩:=a1;have V:=kp ((N.below (by show Below _ _ _;rw[b2];exact m)).below a0);subst b7;have a7:=kp (show L.length<maxLen from Nat.lt_of_le_of_lt c9 (by unfold maxLen;omega));obtain⟨D,R,hD,a5⟩:=V.o;have c4:=kp (gv.look a5 y.out b4);have p:=Ct hD a5 _ y.out;have c5:=kp (gv.KS p y.out s_);have u:=kp (show keyOf _ 9 _=some _ from keyOf_string_mk Tryz.underlying9 y.out);have a4:=kp (show∀w',w'.ownsMap Tryz.prog 9 (plainElem Tryz.prog 3) G.heap.size (L.length+1) (D.put (.string nm.data.toList) (.lit (.int .i64 1)))->gv w' _ L1 fromλw' h2=>⟨_,by rw[a9,aE];omega,hD.put _ _,by rw[a9];omega⟩)
   go_wp2_with(first
    |(at_lookup;refine wpList_lookup_own_int _ rfl (.tmp 41) (.tmp 43) 141 rfl 9 3 .i64 jH Tryz.underlying141 Tryz.underlying3 (nM _) G.heap.size L.length D rfl R (.string nm) (.string nm.data.toList) rfl u.o ?_;intro q O b9;obtain rfl:=c4 q O;clear O b9)
    |(at_mapUpdate;refine wpList_mapUpdate_own _ rfl _ _ _ _ rfl 9 3 jH Tryz.underlying141 _ _ _ D rfl R a7 _ _ _ rfl rfl u _ _ (plainElem_int Tryz.underlying3 d_) ?_;intro w4 s v;have b6:=kp v;have g4:=(v.cell e2 d3);clear v e2)
    |(at_lookup;refine wpList_lookup_own_int _ rfl _ _ _ rfl 9 3 _ jH Tryz.underlying141 Tryz.underlying3 (nM _) _ _ _ rfl s _ _ rfl u ?_;intro q2 p a6;obtain rfl:=c5 _ p;have X:=kp s;clear p a6 s))
   have Z:=kp (a4 _ X);have d4:=kp (show G.heap.size<=gT from by have:=g.size;omega);have d6:=kp (((g.trans (m.o.mono d4)).trans (a0.mono (aF g.size m.o.size))).grown b6 (aF (aF g.size m.o.size) a0.size) (λj e=>r_));refine⟨⟨k+1,o_,o_,?_,d6⟩,o_⟩;rw[c8];exact Z
  . go_wp2;exact HR _ _ rfl (a2.o.trans (g.mono a2.o.size))
def KX A(l:List ByteArray) c w(G:Row w w.heap.size A (l.map .string))(V:∀x∈l,x.size<=maxLen)(m1:1<=l.length)(m2:l.length<=3)(y:∀k(h:k<l.length),iG l[k])(v:∀i k(hk:k<l.length)(hi:i<k),l[i]≠l[k]) :
 Calls prog 139 #[U A l.length c] w (cM (λr=>r=0) w):=by
 have N:=J (λr w' h C=>cM.mono (P:=λr=>r=0) (w:=w) (r:=r) (w':=w') h C);have M:=J yX;have F:=J Bo;have H:=@run_makeMap prog;generalize X:cM (λr=>r=0) w=Q at*;obtain⟨n,D⟩:=e_ l.length;rw[D]at m1 m2⊢;have L:¬(n:Int)<1:=o_;have W:¬ 3<(n:Int):=o_;go_in;go_wp2;go_loopw [18] (λg wr=>∃k:Nat,k<=n/\g = I k/\gv wr w.heap.size (l.take k)/\E w wr) (λg _=>n-(intOf g).toNat)
 case atStart=>exact⟨0,o_,rfl,gv.new _,bR.alloc o_ _⟩
 .obtain⟨k,hk,rfl,m,f⟩:=hrel;by_cases u:k<n
  .have d:k<l.length:=o_
   obtain⟨b,off,R,C,c0⟩:=Row.at_ ((J G).below (J f)) (by rw[lM];exact d);rw[getElem_map]at c0;rw[R];have s:=J (M _ wr ((J y) k d));have q:=J (F _ _ _ _ ((J V) _ (gM d)) o_ (J m) (λT=>by
    obtain⟨i,hi,e⟩:=getElem_of_mem T;grind))
   have z:=J (show l.take (k+1)=l.take k++[l[k]'d] by simp);generalize(l[k]'d)=x at*;go_wp2_with fail;apply s.mono;rintro e O⟨rfl,rfl⟩;go_wp2_with fail;apply q.mono;rintro e O⟨rfl,B,p⟩;go_wp2;refine⟨⟨k+1,o_,o_,by rw[z];omega,(J f).grown (J B) (J f).size (λj e=>r_)⟩,o_⟩
  . go_wp2;exact N _ _ rfl (J f)
def Q1{l:List au}{k}(hk:k<l.length)(b:∀i(hi:i<k),l[i].name≠l[k].name):l[k].name∉(l.take k).map au.name:=by
 intro c;obtain⟨t,ht,e⟩:=mem_map.1 c;obtain⟨i,hi,rfl⟩:=getElem_of_mem ht;grind
def yL s w(h:cQ w w.heap.size s)(p:cJ s):Calls prog 60 #[.agg (aG s)] w (cM (λr=>r=0) w):=by
 have HR:=J (λr w' h hb=>cM.mono (P:=λr=>r=0) (w:=w) (r:=r) (w':=w') h hb);have u:=(ah _ w).alloc (ae _) (.cells (aG s) 25);have B:=J u;have H0:=J ((h.below u).more u.size);have N:=J (aa.new w 25 (aG s));have hn:=h.n;have X:=h.nm;have HD:=J IF;have HF:=J Bo;have HM:=J (λW hW hr=>KX s.Am _ s.cm W hr hW p.m1 p.m2 p.aC p.L2);have d4:=@run_makeMap prog;have Z:¬(s.af.length:Int)<1:=by have:=p.n1;omega
 have b3:¬ 16<(s.af.length:Int):=by have:=p.n2;omega
 have c8:=p.n2;unfold maxLen at hn X;generalize hQ:cM (λr=>r=0) w=Q at*;unfold aG at N B H0⊢;go_in;have a4:=(N.alloc (.map #[] 0)).two;have O:=N.two;obtain⟨m0,m1,_,_⟩:=a4;obtain⟨b0,b1,_,_⟩:=O;generalize H:w.alloc (.cells #[U _ _ _,U _ _ _] _)=W0 at*;go_wp2
 (try rw[H])
 clear Z b3 b0 b1 m0 m1 H
 go_loopw [21] (λz wr=>∃k:Nat,k<=s.af.length/\z = I k/\gv wr W0.heap.size ((s.af.take k).map au.name)/\E W0 wr) (λz _=>s.af.length-(intOf z).toNat)
 case atStart=>exact⟨0,o_,rfl,gv.new _,bR.alloc o_ _⟩
 .obtain⟨k,hk,rfl,F,x⟩:=hrel;have f:=J x;have a2:=bu N x;clear x;by_cases d:k<s.af.length
  .have hs:=(H0.below f).more f.size;have hd:=hs.af _ (gM d);obtain⟨b,off,hA,hb,c0,c1⟩:=hs.aj k d;rw[hA];have m:=(ah _ wr).alloc (ae _) (.cells (aU (s.af[k]'d)) 70);have D:=J (HD _ _ ((hd.below m).more o_) ((J p).af k d));have a1:Kp _:=hd.name;have M:=J (Q1 d (λi hi=>(J p).names i k d hi));have a0:=J (show(s.af.take _).map _=(s.af.take k).map _++[(s.af[k]'d).name] by rw[take_succ_eq_append_getElem,map_append];rfl);have a5:=J (show((s.af.take k).map au.name).length<=5000 by grind);have c6:0<=(k:Int):=o_
   have c9:k<(s.af.length:Int):=o_
   have V:=J m;have C:=J (aa.new wr 70 (aU (s.af[k]'d)));have q:=ay f m;have g:=J ((J F).below m);unfold aU at D V C q g;generalize hL:(s.af.take k).map _=L at*;generalize(s.af[k]'d).name=nm at*;generalize(s.af[k]'d).A=x1 at*;generalize(s.af[k]'d).ai.length=x2 at*;generalize(s.af[k]'d).c=x3 at*;obtain⟨t0,t1,_,_⟩:=C.two;go_upto_region 7 with fail
   generalize d1:wr.alloc (.cells #[T _,U _ _ x3] _)=W2 at*;go_wp2_with fail;apply D.mono;rintro e w3⟨r,rfl,rfl,y⟩;have G:=ay q y;have v:=J (g.below y);have R:=J (HF _ L _ _ a1 a5 v M);have d3:=al y t0;go_wp2_with fail;apply R.mono;rintro e w4⟨rfl,a8,a7⟩;go_wp2;refine⟨⟨k+1,o_,o_,by rw[a0];omega,G.grown (J a8) G.size (λj e=>r_)⟩,o_⟩
  .obtain⟨b0,b1,_,_⟩:=a2.two;have Hs:=J ((H0.below f).more f.size);have Y:=J (HM _ Hs.sz Hs.aC);go_wp2_with fail;apply Y.mono;rintro e w4⟨r,rfl,rfl,a9⟩;have b2:=ay f a9;go_wp2;exact HR _ _ rfl (B.trans (b2.mono B.size))
end Tc
namespace Tc
open List Go.RowKit Base Go.Proofs.Tryz
def vO(s:aN)(r:Rw)(w:World)(e:Ending)(w':World):Prop:=∃(v:Value)(keys:LN),e = .returned (.tuple #[v,I 0])/\eE s r keys/\w'.ownsRow w.heap.size 3 1 v keys.length (an keys)/\E w w'
def DZ s r w(h:cQ w w.heap.size s)(hr:kQ w w.heap.size r)(ho:cJ s)(c6:∃keys,eE s r keys):Calls prog 130 #[.agg (aG s),.agg (fB r)] w (vO s r w):=by
 obtain⟨ks,L⟩:=c6;have a9:Kp (∀v keys w',eE s r _->w'.ownsRow w.heap.size 3 1 v keys.length (an keys)->E w _->vO s r w _ w'):=λv keys w' h1 h2 D=>⟨v,_,rfl,h1,h2,D⟩;have u:=(ah _ w).alloc (ae _) (.cells (aG s) 25);have p:=u.alloc o_ (.cells (fB r) 83);have V:=J ((aa.new w 25 (aG s)).alloc (.cells (fB r) 83));have G:=J (aa.lay (w:=w.alloc (.cells (aG s) 25)) (g:=w.heap.size+1) (t:=83) (cs:=fB r) s_);have M:=J ((h.below p).more p.size);have Z:=J ((hr.below p).more p.size);have hn:=h.n;have y:=h.nm;have O:=hr.n;have z:=hr.nv;have d5:=J ER;have C:=J L;obtain⟨i0,b7,d8,e4,c3⟩:=info_parts iK;unfold maxLen at hn y O z;have y:(r.ar.length != (s.af.length:Int))=false:=by simp;have:=L.nt;omega
 have O:(r.cj.length != (s.aC.length:Int))=false:=by simp;have:=L.nv;omega
 have z:r.ar.length<=s.af.length:=r_
 have z:=ho.n2;clear h hr u L;generalize z:vO s r w=Q at*;clear z;unfold aG fB at*;go_in;go_wp2;clear y O;generalize(w.alloc _).alloc _=L at*;go_loopw [6,30] (λz y wr=>∃(k:Nat)(keys:LN)(A:OA)(c:Nat),k<=r.ar.length/\y = I k/\z = U A k c/\oR s r k keys/\wr.ownsRow L.heap.size 3 1 (U A k c) k (an keys)/\E L wr) (λ_ y _=>r.ar.length-(intOf y).toNat)
 case atStart=>exact⟨0,[],_,0,o_,rfl,rfl,⟨rfl,λi _ _ _ h=>o_⟩,cK _ _ _ _,bR⟩
 .obtain⟨k,keys,A,c,hk,rfl,rfl,T,W,N⟩:=hrel;have B:=J N;obtain⟨b0,b1,_,_⟩:=(V.under N).two;obtain⟨q0,q1,_,_⟩:=(G.under N).two;clear N;by_cases z:k<r.ar.length
  .have f:k<s.af.length:=o_;have G:=(M.below B).more B.size;have b3:=(Z.below B).more B.size;obtain⟨b,off,hA,D,c0,c1⟩:=G.aj k f;obtain⟨y,y,D,y,t0⟩:=Row.at_ b3.ar (by rw[lM];exact z);rw[getElem_map]at t0;rw[hA]at b0;rw[D]at q0;have m:=(J ho).af k f;obtain⟨X,y,O,H⟩:=m.xb;have Y:=G.af _ (gM f);have R:0<(s.af[k]'f).ai.length:=m.n1;obtain⟨bd,M,a6,h0,d0,Z,d2⟩:=Y.cU 0 R;have a3:(s.af[k]'f).ai[0]'R=y:=r_
   rw[a3]at d0 Z d2;have a5:=Y.ai y (mem_of_getElem? O);rw[a6]at c1;rw[Nat.zero_mul,Nat.add_zero]at Z;have M:k<ks.length:=by rw[C.n];omega
   have F:(fin _)[ks[k]'M]? = some _:=C.at_ k _ _ _ (gE f) (gE z) (gE M);have V:y.ar.length<=1000000:=by
    have:=(m.ai 0 R).n2;rw[a3]at this;omega
   have a8:=J (d5 _ _ y.ct (ks[k]'M) (r.ar[k]'z) _ V a5.ar r_ r_);have b8:=J ((J T).next (gE f) (gE z) F);have h2:=m.n2;have y:(((s.af[k]'f).ai.length:Int) == 0)=false:=r_
   have y:0<=(k:Int):=o_;have y:k<(s.af.length:Int):=o_;have y:k<(r.ar.length:Int):=o_;rw[D];clear G b3 hA D m O H Y a6 a3 a5 d0 d2 c0 b1 q1 X F V;generalize(s.af[k]'f).ai.length=nd at*;generalize(s.af[k]'f).c=y at*;generalize(r.ar[k]'z)=x at*;generalize(ks[k]'M)=q at*;go_wp2_with fail;apply a8.mono;rintro e y⟨rfl,u⟩;have M:=ay B u;have D:=J (bS (J W) u);have z:=J M.size;have G:k<1048576*64:=o_;clear b0 q0 c1 Z t0 a8 u;go_wp2_with(at_builtin;apply iP rfl _ _ _ rfl _ 3 _ _ 8 underlying84 b7 d8 e4 c3 rfl y (I _) rfl (U A k c) k _ rfl D rfl G d_ z;intro u u y G;obtain⟨O,u,L⟩:=bY y;subst L;have V:=J y;have L:=J (G.below M D o_ z);clear y G);exact⟨⟨_,_,O,u,o_,o_,rfl,b8,by rw[oh];exact V,L⟩,o_⟩
  .obtain rfl:k=r.ar.length:=o_;have Z:Kp (eE s r _):=⟨by rw[(J T).1];exact C.nt,C.nt,C.nv,λi d t q h1 h2 u=>(J T).2 i d t q r_ h1 h2 u⟩;have u:=J (J T).1;have y:=J (J p).size;go_wp2;exact a9 _ _ _ Z (by rw[u];exact dZ (J W) y) ((J p).trans (B.mono (J p).size))
def vJ(a:Ag)(w:World)(e:Ending)(w':World):Prop:=e = .returned (.tuple #[.agg (aA a),I 0])/\E w w'
def G8 A l c w(hl:l.length<=3)(hr:Row w w.heap.size A (l.map (.int .i64))):Calls prog 131 #[U A l.length c] w (vJ (dM l) w):=by
 have HQ:Kp (∀w',E w _->vJ (dM l) w _ w'):=λw' h=>⟨rfl,h⟩;generalize u:vJ _ w=Q at*;clear u;have B:=(ah _ w).alloc (ae _) (.cells (aA az) 78);have u:=B.alloc o_ (.cells (aA (fW l 0)) 78);have G:=J ((aa.new w 78 (aA az)).alloc (.cells (aA (fW l 0)) 78));have y:=J (aa.lay (w:=w.alloc (.cells (aA az) 78)) (g:=w.heap.size+1) (t:=78) (cs:=aA (fW l 0)) s_);clear B;generalize z:l.length=n at*;have D:¬ 3<(n:Int):=o_;go_in;go_wp2;clear D;go_loopw [14] (λC wr=>∃k:Nat,k<=n/\C = I k/\aa wr w.heap.size 78 (aA az)/\aa wr (w.heap.size+1) 78 (aA (fW l k))/\E w wr) (λC _=>n-(intOf C).toNat)
 case atStart=>exact⟨0,o_,rfl,G,y,(J u)⟩
 .obtain⟨k,hk,rfl,m,d,X⟩:=hrel;have r:=J X;clear X;by_cases q:k<n
  .have e:k<l.length:=o_
   obtain⟨b,off,rfl,u,c0⟩:=Row.at_ (((J hr).below r).more r.size) (by rw[lM];exact e);rw[getElem_map]at c0;have x:0<=(k:Int):=o_;match k,hk,q,e,d,c0,x with
   |0,hk,q,e,d,c0,x=> ?_
   |1,hk,q,e,d,c0,x=> ?_
   |2,hk,q,e,d,c0,x=> ?_
   |k+3,hk,q,e,d,c0,x=>omega
   .rw[zK]at d;rw[Nat.add_zero]at c0;have f:=J d;obtain⟨⟨G,F,N,T,L,V,R,D,O,H⟩,Z⟩:=aa.cr d;have u:=J (show pv l 0=(l[0]'e) by unfold pv;rw[gE];rfl);have W:0<(n:Int):=o_;clear d;generalize(l[0]'e)=y at*;go_wp2;refine⟨⟨1,o_,o_,?_,?_,?_⟩,o_⟩
    .exact(((J m).aJ s_ _).aJ s_ _).aJ s_ _
    .rw[sJ,u];exact((f.set 1 _).set 2 _).set 3 _
    .exact((r.setCell s_ _).setCell s_ _).setCell s_ _
   .rw[sJ]at d;have f:=J d;obtain⟨⟨G,F,N,T,L,V,R,D,O,H⟩,Z⟩:=aa.cr d;have u:=J (show pv l 1=(l[1]'e) by unfold pv;rw[gE];rfl);have W:1<(n:Int):=o_;clear d;generalize(l[1]'e)=y at*;go_wp2;refine⟨⟨2,o_,o_,?_,?_,?_⟩,o_⟩
    .exact(((J m).aJ s_ _).aJ s_ _).aJ s_ _
    .rw[sK,u];exact((f.set 4 _).set 5 _).set 6 _
    .exact((r.setCell s_ _).setCell s_ _).setCell s_ _
   .rw[sK]at d;have f:=J d;obtain⟨⟨G,F,N,T,L,V,R,D,O,H⟩,Z⟩:=aa.cr d;have u:=J (show pv l 2=(l[2]'e) by unfold pv;rw[gE];rfl);have W:2<(n:Int):=o_;clear d;generalize(l[2]'e)=y at*;go_wp2;refine⟨⟨3,o_,o_,?_,?_,?_⟩,o_⟩
    .exact(((J m).aJ s_ _).aJ s_ _).aJ s_ _
    .rw[zL,u];exact((f.set 7 _).set 8 _).set 9 _
    .exact((r.setCell s_ _).setCell s_ _).setCell s_ _
  .obtain rfl:k=n:=o_;rw[zM l k o_ o_]at d;have f:=J d;clear d;generalize dM l=a at*;obtain⟨⟨G,F,N,T,L,V,R,D,O,H⟩,_⟩:=aa.cr f;obtain⟨u,Z⟩:=aa.cr (J m);go_wp2;have z:=J (Below.kJ (I a.c) (I a.s0) (I a.n0) (I a.x0) (I a.s1) (I a.n1) (I a.x1) (I a.s2) (I a.n2) (I a.x2) r (ae _));have s:=aa.kJ (I a.c) (I a.s0) (I a.n0) (I a.x0) (I a.s1) (I a.n1) (I a.x1) (I a.s2) (I a.n2) (I a.x2) (J m);clear G F N T L V R D O H u Z;revert z s;generalize((((((((((wr.setCell _ _).setCell _ _).setCell _ _).setCell _ _).setCell _ _).setCell _ _).setCell _ _).setCell _ _).setCell _ _).setCell _ _)=u;intro z s;obtain⟨⟨G,F,N,T,L,V,R,D,O,H⟩,_⟩:=aa.cr s;refine bodyPost_ret (by simp[results,go_sem,G,F,N,T,L,V,R,D,O,H]) rfl (HQ _ z)
def Gs s A l c w(h:cQ w w.heap.size s)(O:fT w w.heap.size A l)(M:iC s l):Calls prog 129 #[.agg (aG s),U A l.length c] w (cM (λr=>r=0) w):=by
 have HR:=J (λr w' h D=>cM.mono (P:=λr=>r=0) (w:=w) (r:=r) (w':=w') h D);have d:=(ah _ w).alloc (ae _) (.cells (aG s) 25);have x:=J d;have Y:=J (aa.new w 25 (aG s));have y:=J ((h.below d).more d.size);have L:=J ((O.below d).more d.size);have u:=O.n;have R:=J (yL s _ ((h.below d).more o_) M.bO);have H:=J DZ;have z:=M.n;unfold maxLen at u;clear h O d;generalize u:cM (λr=>r=0) w=Q at*;clear u;unfold aG at Y x y L R⊢;have Z:Kp (∀W,Below _ _ W->E w W):=λW u=>x.trans (u.mono x.size);obtain⟨u,z,_,_⟩:=Y.two;go_in;go_wp2_with fail;apply R.mono;clear u z;generalize w.alloc _=z at*;rintro e u⟨n,rfl,rfl,X⟩;clear R;go_wp2;go_loopw [20] (λu wr=>∃k:Nat,k<=l.length/\u = I k/\E z wr) (λu _=>l.length-(intOf u).toNat)
 case atStart=>grind
 .obtain⟨k,hk,rfl,z⟩:=hrel;have m:=J z;clear z;by_cases g:k<l.length
  .have q:=(L.below m).more m.size;have B:=(y.below m).more m.size;obtain⟨b,off,rfl,D,c0,c1⟩:=q.rQ k g;have G:=q.each _ (gM g);have f:=(ah _ wr).alloc (ae _) (.cells (fB (l[k]'g)) 83);have p:=J (H s _ _ ((B.below f).more o_) ((G.below f).more o_) (J M).bO ((J M).rows _ (gM g)));have y:=ay m f;have F:=J ((Y.under m).under f);have D:=J (aa.new wr 83 (fB (l[k]'g)));unfold fB at p y F D;unfold aG at p;have u:0<=(k:Int):=o_;have u:k<(l.length:Int):=o_;clear q B G f;generalize V:(l[k]'g)=r at*;clear V;go_upto_region 9 with fail;clear c0 c1;generalize wr.alloc _=u at*;obtain⟨z,u,_,_⟩:=F.two;obtain⟨G,L,_,_⟩:=D.two;go_wp2_with fail;apply p.mono;rintro e D⟨v,keys,rfl,_,_,C⟩;have T:=ay y C;clear C z u G L p;go_wp2;exact⟨⟨k+1,o_,o_,T⟩,o_⟩
  . go_wp2;exact HR _ _ rfl (Z _ m)
def tY{w:World}{B sz n c A e xs}(h:w.ownsRow B e sz (U A n c) n xs):n<=c/\c<=9223372036854775807:=by
 obtain⟨h0,h1⟩|⟨g,cap,cur,d,q,m,f,b,_⟩:=h.2
 .grind
 .injection d with _ _ p;unfold maxLen at b;omega
def uS(s:aN)(rows:List Rw)(w:World)(e:Ending)(w':World):Prop:=∃(A:OA)(c:Nat)(l:List Fa),e = .returned (.tuple #[U A l.length c,I 0])/\bM w' w'.heap.size A l/\kn s rows rows.length l/\(l.length<=c/\c<=9223372036854775807)/\E w w'
def Gt s A rows c w(h:cQ w w.heap.size s)(hr:fT w w.heap.size A rows)(ho:iC s rows):Calls prog 57 #[.agg (aG s),U A rows.length c] w (uS s rows w):=by
 have c7:Kp (∀y z l w',bM _ _ y l->kn s _ _ l->(l.length<=z/\z<=9223372036854775807)->E w _->uS s rows w _ w'):=λy z l w' h1 h2 h3 hb=>⟨y,z,l,rfl,h1,h2,h3,hb⟩;have d:=(ah _ w).alloc (ae _) (.cells (aG s) 25);have a4:=J d;have HB:=J (aa.new w 25 (aG s));have H0:=J ((h.below d).more d.size);have d0:=J ((hr.below d).more d.size);have hn:=ho.n;have c8:=J DZ;have e6:=J G8;have D:=J (Gs s A _ c _ ((h.below d).more o_) ((hr.below d).more o_) ho);obtain⟨i0,d5,e5,e7,d7⟩:=info_parts mA;clear h hr d;generalize hQ:uS s _ w=Q at*;clear hQ;unfold aG at HB a4 H0 d0 D⊢;obtain⟨z0,z1,_,_⟩:=HB.two;go_in;go_wp2_with fail;apply D.mono;clear z0 z1;generalize w.alloc _=W0 at*;rintro e w1⟨n,rfl,rfl,d3⟩;clear D;go_wp2;go_loopw [7,22] (λv7 X wr=>∃(k:Nat)(l:List Fa)(y:OA)(z:Nat),k<=rows.length/\X = I k/\v7 = U y k z/\kn s rows k l/\wr.ownsRow W0.heap.size 89 11 (U y k z) k (l.flatMap aV)/\(∀f∈l,bP wr (U y k z) f)/\E W0 wr) (λ_ X _=>rows.length-(intOf X).toNat)
 case atStart=>exact⟨0,[],_,0,o_,rfl,rfl,⟨rfl,λi _ _ _ h=>r_⟩,cK _ _ _ _,(λf C=>r_),(J d3)⟩
 .obtain⟨k,l,y,z,hk,rfl,rfl,a0,x,a8,c3⟩:=hrel;have q:=J c3;clear c3;by_cases p:k<rows.length
  .have W:=(d0.below q).more q.size;have b3:=(H0.below q).more q.size;obtain⟨b,off,rfl,hb,c0,c1⟩:=W.rQ k p;have a2:=W.each _ (gM p);have m:=(ah _ wr).alloc (ae _) (.cells (fB (rows[k]'p)) 83);have N:=J (c8 s _ _ ((b3.below m).more o_) ((a2.below m).more o_) (J ho).bO ((J ho).rows _ (gM p)));have b5:=J ((a2.below m).more m.size);have M:=J m;have b4:=J ((HB.under q).under m);have Y:=J (aa.new wr 83 (fB (rows[k]'p)));have e8:=J (gE p);unfold fB at N M b4 Y b5;unfold aG at N;have f9:0<=(k:Int):=o_;have g0:k<(rows.length:Int):=o_;clear W b3 a2 m;generalize(rows[k]'p)=r at*;go_upto_region 8 with fail;clear c0 c1;generalize wr.alloc _=W2 at*;obtain⟨b0,b1,_,_⟩:=b4.two;obtain⟨q0,q1,_,_⟩:=Y.two;go_wp2_with fail;apply N.mono;rintro e w2⟨v,keys,rfl,H,L,G⟩;obtain⟨Ak,ck,rfl⟩:=cI L;have c9:=bu Y G;have c6:r.cj.length<=3:=by rw[H.nv];exact(J ho).bO.m2
   have R:=J (e6 _ _ r.cv _ c6 ((b5.cj.below G).more G.size));clear b0 b1 q0 q1 N c6;obtain⟨q0,q1,_,_⟩:=c9.two;go_wp2_with fail;apply R.mono;rintro e w3⟨rfl,Z⟩;have e3:=J (M.trans (((J G).trans (Z.mono (J G).size)).mono M.size));have O:=J (bS (J L) Z);clear Z q0 q1 R;have d6:=J ((J a0).next (f:=⟨Ak,_,ck,dM _⟩) e8 (J H) rfl);have V:=(ah _ w3).alloc (ae _) (.cells (aA (dM r.cj)) 78);have d9:=J (aa.new w3 78 (aA (dM r.cj)));have a3:=ay e3 V;have F:=J (bS (J x) a3);have a9:=J (λf C=>((J a8) f C).below a3);have T:=J (q.trans (a3.mono q.size));have b6:Kp (bP _ _ ⟨_,_,_,dM r.cj⟩):=bP.new (bS O V) (λj hj=>bh ((J x).lt j hj).2 M.size);have e0:k+1<1048576*64:=o_;have b7:=J T.size;clear V;generalize dM _=ag at*;go_upto_region 10 with fail;generalize w3.alloc _=W4 at*;generalize w3.heap.size=g3 at*;have aD:=(aa.cr d9).1;go_wp2_with(at_builtin;refine je rfl _ _ _ rfl _ 89 _ _ _ _ underlying34 d5 e5 e7 d7 rfl d_ _ (bC ⟨_,_,_,_⟩) rfl (kV _) (U y k z) k _ rfl F rfl e0 d_ b7 ?_;intro v5 w5 u g;obtain⟨A5,c5,h5⟩:=cI u;subst h5;have a1:=J u;have d1:=J (g.ew T F o_ b7);have b9:=kp (λf C=>by(obtain C|C:=mem_append.1 C;exact(a9 f C).app g;rw[mem_singleton.1 C];exact b6.app g));clear u g);refine⟨⟨_,_,_,_,o_,o_,rfl,d6,?_,b9,d1⟩,o_⟩;rw[flatMap_append];exact a1
  .obtain rfl:k=rows.length:=o_;have c4:=J (J a0).1;have a6:Kp (bM _ _ y l):=⟨dF (J x),λf C=>((J a8) f C).1⟩;go_wp2;have:=c7 y z l _ a6 (J a0) (by rw[c4];exact tY (J x)) (a4.trans (q.mono a4.size));rw[c4]at this;exact this
end Tc
end Go.Proofs.YtibjlpkpljnicaaGreatDoor
