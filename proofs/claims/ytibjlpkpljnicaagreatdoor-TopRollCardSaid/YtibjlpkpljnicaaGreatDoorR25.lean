/- Parts. -/
import Derived.Test.YtibjlpkpljnicaaGreatDoorR23
set_option maxRecDepth 100000
set_option maxHeartbeats 8000000
set_option linter.all false
namespace Go.Proofs.YtibjlpkpljnicaaGreatDoor
namespace Tc
open List Go.RowKit Base Go.Proofs.Tryz
def vq(xs:List Fa)(m most:Nat)(w:World)(e:Ending)(w':World):Prop:=∃(ga:Nat)(A:OA)(c:Nat)(ys:List Fa),e = .returned (.tuple #[Y ga 0,I 0])/\aa w' ga 217 (eV A ys.length c m none 0 0 most)/\cV w' w.heap.size (U A ys.length c) ys/\ys.map Fa.keys=xs.map Fa.keys/\E w w'/\w.heap.size<=ga/\∀k,cz A ys k->k≠ga
def Ls A c m most xs w(h:cG w w.heap.size A xs)(ho:vU xs m)(e0:most<=131072):Calls prog 63 #[.agg #[U A xs.length c,N m],N most] w (vq xs m most w):=by
 obtain⟨i0,e4,e5,f1,g3⟩:=info_parts rk;have HQ:Kp (∀ga A c ys w',aa _ _ _ (eV A _ c m _ 0 0 _)->cV _ _ _ ys->ys.map _=xs.map _->E w _->w.heap.size<=ga->(∀k,cz A _ k->k≠ga)->vq _ m most w _ w'):=λga A c ys w' h1 h2 h3 h4 h5 h6=>⟨_,A,c,_,rfl,h1,h2,h3,h4,h5,h6⟩;have Hh:=J h;have c6:=ho.n2;have f2:Kp (∀x∈xs,x.keys.length<=1000000):=(λx hx=>by have:=(ho.each x hx).n2;omega);have a1:=(ah _ w).alloc (ae _) (.cells #[U A xs.length c,N m] 43);have HB:=J (aa.new w 43 #[U A xs.length c,N m]);have HM:=J (xN A c m _ _ ((h.below a1).more o_) ho);have c9:=J a1;clear h ho a1;generalize hQ:vq _ m _ w=Q at*;clear hQ;obtain⟨z0,z1,_,_⟩:=HB.two;obtain⟨n,hn⟩:=e_ xs.length
 have Hn:=J hn;rw[hn]at z0 z1 c6 HB c9 HM⊢;clear hn;have q1:¬(most:Int)<0:=o_
 have q2:¬ 131072<(most:Int):=o_
 have e9:=decide_eq_false q1;have f4:=decide_eq_false q2;generalize f6:w.alloc (.cells #[U A n c,N m] _)=W0 at*;go_in;go_wp2_with fail;apply HM.mono;rintro e w1⟨rfl,a2⟩;clear z0 z1 f6;obtain⟨z0,z1,_,_⟩:=(HB.under a2).two;have a5:=ay c9 a2;have b3:=J a2;clear a2;have e3:=J (aa.new w1 43 #[Z,N m]);have f8:=J (a5.alloc a5.size (.cells #[Z,N m] 43));have a0:Kp _:=a5.size;have b6:=J ((HB.under (b3)).alloc (.cells #[Z,N m] 43));generalize e8:w1.alloc _=W2 at*;obtain⟨y0,y1,_,_⟩:=b6.two;go_wp2;clear z0 z1 y0 y1 e8 q1 q2 e9 f4 b3 b6;generalize w1.heap.size=y at*
 go_loopw [26] (λa8 wr=>∃(k:Nat)(ys:List Fa)(L:OA)(H:Nat),k<=n/\a8 = I k/\ys.length=k/\ys.map Fa.keys=(xs.take k).map Fa.keys/\aa wr y 43 #[U L k H,N m]/\cV wr (y+1) (U L k H) ys/\E w wr) (λa8 _=>n-(intOf a8).toNat)
 case atStart=>exact⟨0,_,_,0,o_,rfl,rfl,rfl,e3,cV.nil _ _,f8⟩
 .obtain⟨k,ys,L,H,hk,rfl,c8,d0,b2,a3,b8⟩:=hrel;have V:=J c8;have c3:=J d0;have X:=J b2;have D:=J a3;have u:=J b8;clear c8 d0 b2 a3 b8;by_cases f7:k<n
  .have q:k<xs.length:=by rw[Hn];omega
   have a6:=(Hh.below u).more u.size;obtain⟨b,off,hA,hb,c0⟩:=Row.at_ a6.row (by rw[lM];exact q);rw[getElem_map]at c0;unfold fL at c0;have f5:=J (λW(hW:E _ W)=>qW _ (xs[k]'q).c _ W (f2 _ (gM q)) (((a6.each _ (gM q)).below hW).more hW.size));have f3:Kp (∀f:Fa,f.keys=(xs[k]'q).keys->(ys++[f]).map _=(xs.take _).map _):=(λf hf=>by rw[take_succ_eq_append_getElem,map_append,map_append,c3,map_cons,map_nil,map_cons,map_nil,hf]);generalize(xs[k]'q).A=xA at*;generalize(xs[k]'q).keys=xk at*;generalize(xs[k]'q).c=xc at*;have k0:0<=(k:Int):=o_
   have j1:k<(n:Int):=o_
   rw[hA];clear a6 hA;go_upto_region 7 with fail
   clear c0;obtain⟨x0,x1,f0,_⟩:=X.two;have T:=X.lt;have d1:=J (f5 _ bR.drew);apply wp_region_noPanic;refine br (t:=7) (S:=(λw'=>C w' y 0 _/\w'.frozen? (M y 0)=false)) k_ ⟨x0,f0⟩ (λd=> ?_);apply eR 0 1 2 d;refine oT 3 λK hK=>?_
   go_simp
   apply d1.mono;rintro e w4⟨v4,rfl,z,b4⟩;obtain⟨A4,c4,rfl⟩:=bY z;have b0:=J z;have G:Kp (E wr _):=bR.drew.trans b4;clear z b4;refine oK hK ?_ λg=>?_
   .exact⟨al G d.1,by rw[iJ G _ _ T];omega⟩
   replace d:=g;clear hK K g;have r:=bh T G.size;have O:=J (D.below G);have HN:=J (rj (n:=0) (B0:=y+1) b0 (λj hj=>(D.1.lt j hj).2) T);have b9:=J (X.under G);have b7:=J (u.trans (G.mono u.size));have s:=J (by have:=O.1;rw[V]at this;omega);have g5:k<1048576*64:=o_
   have a4:Kp ((Value.slice L k H).ownBlock≠some y):=(λhh=>by have:=(s.lt y hh).1;omega);refine oT 4 λK hK=>?_
   go_simp
   refine oK hK ?_ λg=>?_
   .exact⟨al (bR.alloc o_ _) d.1,by rw[iJ (bR.alloc o_ _) _ _ r];exact d.2⟩
   replace d:=g;clear hK K g;refine oT 5 λK hK=>?_
   apply jq rfl _ _ _ rfl _ 84 _ _ _ underlying41 e4 e5 f1 g3 rfl _ (U _ _ _) rfl (U L k H) k _ rfl s rfl g5 d_ r;intro v5 w5 B R;obtain⟨A5,c5,h5⟩:=bY B;subst h5;have b1:=J B;have F:=J R;clear B R
   go_simp
   refine oK hK ?_ λg=>?_
   .have e1:=(F.bI r a4)
    have e2:=(Below.heap_alloc _ (.cells #[U A4 xk.length c4] 84) _ r)
    exact⟨(bF (e1.trans e2.symm)).trans d.1,by have h:=d.2;unfold World.frozen? at h⊢;grind⟩
   replace d:=g;clear hK K g;apply tk 6 d;refine fC (o:= ?op7) k_ ?ap7 k_ (λK hK=> ?bp7)
   case ap7=>rfl
   obtain⟨e6,k5⟩:=d
   go_simp
   apply hK.out _ _;clear hK K;apply NoPanic.normal
   have HF:=J (cV.app O HN.1 HN.2 b1 F V);go_wp2;refine⟨⟨_,ys++[⟨A4,_,c4,az⟩],A5,c5,o_,o_,by rw[aE,V];rfl,f3 _ rfl,?_,?_,?_⟩,o_⟩
   .exact aa.set ((F.bI r a4).trans b9) 0 _
   .exact HF.aJ s_ _
   .exact(F.below b7 s (aF a0 o_) (aF a0 o_)).setCell (p:=(M y 0)) a0 _
  .obtain rfl:k=n:=o_
   obtain⟨x0,x1,_,_⟩:=X.two;have f9:=(ah _ wr).alloc (ae _) (.cells (eV L k H m none 0 0 most) 217);have HF:=J (HQ wr.heap.size L H ys (wr.alloc (.cells (eV L k H m none 0 0 most) 217)));rw[V]at HF;have a7:=J (by have:=c3.o;rw[take_of_length_le (by rw[Hn];omega)]at this;omega);have b5:=J (HF (aa.new _ _ _) ((D.below f9).base (aF a0 o_)) a7 (u.alloc u.size _) u.size (λj hj=>Nat.ne_of_lt (cG.bU D.at_ hj)));go_wp2;exact b5
def Row.jA{g B:Nat}{A:OA}{vs:LV}(hne:∀k,cE A vs k->k≠g)(us:LV)(w:World)(o:Nat)(h:Row w B A vs):Row (aH w g o us) B A vs:=
 fO h (λk hk=>ee (hne k hk) us w o)
structure vm(n:Nd):Prop where
 n4:n.ls.length<=4
 rB:∀l∈n.ls,l.cs.length<=1000000
def sB(ps:List aQ)(w:World)(e:Ending)(w':World):Prop:=∃(A:OA)(c:Nat)(ys:List Nd),e = .returned (U A ys.length c)/\ep w' w.heap.size (U A ys.length c) ys/\ys.map aK=ps/\E w w'
def Gh(ga:Nat)(As An:OA)(nx cs m cn most:Nat)(b:List Nd)(w:World)(B:aa w ga 217 (eV As nx cs m An b.length cn most))(h:gX w w.heap.size An b)(hx:1<=nx)(f0:b.length<=1000000)(X:∀n∈b,vm n) :
 Calls prog 69 #[Y ga 0] w (sB (b.map aK) w):=by
 obtain⟨i0,b9,c7,b7,c3⟩:=info_parts BK;have HQ:Kp (∀A c ys w',ep _ _ (U A _ c) ys->ys.map _=b.map aK->E w _->sB _ w _ w'):=λA c ys w' h1 h2 u=>⟨A,c,_,rfl,h1,h2,u⟩;generalize u:sB _ w=Q at*;clear u;have V:=J h;have c9:=J X;obtain⟨n,u⟩:=e_ b.length;have Hn:=J u;rw[u]at B f0;clear u h X;have u:=J (qt _ _ _ _ _ m n _ _ w B hx);obtain⟨⟨_,_,D,_⟩,_⟩:=aa.four B;go_in;go_wp2_with fail;apply u.mono;rintro e G⟨rfl,rfl⟩;go_wp2;clear D u B;go_loopw [3,14] (λu T wr=>∃(k:Nat)(ys:List Nd)(W:OA)(O:Nat),k<=n/\T = N k/\u = U W k O/\ys.length=k/\ys.map aK=(b.take k).map aK/\ep wr w.heap.size (U W k O) ys/\E w wr) (λ_ T _=>n-(intOf T).toNat)
 case atStart=>exact⟨0,_,_,0,o_,rfl,rfl,rfl,rfl,ep.nil _ _,bR⟩
 .obtain⟨k,ys,W,O,hk,rfl,rfl,u,Z,G,L⟩:=hrel;obtain⟨D,b3,y,r⟩:=j4_ u Z G L;clear u Z G L;by_cases u:k<n
  .have s:k<b.length:=by rw[Hn];omega
   have M:=(V.below r).more r.size;obtain⟨u,u,hA,u,d0,d1,d2,d3,d4,d5,d6,d7,d8,d9,a1,a8,a3,b1⟩:=pV M.row k s;have R:=c9 _ (gM s);have H:=M.each _ (gM s);have b8:Kp (∀f:Nd,aK f=aK (b[k]'s)->(ys++[f]).map _=(b.take _).map _):=(λf u=>by rw[take_succ_eq_append_getElem,map_append,map_append,b3,map_cons,map_nil,map_cons,map_nil,u]);generalize(b[k]'s)=nd at*;have G:=(ah _ wr).alloc (ae _) (.cells zN 157);have u:=J (aa.new wr 157 zN);have d:=J (fq (ae _) (cO nd) _ 0 G);have L:Kp (aa _ _ _ (aZ _)):=dS u (cO nd) rfl;have V:=J (xU _ _ ((H.below d).more d.size) R.n4 R.rB);obtain⟨rD,fD⟩:=aa.bK u;have f9:0<=(k:Int):=o_;have h5:k<(n:Int):=o_;generalize C:aK _=pn at*;clear M R H G u C;obtain⟨aj,u,ls,u,⟨key,child,⟨ac,s0,n0,x0,s1,n1,x1,s2,n2,x2⟩⟩⟩:=nd;dsimp only[aZ,cO]at V L d d0 d1 d2 d3 d4 d5 d6 d7 d8 d9 a1 a8 a3 b1;generalize e0:wr.alloc _=u at*;generalize a9:aH u _ 0 _=u at*;simp only[aH,Nat.zero_add,Nat.reduceAdd]at a9;have zD:=(aa.bK L).1;rw[hA];go_wp2_with fail;apply V.mono;rintro e w5⟨G,rfl,C,F,z,a6,_⟩;have e9:=J C;have I:=ay d a6;obtain⟨a5,u,c4,c8⟩:=j4_ (r.trans (I.mono r.size)) (y.below I) (ko.new F z (λj hj=>bh (y.1.lt j hj).2 d.size)) (z.less (aF r.size d.size));have q:=J (by have:=u.1;rw[D]at this;omega);have b0:=J a5.size;have e8:k+1<1048576*64:=o_;clear C F z a6 V L d e0 a9 d0 d1 d2 d3 d4 d5 d6 d7 d8 d9 a1 a8 a3 b1 rD fD zD hA;go_wp2_with(at_builtin;apply je rfl _ _ _ rfl _ 157 _ _ _ _ underlying151 b9 c7 b7 c3 rfl d_ _ _ rfl (CH G) (U W k O) k _ rfl q rfl e8 d_ b0;intro L L g p;obtain⟨A6,c6,L⟩:=cI g;subst L;have V:=J g;have b2:=J p;have e6:=J (p.ew a5 q o_ b0);clear g p);have L:=J (ep.app u c4 c8 V b2 D);exact⟨⟨_,_,_,_,o_,o_,rfl,by rw[aE,D];rfl,b8 _ e9,L,e6⟩,o_⟩
  .obtain rfl:k=n:=o_;have L:=J (HQ W O ys);rw[D]at L;have u:=J (L _ y (by have:=b3.o;rw[take_of_length_le (by rw[Hn];omega)]at this;omega) r);go_wp2;exact u
structure kO(s:aN)(keys:LN):Prop where
 len:keys.length=s.af.length
 each:∀(d:Nat)(hd:d<s.af.length)(hk:d<keys.length)(h0:0<(s.af[d]'hd).ai.length),keys[d]<((s.af[d]'hd).ai[0]'h0).ar.length
section
variable(ga:Nat)(As An:OA)(nx cs m nn cn most:Nat)(w:World)
def KE(h:aa w ga 217 (eV As nx cs m An nn cn most))(hn:1<=nx) :
 Calls prog 114 #[Y ga 0] w λe w'=>e = .returned (N nn)/\w'=w:=by
 have HT:=J (qt _ _ _ _ _ m _ _ _ w h hn);obtain⟨⟨a0,a1,a2,a3⟩,_⟩:=aa.four h;go_in;go_wp2_with fail;apply HT.mono;rintro e w1⟨rfl,rfl⟩;go_wp2;go_ret;simp
def EU(h:aa w ga 217 (eV As nx cs m An nn cn most))(hn:1<=nx)(hnn:nn<=1000000) :
 Calls prog 46 #[Y ga 0] w λe w'=>e = .returned (I ((nn:Int)-1))/\w'=w:=by
 have HT:=J (KE _ _ _ _ _ m _ _ _ w h hn);have hw:IntKind.i64.wrap _=nn-1:=IntWalk.i64_in _ o_;go_in;go_wp2_with fail;apply HT.mono;rintro e w1⟨rfl,rfl⟩;go_wp2;go_ret;simp
end
def vV(xs:List Fa)(m:Nat)(w:World)(e:Ending)(w':World):Prop:=∃(A:OA)(c:Nat)(ys:List Fa),e = .returned (.agg #[U A ys.length c,N m])/\cV w' w.heap.size (U A ys.length c) ys/\ys.map Fa.keys=xs.map Fa.keys/\E w w'
def Gk ga A An c m nn cn most xs w(T:aa w ga 217 (eV A xs.length c m An nn cn most))(h:cG w w.heap.size A xs)(b9:1<=xs.length)(d2:xs.length<=16)(c8:∀x∈xs,x.keys.length<=1000000) :
 Calls prog 66 #[Y ga 0] w (vV xs m w):=by
 obtain⟨i0,f6,f7,e8,g6⟩:=info_parts rk;have HQ:Kp (∀A c ys w',cV w' w.heap.size (U A ys.length c) ys->ys.map Fa.keys=xs.map Fa.keys->E w w'->vV xs m w (.returned (.agg #[U A ys.length c,N m])) w'):=λA c ys w' h2 y u=>⟨A,c,ys,rfl,h2,y,u⟩;have Hh:=J h;have g0:=J c8;have u:=(ah w.heap.size w).alloc (ae _) (.cells #[Z,I 0] 43);obtain⟨z,O,G⟩:=j3_ (aa.new w 43 #[Z,I 0]) (T.under u) u;clear h u T c8;generalize u:vV xs m w=Q at*;clear u;obtain⟨n,u⟩:=e_ xs.length;have Hn:=J u;rw[u]at O d2 b9;clear u;generalize e9:w.alloc _=u at*;have L:=J (qt ga A An n c m nn cn most u O b9);have y:=(ah u.heap.size u).alloc (ae _) (.cells #[Z,N m] 43);have e3:=J (aa.new u 43 #[Z,N m]);have D:=bu O y;have V:=bu z y;have f2:=ay G y;have G:Kp (w.heap.size+1<=u.heap.size):=z.lt;generalize e4:u.alloc (.cells #[Z,N m] 43)=W2 at*;obtain⟨⟨a0,a1,_,_⟩,_⟩:=aa.four O;obtain⟨⟨y0,y1,_,_⟩,_⟩:=aa.four D;clear y;go_in;go_wp2_with fail;apply L.mono;rintro e y⟨rfl,rfl⟩;go_wp2_with fail;clear a0 a1 y0 y1 e4 e9 O D z L;generalize u.heap.size=u at*;go_loopw [22] (λy wr=>∃(k:Nat)(ys:List Fa)(B:OA)(z:Nat),k<=n/\y = I k/\ys.length=k/\ys.map Fa.keys=(xs.take k).map Fa.keys/\aa wr w.heap.size 43 #[Z,I 0]/\aa wr u 43 #[U B k z,N m]/\cV wr (u+1) (U B k z) ys/\E w wr) (λy _=>n-(intOf y).toNat)
 case atStart=>exact⟨0,_,_,0,av _,rfl,rfl,rfl,V,e3,cV.nil _ _,f2⟩
 .obtain⟨k,ys,B,z,hk,rfl,L,c3,y,T,D,O⟩:=hrel;obtain⟨a3,b8,a4,a2,R,V⟩:=j6_ L c3 y T D O;clear L c3 y T D O;by_cases y:k<n
  .have q:k<xs.length:=by rw[Hn.o];exact y
   have y:=(Hh.below V).more V.size;obtain⟨b,off,D,L,c0⟩:=Row.at_ y.row (by rw[lM];exact q);rw[getElem_map]at c0;unfold fL at c0;have O:=J (λW(L:E wr W)=>qW (xs[k]'q).A (xs[k]'q).c (xs[k]'q).keys W (g0 _ (gM q)) (((y.each _ (gM q)).below L).more L.size));have d9:Kp (∀f:Fa,f.keys=(xs[k]'q).keys->(ys++[f]).map Fa.keys=(xs.take (k+1)).map Fa.keys):=(λf L=>by rw[take_succ_eq_append_getElem q,map_append,map_append,b8.o,map_cons,map_nil,map_cons,map_nil,L]);generalize(xs[k]'q).A=L at*;generalize(xs[k]'q).keys=xk at*;generalize(xs[k]'q).c=L at*;have L:(0:Int)<=(k:Int):=o_;have L:(k:Int)<(n:Int):=o_;rw[D];clear y D;go_upto_region 7 with fail;clear c0;obtain⟨x0,x1,f0,_⟩:=a2.two;have X:u<wr.heap.size:=a2.lt;have y:=J (O wr.drew (ah _ _).drew);apply wp_region_noPanic;refine br (t:=7) (S:=(λw'=>C w' u 0 (U B k z)/\w'.frozen? (M u 0)=false)) k_ ⟨x0,f0⟩ (λd=> ?_);apply eR 0 1 2 d;refine oT 3 λK hK=>?_;go_simp;apply y.mono;rintro e O⟨y,rfl,D,y⟩;obtain⟨A4,c4,rfl⟩:=bY D;have L:=J D;have s:Kp (E wr O):=(ah _ _).drew.trans y;clear D y;refine oK hK ?_ λd=>?_
   .exact⟨al s d.1,by rw[iJ s _ _ X];omega⟩
   have r:u<O.heap.size:=bh X s.size;obtain⟨H,HN,b7,d1⟩:=j4_ (R.below s) (rj (n:=0) (w:=O) (v:= U B k z) (B0:=u+1) L (λj y=>(R.1.lt j y).2) X) (a2.under s) (V.trans (s.mono V.size));have g:=J (by have:=H.1;rw[a3]at this;omega);have y:k<1048576*64:=o_;have a6:Kp ((Value.slice B k z).ownBlock≠some u):=(λE=>by have:=(g.lt u E).1;omega);refine oT 4 λK hK=>?_;go_simp;refine oK hK ?_ λd=>?_
   .exact⟨al (bR.alloc o_ _) d.1,by rw[iJ (bR.alloc o_ _) _ _ r];exact d.2⟩
   refine oT 5 λK hK=>?_;apply jq rfl _ _ _ rfl _ 84 _ _ _ underlying41 f6 f7 e8 g6 rfl O (U _ _ _) rfl (U B k z) k _ rfl g rfl y d_ r;intro y w5 F L;obtain⟨A5,c5,y⟩:=bY F;subst y;have b5:=J F;have y:=J L;clear F L;go_simp;refine oK hK ?_ λd=>?_
   .have D:=(y.bI r a6);have L:=(Below.heap_alloc O (.cells #[U A4 xk.length c4] 84) _ r);exact⟨(bF (D.trans L.symm)).trans d.1,by have h:=d.2;unfold World.frozen? at h⊢;grind⟩
   apply tk 6 d;refine fC (o:= ?op7) k_ ?ap7 k_ (λK hK=> ?bp7)
   case ap7=>rfl
   obtain⟨D,L⟩:=d;go_simp;apply hK.out _ _;clear hK K;apply NoPanic.normal
   have D:=J (cV.app H HN.1 HN.2 b5 y a3);go_wp2;refine⟨⟨_,ys++[⟨A4,_,c4,az⟩],A5,c5,o_,o_,by rw[aE,a3];rfl,d9 _ rfl,?_,?_,?_,?_⟩,o_⟩
   .exact(Below.heap_setCell _ _ _ _ (by have:=G.o;grind)).trans ((y.bI (bh a4.lt s.size) (λE=>by have h1:=(g.lt _ E).1;have:=G.o;omega)).trans (a4.under s))
   .exact aa.set ((y.bI r a6).trans b7) 0 _
   .exact D.aJ s_ _
   .exact(y.below d1 g (by have:=G.o;omega) (by have:=G.o;omega)).setCell (by have:=G.o;grind) _
  .obtain rfl:k=n:=o_;obtain⟨x0,x1,_,_⟩:=a2.two;obtain⟨y,E,f0,L⟩:=a4.two;have D:=J (HQ B z ys);rw[a3]at D;have L:=J (by have:=b8.o;rw[take_of_length_le (by rw[Hn];omega)]at this;omega);have O:=G.o;have G:=J (((R.aJ (p:=(M w.heap.size 0)) o_ (U B k z)).aJ (p:=(M w.heap.size 1)) o_ (N m)).base (show w.heap.size<=u+1 by omega));have O:=J ((V.setCell (p:=(M w.heap.size 0)) s_ (U B k z)).setCell (p:=(M w.heap.size 1)) s_ (N m));go_wp2;have u:aa ((wr.setCell (M _ 0) _).setCell (M _ 1) _) _ _ #[U B k z,N m]:=(a4.set 0 _).set 1 _;clear y E;obtain⟨y,E,_,_⟩:=u.two;refine bodyPost_ret (by simp[results,go_sem,y,E]) rfl (D _ G L O)
section
def yM(A:OA)(n c m:Nat)(w:World):(Instr.field 43 (.agg #[U A n c,N m]) 1).run prog w = .ok (N m) w:=by
 rfl
attribute [local go_sem] yM
end
def BF(A:OA)(c:Nat)(l:LN)(w:World)(B:l.length<=1000000)(p:Row w w.heap.size A (an l))(d:∀x∈l,x≠0) :
 Calls prog 149 #[U A l.length c,I 0] w λe w'=>e = .returned (I (-1))/\w'=w:=by
 have v:=J p;have g:=J d;clear p d;obtain⟨n,f⟩:=e_ l.length;rw[f]at B⊢;have s:=J f;clear f;go_in;go_wp2;go_loop [8] (λi=>∃k:Nat,k<=n/\i = I k) (λi=>n-(intOf i).toNat)
 case atStart=>grind
 .obtain⟨k,hk,rfl⟩:=hrel;by_cases m:k<n
  .have b:k<l.length:=by rw[s];omega
   obtain⟨C,D,u,y,c0⟩:=Row.at_ v (by rw[ia];omega);unfold an at c0;rw[getElem_map]at c0;have hx:=g _ (gM b);generalize(l[k]'b)=x at*;have q:(0 == (x:Int))=false:=o_;have z:0<=(k:Int):=o_;have r:k<(n:Int):=o_;rw[u];clear hx;go_wp2;go_round
   case rel=>exact⟨k+1,o_,o_⟩
   case measure=>simp[intOf];omega
  .obtain rfl:k=n:=o_;go_wp2;go_ret;simp
structure qP(nx:Nat)(P:List aQ):Prop where
 back:∀(i:Nat)(n:aQ),P[i]? = some n->n.aj+1<nx->∀c∈cR n,c.child<i
 top:∀n:aQ,P[P.length-1]? = some n->n.aj=0
 kW:∀j:Nat,j+1<P.length->∃(i:Nat)(n:aQ)(c:Cl),P[i]? = some n/\n.aj+1<nx/\c∈cR n/\c.child=j
 aj:∀n∈P,n.aj<nx
structure fQ(nx k j:Nat)(P:List aQ)(M:LN):Prop where
 len:M.length=P.length
 le:∀x∈M,x<=k*4001+j
 kW:∀(i:Nat)(n:aQ),i<k->P[i]? = some n->n.aj+1<nx->∀c∈cR n,∃x,M[c.child]? = some x/\x≠0
 cur:∀n:aQ,P[k]? = some n->∀(i:Nat)(c:Cl),i<j->(cR n)[i]? = some c->∃x,M[c.child]? = some x/\x≠0
section
variable{nx k j:Nat}{P:List aQ}{M:LN}
def fQ.zero(b:Nat)(P:List aQ):fQ b 0 0 P (replicate P.length 0):=⟨s_,λx hx=>r_,λi n h=>o_,λn _ i c h=>o_⟩
def fQ.step(h:fQ nx k j P M){n:aQ}(u:P[k]? = some n){c:Cl}(s:(cR n)[j]? = some c){x:Nat}(hx:M[c.child]? = some x):fQ nx k (j+1) P (M.set c.child (x+1)):=by
 have p:=(aO hx).1;have b:∀i y,M[i]? = some y->y≠0->∃z,(M.set _ (x+1))[i]? = some z/\z≠0:=λi y f h0=>by
  by_cases e:c.child=i
  .subst e;exact⟨_,by rw[getElem?_set_self p],o_⟩
  .exact⟨y,by rw[getElem?_set_ne e];omega,h0⟩
 refine⟨by rw[length_set];exact h.len,λy f=> ?_,λi m hi g hd d r=> ?_,λm g i d hi hd=> ?_⟩
 .obtain f|rfl:=mem_or_eq_of_mem_set f
  .have:=h.le y f;omega
  .have:=h.le x (mem_of_getElem? hx);omega
 .obtain⟨y,f,h0⟩:=h.kW i m hi g hd d r;grind
 .by_cases q:i<j
  .obtain⟨y,f,h0⟩:=h.cur m g i d q hd;grind
  grind
def fQ.next(h:fQ nx k j P M){n:aQ}(g:P[k]? = some n)(r:(cR n).length=j)(e:j<=4001):fQ nx (k+1) 0 P M:=by
 refine⟨h.len,λx hx=>(by rw[Nat.succ_mul];exact aF (h.le x hx) o_),λi m hi b hd c f=> ?_,λm _ i c hi=>absurd hi o_⟩;by_cases d:i<k
 .exact h.kW i m d b hd c f
 .obtain rfl:i=k:=o_;rw[g]at b;injection b with b;subst b;obtain⟨q,p,rfl⟩:=getElem_of_mem f;exact h.cur n g q _ o_ (gE p)
def fQ.skip(h:fQ nx k 0 P M){n:aQ}(g:P[k]? = some n)(hd:¬n.aj+1<nx):fQ nx (k+1) 0 P M:=by
 refine⟨h.len,λx hx=>(by have h1:=h.le x hx;grind),λi m hi b d c f=> ?_,λm _ i c hi=>absurd hi o_⟩;by_cases e:i<k
 .exact h.kW i m e b d c f
 grind
def fQ.done(g:qP nx P)(h:fQ nx P.length 0 P M):∀x∈M.take (P.length-1),x≠0:=by
 intro x hx;obtain⟨i,hi,rfl⟩:=getElem_of_mem hx;rw[length_take]at hi;obtain⟨q,n,c,h1,h2,d,e⟩:=g.kW i o_;obtain⟨y,b,h0⟩:=h.kW q n (aO h1).1 h1 h2 c d;grind
end
def MJ{w:World}{B:Nat}{e:TypeId}{g n c:Nat}{xs:LV}(h:w.ownsRow B e 1 (U (some ⟨g,0,none⟩) n c) n xs){i:Nat}{v:Value}(b:xs[i]? = some v):w.cell? ⟨g,i,none⟩=some v/\w.frozen? ⟨g,i,none⟩=false:=by
 obtain⟨h2,_⟩|⟨z,cap,cur,d,y,p,s,r,q,ht⟩:=h.2
 .grind
 .injection d with f _ x;injection f with f;injection f with u _ _;subst u;have m:aa w g e _:=p;refine⟨?_,m.free i⟩;rw[m.cell];grind
def Lk(l:LN)(i x:Nat):(an l).set i (N x)=an (l.set i x):=by unfold an;simp
def Rb(ga:Nat)(As An:OA)(y cs m cn most:Nat)(d:List Nd)(w:World)(F:aa w ga 217 (eV As y cs m An d.length cn most))(h:gX w w.heap.size An d)
 (k6:1<=y)(D2:y<=16)(o7:d.length<=1000000)(i4:∀n∈d,vm n)(hl:∀n∈d,∀l∈n.ls,l.cs.length<=1000)(hw:qP y (d.map aK)) :
 Calls prog 67 #[Y ga 0] w (R_ (.bool true) w):=by
 obtain⟨i0,u8,v7,x4,v0⟩:=info_parts iK;have HT:=J (qt _ _ _ y _ m _ _ _ w F k6);have g5:=J (λW(hW:E w W)=>EU _ _ _ y _ m _ _ _ W (F.under hW) k6 o7);have HL:=J (λW aj(hd:aj<y)=>mD As y cs m aj W k6 o_ o_);have HE:=J (λn hn W(hW:E w W)=>x9 n W (((h.each n hn).below hW).more hW.size) (i4 n hn).n4 (hl n hn))
 have v2:Kp (∀n∈d,(cR (aK n)).length<=4001):=(λn hn=>by
  have h1:=count_le (λl y3=>hl n hn l y3) n.ls.length;rw[take_of_length_le o_]at h1;have h2:n.ls.length*1000<=4*1000:=Nat.mul_le_mul_right _ (i4 n hn).n4;have h3:(cR (aK n)).length=(n.ls.map λl=>l.cs.length).sum+1:=by
   unfold cR aK;rw[aE,length_flatten,map_map];rfl
  omega)
 have Hw:=J hw;have Hh:=J h;have c8:=J F;obtain⟨⟨L,H,z,a3⟩,_⟩:=aa.four F;obtain⟨n,hn⟩:=e_ d.length
 have Hn:=J hn;rw[hn]at g5 c8 o7 z;have D:=J (show(d.map aK).length=n by grind);clear hn F h i4 hl hw;go_in;go_wp2_with fail;apply HT.mono;rintro e w1⟨rfl,rfl⟩;by_cases h0:n=0
 .have q0:((n:Int) == 0)=true:=o_
  go_wp2;go_ret;exact⟨rfl,bR⟩
 .have q0:((n:Int) == 0)=false:=o_
  go_wp2_with(at_make;refine wpList_make_full _ rfl _ _ _ rfl _ 3 _ _ 1 underlying84 u8 v7 x4 _ _ _ _ n rfl rfl rfl rfl r_ (by unfold maxLen;omega) (ae _) ?_;intro w2 T h9;have V:=J T;have p4:Kp (E w _):=bR.grown h9 o_ (λk hk=>r_);clear T h9 L H z a3;obtain⟨⟨L,H,z,a3⟩,_⟩:=aa.four (c8.under p4))
  have o1:=J (show w2.ownsRow w.heap.size 3 1 (U (some ⟨w.heap.size,0,none⟩) n n) n (an (replicate n 0)) by
   have h1:=V.o;rw[Nat.mul_one,show(I 0).cells=#[I 0]from rfl,toList_madeCells_one]at h1;have e:an (replicate n 0)=replicate n (I 0):=by unfold an;rw[map_replicate];rfl
   grind)
  have m8:=(o1.out.lt w.heap.size rfl).2;clear m8 V L H z a3 HT
  go_loopw [28] (λk3 wr=>∃(k:Nat)(M:LN),k<=n/\k3 = N k/\wr.ownsRow w.heap.size 3 1 (U (some ⟨w.heap.size,0,none⟩) n n) n (an M)/\fQ y k 0 (d.map aK) M/\E w wr) (λk3 _=>n-(intOf k3).toNat)
  case atStart=>exact⟨0,_,o_,rfl,o1.out,by have:=fQ.zero y (d.map aK);rw[D]at this;omega,p4⟩
  .obtain⟨k,M,hk,rfl,g6,h5,n5⟩:=hrel;have a6:=J g6;have A:=J h5;have s:=J n5;clear g6 h5 n5;obtain⟨⟨L,H,z,a3⟩,_⟩:=aa.four (c8.under s);by_cases w7:k<n
   .have f:k<d.length:=by rw[Hn];omega
    have a4:=(Hh.below s).more s.size;obtain⟨bn,on,hA,v4,d0,d1,d2,d3,d4,d5,d6,d7,d8,d9,p9,q4,n6,q7⟩:=pV a4.row k f;have B:=gM f;have k0:=J (HE _ B);have o2:=Hw.aj _ (mem_map_of_mem B);have l4:(d.map aK)[k]? = some (aK (d[k]'f)):=r_
    have k4:=J l4;have Hc:=J (v2 _ B);have w0:=J (Hw.back k _ l4);have k7:=J (show(d[k]'f).ls.flatMap _++[(d[k]'f).all]=cR (aK _) by rfl);have i9:Kp ((aK _).aj=(d[k]'f).aj):=rfl;have h4:(d[k]'f).aj<y:=o2;clear o2 l4 a4 B;generalize(d[k]'f)=nd at*;have q1:=(ah _ wr).alloc (ae _) (.cells zN 157);have HZ:=J (aa.new wr 157 zN);have b2:=J (fq (ae _) (cO nd) _ 0 q1);have i5:Kp (aa _ _ _ (aZ _)):=dS HZ (cO nd) rfl;obtain⟨⟨r0,r1,r2,r3,r4,r5,r6,r7,r8,r9,p8,q6,v1,w8⟩,⟨f0,f1,f2,f3,f4,f5,f6,f7,f8,f9,m9,n7,y4,x6⟩⟩:=aa.bK HZ;have F3:0<=(k:Int):=o_
    have H0:k<(n:Int):=o_
    generalize aK _=pn at*;clear q1 HZ;obtain⟨aj,nA,ls,nc,⟨key,child,⟨ac,s0,n0,x0,s1,n1,x1,s2,n2,x2⟩⟩⟩:=nd;dsimp only[aZ,cO]at k0 i5 b2 k7 i9 h4 d0 d1 d2 d3 d4 d5 d6 d7 d8 d9 p9 q4 n6 q7;generalize y1:wr.alloc _=W3 at*;generalize n9:aH _ _ 0 _=W4 at*;simp only[aH,Nat.zero_add,Nat.reduceAdd]at n9;rw[hA];go_upto_region 9 with fail
    clear y1 n9 d0 d1 d2 d3 d4 d5 d6 d7 d8 d9 p9 q4 n6 q7 r0 r1 r2 r3 r4 r5 r6 r7 r8 r9 p8 q6 v1 w8 f0 f1 f2 f3 f4 f5 f6 f7 f8 f9 m9 n7 y4 x6 L H z a3;have F1:=s.size;have O:=J (s.trans (b2.mono s.size));have y2:=J (c8.under O);obtain⟨⟨L,H,z,a3⟩,_⟩:=aa.four y2;obtain⟨z0,z1,z2,z3,z4,z5,z6,z7,z8,z9,b3,b4,b0,c5⟩:=(aa.bK i5).1;have b7:=J (HL W4.drew _ h4);by_cases hd:aj+1=y
    .have qd:=decide_eq_true hd;rw[qd]at b7;apply wp_region_noPanic;refine br (t:=99) (S:=(λw'=>C w' _ 0 _/\C w' _ 1 _/\C w' _ 0 (N _))) k_ ⟨L,H,z0⟩ (λb=> ?_);apply tD 0 1 2 3 b;apply tB 4 5 b;refine oT 6 λK hK=>?_
     go_simp
     apply b7.mono;rintro e wc⟨rfl,G⟩;have r:Kp (E W4 _):=bR.drew.trans G;clear G;refine oK hK ?_ λc=>?_
     .exact⟨al r L,al r H,al r z0⟩
     replace b:=c;clear hK K c;refine bQ k_ ?_ _
     try clear b
     apply NoPanic.normal;have g0:=J (O.trans (r.mono O.size));have u:=J (bS (bS a6 b2) r);have m5:=J (fQ.skip A k4 (by rw[i9];omega));clear L H z a3 z0 z1 z2 z3 z4 z5 z6 z7 z8 z9 b3 b4 b0 c5;go_wp2;exact⟨⟨_,M,o_,o_,u,m5,g0⟩,o_⟩
    .have qd:=decide_eq_false hd;rw[qd]at b7;apply wp_region_noPanic;refine br (t:=99) (S:=(λw'=>C w' _ 0 _/\C w' _ 1 _/\C w' _ 0 (N _))) k_ ⟨L,H,z0⟩ (λb=> ?_);apply tD 0 1 2 3 b;apply tB 4 5 b;refine oT 6 λK hK=>?_
     go_simp
     apply b7.mono;rintro e wc⟨rfl,G⟩;have r:Kp (E W4 _):=bR.drew.trans G;clear G;refine oK hK ?_ λc=>?_
     .exact⟨al r L,al r H,al r z0⟩
     replace b:=c;clear hK K c;refine bQ k_ ?_ _
     try clear b
     apply NoPanic.normal;have g0:=J (O.trans (r.mono O.size));have u:=J (bS (bS a6 b2) r);have m6:=J (i5.under r);clear L H z a3 z0 z1 z2 z3 z4 z5 z6 z7 z8 z9 b3 b4 b0 c5;obtain⟨z0,z1,z2,z3,z4,z5,z6,z7,z8,z9,b3,b4,b0,c5⟩:=(aa.bK m6).1;have p6:=J (k0 _ g0);have g8:w.heap.size+1<=wc.heap.size:=by have:=(u.lt w.heap.size rfl).2;omega
     go_wp2_with fail;apply p6.mono;rintro e w6⟨v6,rfl,b8,i7⟩;obtain⟨A6,c6,rfl⟩:=cI b8;rw[k7]at b8;have h8:=J (dZ b8 g8);have o4:=congrArg length k7;rw[o4];have k2:=J (bS u i7);have y6:=ay g0 i7;have n8:=J (w0 (by rw[i9];omega));clear b8 i7 o4 z0 z1 z2 z3 z4 z5 z6 z7 z8 z9 b3 b4 b0 c5 m6 k0 p6 g8;obtain⟨q,hq⟩:=e_ ((cR pn).length)
     have Hq:=J hq;rw[hq]at h8⊢;have u4:q<=4001:=by rw[<-hq];exact Hc
     clear hq;go_wp2
     go_loopw [42] (λm4 wj=>∃(j:Nat)(M':LN),j<=q/\m4 = N j/\wj.ownsRow w.heap.size 3 1 (U (some ⟨w.heap.size,0,none⟩) n n) n (an M')/\fQ y k j (d.map aK) M'/\Over (w.heap.size+1) w6 wj/\E w wj) (λm4 _=>q-(intOf m4).toNat)
     case atStart=>exact⟨0,M,o_,rfl,k2,A,⟨o_,λ_ _ _=>rfl⟩,y6⟩
     .obtain⟨j,M',hj,rfl,R,a7,i2,p0⟩:=hrel;have a5:=J R;have v:=J a7;have h7:=J i2;have l0:=J p0;clear R a7 i2 p0;by_cases u5:j<q
      .have X:j<(cR pn).length:=by rw[Hq];omega
       obtain⟨bc,oc,w5,G,e0,e1,e2,e3,e4,e5,e6,e7,e8,e9,v9,v3⟩:=nV (dF (Di h8 h7)) j X;have y0:=n8 _ (gM X);have u6:Kp _:=gE X;generalize((cR _)[j]'X)=cc at*;obtain⟨ck,g,⟨ca,b5,g4,b6,b1,c7,b9,c9,c4,c3⟩⟩:=cc;dsimp only at e0 e1 e2 e3 e4 e5 e6 e7 e8 e9 v9 v3 y0;have p7:=v.len.trans D;obtain⟨x,hx⟩:∃x,M'[g]? = some x:=⟨_,gE o_⟩
       have v8:x<=1000000*4001+4001:=by
        have h1:=v.le x (mem_of_getElem? hx);omega
       have w4:=J (fQ.step v k4 u6 hx);have l7:(an M')[g]? = some (N x):=by unfold an;rw[getElem?_map,hx];rfl
       have p5:=(aO l7).1;have q8:=(ah _ wr).alloc (ae _) (.cells zC 155);have k5:=J (aa.new wr 155 zC);have i6:=J (fq (ae _) [N ck,N g,I ca,I b5,I g4,I b6,I b1,I c7,I b9,I c9,I c4,I c3] _ 0 q8);have m7:Kp (aa _ _ _ _):=dS k5 [N ck,N g,I ca,I b5,I g4,I b6,I b1,I c7,I b9,I c9,I c4,I c3] rfl;obtain⟨⟨r0,r1,r2,r3,r4,r5,r6,r7,r8,r9,p8,q6⟩,⟨f0,f1,f2,f3,f4,f5,f6,f7,f8,f9,m9,n7⟩⟩:=aa.gu k5;generalize H5:wr.alloc _=W8 at*;generalize x7:aH _ _ 0 _=W9 at*;simp only[aH,Nat.zero_add,Nat.reduceAdd]at x7;have G1:C _ _ 1 (N g):=m7.cell 1;have Z:=J (bS a5 i6);obtain⟨m0,m1⟩:=MJ Z l7;have j0:0<=(j:Int):=o_
       have j1:j<(q:Int):=o_
       have j2:0<=(g:Int):=o_
       have j3:g<(n:Int):=o_
       have F7:IntKind.i64.wrap _=x+1:=IntWalk.i64_in _ o_;have p3:Kp (Over _ _ (W9.setCell _ (I (x+1)))):=(h7.trans (Over.under i6)).trans ⟨s_,λi hi _=>Below.heap_setCell _ ⟨w.heap.size,g,none⟩ _ i o_⟩;have q5:Kp (E w (W9.setCell ⟨w.heap.size,g,none⟩ (I (x+1)))):=(l0.trans (i6.mono l0.size)).setCell o_ _
       have k8:=J (show(W9.setCell _ (I (x+1))).ownsRow _ 3 1 (U _ n n) n _ by
        have:=dG Z p5 (I (x+1:Nat));rw[Lk]at this
        exact this)
       clear hx l7 p5 p7 v8 q8 k5 m7;rw[w5];go_wp2;exact⟨⟨_,_,o_,o_,k8,w4,p3,q5⟩,o_⟩
      .obtain rfl:j=q:=o_
       have v5:=J (fQ.next v k4 Hq u4);go_wp2;exact⟨⟨_,_,o_,o_,a5,v5,l0⟩,o_⟩
   .obtain rfl:k=n:=o_
    obtain⟨mm,i8⟩:∃mm,k=mm+1:=⟨k-1,o_⟩
    have f:mm<d.length:=by rw[Hn];omega
    have a4:=(Hh.below s).more s.size;obtain⟨bn,on,hA,v4,d0,k9⟩:=pV a4.row _ f;have h6:(d[mm]'f).aj=0:=Hw.top _ (by rw[D,i8,Nat.add_sub_cancel,getElem?_map,gE f];rfl);rw[h6]at d0;have g3:C _ _ _ (I 0):=d0;have q2:fQ y (d.map aK).length 0 (d.map aK) M:=by rw[D];exact A
    have k1:=fQ.done Hw q2;rw[D,i8,Nat.add_sub_cancel]at k1;have n3:(M.take mm).length=mm:=by rw[length_take,A.len,D];omega
    have w9:Kp (∀W,E _ W->Calls prog 149 #[U (some ⟨w.heap.size,0,none⟩) mm k,I 0] W λe w'=>e = .returned (I (-1))/\w'=W):=(λW hW=>by
     have h1:=BF _ k _ W o_ (by
      have h2:=(dF (bS a6 hW)).take mm;unfold an at*;rw[List.map_take]
      omega) k1
     grind)
    have q3:Kp (∀W,E _ W->Calls prog 46 #[Y ga 0] W λe w'=>e = .returned (N mm)/\w'=W):=(λW hW=>by
     have h1:=g5 W (s.trans (hW.mono s.size));grind)
    have H2:0<=(mm:Int):=o_
    have H7:mm<(k:Int):=o_
    have E2:mm<=(k:Int):=o_
    clear k9 k1 n3 q2 h6 a4 d0 i8 f;rw[hA]at z;rw[hA];go_upto_region 16 with fail
    apply wp_region_noPanic;refine br (t:=99) (S:=(λw'=>C w' _ 2 _/\C w' _ _ _)) k_ ⟨z,g3⟩ (λb=> ?_);apply tD 0 1 2 3 b;apply tk 4 b;refine oT 5 λK hK=>?_
    go_simp
    apply(q3 _ bR.drew).mono;rintro e wc⟨rfl,rfl⟩;refine oK hK ?_ λc=>?_
    .omega
    replace b:=c;clear hK K c;apply tD 6 7 8 9 b;apply eR 10 11 12 b;refine oT 13 λK hK=>?_
    go_simp
    apply(q3 _ bR.drew).mono;rintro e wc⟨rfl,rfl⟩;refine oK hK ?_ λc=>?_
    .omega
    replace b:=c;clear hK K c;apply tk 14 b;refine oT 15 λK hK=>?_
    go_simp
    apply(w9 _ bR.drew).mono;rintro e wc⟨rfl,rfl⟩;refine oK hK ?_ λc=>?_
    .omega
    replace b:=c;clear hK K c;apply eR 16 17 18 b;refine bQ k_ ?_ _
    try clear b
    apply NoPanic.normal;go_wp2;go_ret;exact⟨rfl,s.drew⟩
end Tc
end Go.Proofs.YtibjlpkpljnicaaGreatDoor
