/- Parts of a proof. -/
import Derived.Test.YtibjlpkpljnicaaGreatDoorL17
import Derived.Test.YtibjlpkpljnicaaGreatDoorL23
set_option maxRecDepth 100000
set_option maxHeartbeats 8000000
set_option linter.all false
namespace Go.Proofs.YtibjlpkpljnicaaGreatDoor
namespace Tc
open List Go.RowKit Base Go.Maps Go.WideMaps Go.Proofs.Tryz
def oX(p:Nat×LN):Prop:=p.1<256/\∀i∈p.2,i<65536
def QV{a b}(d:a<256)(c:b<256)(h:UInt8.ofNat a=UInt8.ofNat b):a=b:=by
 have:=congrArg UInt8.toNat h;simp at this;omega
def MU{a b}(e:a<65536)(f:b<65536)(h1:UInt8.ofNat (a / 256)=UInt8.ofNat (b / 256))(h2:UInt8.ofNat a=UInt8.ofNat b):a=b:=by
 have d:=congrArg UInt8.toNat h1;have c:=congrArg UInt8.toNat h2;simp at d c;omega
def CE:∀{x y:LN},(∀i∈x,i<65536)->(∀i∈y,i<65536)->(x.flatMap λi=>[UInt8.ofNat (i / 256),UInt8.ofNat i])=(y.flatMap λi=>[UInt8.ofNat (i / 256),UInt8.ofNat i])->x=y
 | [],[],_,_,_=>rfl
 | [],b::y,_,_,h=>by grind
 |a::x,[],_,_,h=>by grind
 |a::x,b::y,hx,c,h=>by
  rw[flatMap_cons,flatMap_cons]at h;injection h with h1 h
  injection h with h2 h
  have e:=MU (hx a mem_cons_self) (c b mem_cons_self) h1 h2;have d:=CE (λi hi=>hx i (mem_cons_of_mem _ hi)) (λi hi=>c i (mem_cons_of_mem _ hi)) h;rw[e,d]
def CC{p q:Nat×LN}(c:oX p)(b:oX q)(h:gL p.1 p.2=gL q.1 q.2):p=q:=by
 unfold gL at h;injection h with h1 h2;exact Prod.ext (QV c.1 b.1 h1) (CE c.2 b.2 h2)
abbrev rE(p:Nat×LN):Lit:= .string (gL p.1 p.2)
structure nN(D:DataW Unit)(parts:List (Nat×LN)):Prop where
 map:IsMap D
 at_:∀p,oX p->D.atKey (rE p) (.lit (.int .i64 0)) = .lit (.int .i64 (((fr p.1 p.2 parts).getD 0:Nat):Int))
 has:∀p,oX p->Maps.has D (rE p)=(fr p.1 p.2 parts).isSome
def nN.nil:nN (.map []:DataW Unit) []:=⟨isMap_empty,λp _=>rfl,λp _=>rfl⟩
def Bh{parts}{p:Nat×LN}(h:fr p.1 p.2 parts=none):fr p.1 p.2 (parts++[p])=some parts.length:=by
 unfold fr at*;grind
def Bg{parts}{p q:Nat×LN}(h:q≠p):fr q.1 q.2 (parts++[p])=fr q.1 q.2 parts:=by
 unfold fr;grind
def nN.put{D parts}(h:nN D parts){p:Nat×LN}(f:oX p)(d:fr p.1 p.2 parts=none):nN (D.put (rE p) (.lit (.int .i64 ((parts.length:Nat):Int)))) (parts++[p]):=by
 have hk:WideAt.IsKeyLit (rE p):=trivial;refine⟨h.map.put _ _,λq b=> ?_,λq b=> ?_⟩
 .by_cases e:q=p
  .subst e;rw[atKey_put_same h.map hk,Bh d];rfl
  .rw[atKey_put_other (λc=>e (CC b f r_)),Bg e];exact h.at_ q b
 .by_cases e:q=p
  .subst e;rw[has_put_same h.map hk,Bh d];rfl
  .rw[has_put_other (λc=>e (CC b f r_)),Bg e];exact h.has q b
def mc(w:World)(g:Nat)(parts:List (Nat×LN)):Prop:=∃D:DataW Unit,w.ownsMap prog 9 (plainElem prog 3) g parts.length D/\nN D parts
def mc.lt{w g parts}(h:mc w g parts):g<w.heap.size:=by
 obtain⟨D,h1,_⟩:=h;exact h1.lt
def mc.same{w w' g parts}(h:mc w g parts)(c:w'.heap[g]? = w.heap[g]?):mc w' g parts:=by
 obtain⟨D,⟨d,cl,h1,h2⟩,b⟩:=h;exact⟨D,⟨d,_,c.trans h1,h2⟩,b⟩
structure Bc where
 B:Nat
 gb:Nat
 ga:Nat
 gm:Nat
 Af:OA
 fs:List Fa
 cf:Nat
 Al:OA
 rs:List Rn
 cl:Nat
 As:OA
 xs:List Fa
 cs:Nat
 m:Nat
 most:Nat
def Bc.ps(b:Bc):List (LN×Ag):=aw b.fs
def Bc.aL(b:Bc):List (List LN):=b.rs.map λr=>r.fs.map Fa.keys
def Bc.X(b:Bc):List LN:=b.xs.map Fa.keys
structure Bc.Ok(b:Bc):Prop where
 cfg:lv b.ps b.aL b.X b.m
 fit:∀f∈b.fs,cB f.ag
 most:b.most<=1000000
 bB:b.gb<b.B
 aB:b.ga<b.B
 mB:b.gm<b.B
 ba:b.gb≠b.ga
 bm:b.gb≠b.gm
 am:b.ga≠b.gm
def Bc.own(b:Bc)(k:Nat):Prop:=k=b.gb\/k=b.ga\/k=b.gm
structure Bc.Ro(b:Bc)(w:World):Prop where
 facts:bM w b.B b.Af b.fs
 aL:jr w b.B b.Al b.rs
 shape:cG w b.B b.As b.xs
 ff:∀k,cz b.Af b.fs k->¬b.own k
 fl:∀k,tq b.Al b.rs k->¬b.own k
 fx:∀k,cz b.As b.xs k->¬b.own k
def Bc.Ro.same{b:Bc}{w w'}(h:b.Ro w)(c:∀k,k<b.B->¬b.own k->w'.heap[k]? = w.heap[k]?):b.Ro w':=
 ⟨h.facts.same (λk hk=>c k (h.facts.bU hk) (h.ff k hk)),h.aL.same (λk hk=>c k (h.aL.bU hk) (h.fl k hk)),h.shape.same (λk hk=>c k (h.shape.bU hk) (h.fx k hk)),h.ff,h.fl,h.fx⟩
def cE(A:OA)(b:LV)(k:Nat):Prop:=b≠[]/\∃off,A=some ⟨k,off,none⟩
def mE(n:Nd)(k:Nat):Prop:=cE n.A (n.ls.map dq) k\/∃l∈n.ls,cE l.A (l.cs.flatMap ch) k
structure Bc.Dy(b:Bc)(w:World)(F:Nat->Prop)(An:OA)(cn:Nat)(nds:List Nd)(st:St)(err:Nat):Prop where
 line:b.B<=w.heap.size
 fF:∀k,F k->b.B<=k\/b.own k
 fo:∀k,b.own k->F k
 fY:∀k,F k->k<w.heap.size
 fm:aa w b.gb 143 #[U b.Af b.fs.length b.cf,U b.Al b.rs.length b.cl,Y b.ga 0,.map (some b.gm),N err]
 nT:aa w b.ga 217 (eV b.As b.xs.length b.cs b.m An nds.length cn b.most)
 nodes:ep w b.B (U An nds.length cn) nds
 mw:∀k,(Value.slice An nds.length cn).ownBlock=some k->F k
 lJ:∀n∈nds,∀k,mE n k->F k
 plain:nds.map aK=st.nodes
 most:nds.length<=b.most
 len:st.parts.length=st.nodes.length
 met:mc w b.gm st.parts
def more(F:Nat->Prop)(w w':World)(k:Nat):Prop:=F k\/(w.heap.size<=k/\k<w'.heap.size)
structure Kept(F:Nat->Prop)(w w':World):Prop where
 size:w.heap.size<=w'.heap.size
 block:∀k,F k->k<w.heap.size->w'.heap[k]? = w.heap[k]?
def Kept.trans{F a b c}(h:Kept F a b)(k:Kept F b c):Kept F a c:=⟨aF h.size k.size,λi hi d=>(k.block i hi (bh d h.size)).trans (h.block i hi d)⟩
def Kept.below{F w w'}(b:E w w'):Kept F w w':=⟨b.size,λk _ hk=>b.block k hk⟩
def Kept.set{F} w p u(b:¬F p.block):Kept F w (w.setCell p u):=⟨s_,λk hk _=>Below.heap_setCell w p u k (λe=>b (e▸hk))⟩
def Kept.app{F w w' v c}(h:App w w' v c)(b:∀k,v.ownBlock=some k->¬F k):Kept F w w':=⟨h.grown.size,λk hk d=>h.bI d (λe=>b k e hk)⟩
def fO{w w' B A c}(h:Row w B A c)(d:∀k,cE A c k->w'.heap[k]? = w.heap[k]?):Row w' B A c:=mI h (λk off e b=>d k ⟨b,_,e⟩)
def Row.bU{w B A f}(h:Row w B A f){k}(hk:cE A f k):k<B:=by
 obtain⟨c,off,e⟩:=hk;obtain h0|⟨m,d,b,n,_⟩:=h
 .grind
 grind
def fN{w w':World}{B e sz n v xs}(h:w.ownsRow B e sz v n xs)(c:∀k,v.ownBlock=some k->w'.heap[k]? = w.heap[k]?):w'.ownsRow B e sz v n xs:=by
 obtain⟨h1,h2⟩:=h;refine⟨h1,?_⟩;obtain h2|⟨g,cap,cur,e,d,b,r⟩:=h2
 .grind
 .exact .inr ⟨g,_,_,e,d,(c g (by rw[e];rfl)).trans b,r⟩
def sN{w w' v A b}(h:Ap w v A b)(d:w.heap.size<=w'.heap.size)(c:∀k,cE A b k->w'.heap[k]? = w.heap[k]?):Ap w' v A b:=⟨(fO h.1 c).more d,h.2⟩
def Bc.Dy.keep{b:Bc}{w w':World}{F:Nat->Prop}{g:OA}{p:Nat}{e:List Nd}{st:St}{err:Nat}(h:b.Dy w F g p e st err)(hk:Kept F w w'):b.Dy w' F g p e st err where
 line:=aF h.line hk.size;fF:=h.fF;fo:=h.fo;fY:=λk d=>bh (h.fY k d) hk.size;fm:=(hk.block b.gb (h.fo _ (.inl rfl)) h.fm.lt).trans h.fm;nT:=(hk.block b.ga (h.fo _ (.inr (.inl rfl))) h.nT.lt).trans h.nT;nodes:=⟨fN h.nodes.1 (λk m=>hk.block k (h.mw k m) (h.nodes.1.lt k m).2),λn c=>⟨⟨sN (h.nodes.2 n c).1.1 hk.size (λk d=>hk.block k (h.lJ n c k (.inl d)) (h.fY k (h.lJ n c k (.inl d)))),
  λl f=>sN ((h.nodes.2 n c).1.2 l f) hk.size (λk d=>hk.block k (h.lJ n c k (.inr ⟨l,f,d⟩)) (h.fY k (h.lJ n c k (.inr ⟨l,f,d⟩))))⟩,(h.nodes.2 n c).2⟩⟩
 mw:=h.mw;lJ:=h.lJ;plain:=h.plain;most:=h.most;len:=h.len;met:=h.met.same (hk.block b.gm (h.fo _ (.inr (.inr rfl))) h.met.lt)
def Bc.Dy.wide{b:Bc}{w F d f g c st err}(h:b.Dy w F f g c st err)(e:∀k,F k->d k)(h1:∀k,d k->b.B<=k\/b.own k)(h2:∀k,d k->k<w.heap.size):b.Dy w d f g c st err:=
 ⟨h.line,h1,λk hk=>e k (h.fo k hk),h2,h.fm,h.nT,h.nodes,λk hk=>e k (h.mw k hk),λn m k hk=>e k (h.lJ n m k hk),h.plain,h.most,h.len,h.met⟩
end Tc
namespace Tc
open List Go.RowKit Base Go.Proofs.Tryz
def vq(xs:List Fa)(m most:Nat)(w:World)(e:Ending)(w':World):Prop:=∃(ga:Nat)(A:OA)(c:Nat)(ys:List Fa),e = .returned (.tuple #[Y ga 0,I 0])/\aa w' ga 217 (eV A ys.length c m none 0 0 most)/\cV w' w.heap.size (U A ys.length c) ys/\ys.map Fa.keys=xs.map Fa.keys/\E w w'/\w.heap.size<=ga/\∀k,cz A ys k->k≠ga
def Ls A c m most xs w(h:cG w w.heap.size A xs)(ho:vU xs m)(e0:most<=131072):Calls prog 63 #[.agg #[U A xs.length c,N m],N most] w (vq xs m most w):=by
 obtain⟨i0,e4,e5,f1,g3⟩:=info_parts rk;have HQ:Kp (∀ga A c ys w',aa _ _ _ (eV A _ c m _ 0 0 _)->cV _ _ _ ys->ys.map _=xs.map _->E w _->w.heap.size<=ga->(∀k,cz A _ k->k≠ga)->vq _ m most w _ w'):=λga A c ys w' h1 h2 h3 h4 h5 h6=>⟨_,A,c,_,rfl,h1,h2,h3,h4,h5,h6⟩;have Hh:=J h;have c6:=ho.n2;have f2:Kp (∀x∈xs,x.keys.length<=1000000):=(λx hx=>by have:=(ho.each x hx).n2;omega);have a1:=(ah _ w).alloc (ae _) (.cells #[U A xs.length c,N m] 43);have HB:=J (aa.new w 43 #[U A xs.length c,N m]);have HM:=J (xN A c m _ _ ((h.below a1).more o_) ho);have c9:=J a1;clear h ho a1;generalize hQ:vq _ m _ w=Q at*;clear hQ;obtain⟨z0,z1,_,_⟩:=HB.two;obtain⟨n,hn⟩:=e_ xs.length
 have Hn:=J hn;rw[hn]at z0 z1 c6 HB c9 HM⊢;clear hn;have q1:¬(most:Int)<0:=o_
 have q2:¬ 131072<(most:Int):=o_
 have e9:=decide_eq_false q1;have f4:=decide_eq_false q2;generalize f6:w.alloc (.cells #[U A n c,N m] _)=W0 at*;go_in;go_wp2_with fail;apply HM.mono;rintro e w1⟨rfl,a2⟩;clear z0 z1 f6;obtain⟨z0,z1,_,_⟩:=(HB.under a2).two;have a5:=ay c9 a2;have b3:=J a2;clear a2;have e3:=J (aa.new w1 43 #[Z,N m]);have f8:=J (a5.alloc a5.size (.cells #[Z,N m] 43));have a0:Kp _:=a5.size;have b6:=J ((HB.under (b3)).alloc (.cells #[Z,N m] 43));generalize e8:w1.alloc _=W2 at*;obtain⟨y0,y1,_,_⟩:=b6.two;go_wp2;clear z0 z1 y0 y1 e8 q1 q2 e9 f4 b3 b6;generalize w1.heap.size=y at*
 go_loopw [26] (λa8 wr=>∃(k:Nat)(ys:List Fa)(L:OA)(H:Nat),k<=n/\a8 = I k/\ys.length=k/\ys.map Fa.keys=(xs.take k).map Fa.keys/\aa wr y 43 #[U L k H,N m]/\cV wr (y+1) (U L k H) ys/\E w wr) (λa8 _=>n-(intOf a8).toNat)
 case atStart=>exact⟨0,_,_,0,o_,rfl,rfl,rfl,e3,cV.nil _ _,f8⟩
 .obtain⟨k,ys,L,H,hk,rfl,c8,d0,b2,a3,b8⟩:=hrel;have V:=J c8;have c3:=J d0;have X:=J b2;have D:=J a3;have u:=J b8;clear c8 d0 b2 a3 b8;by_cases f7:k<n
  .have q:k<xs.length:=by rw[Hn];omega
   have a6:=(Hh.below u).more u.size;obtain⟨b,off,hA,hb,c0⟩:=Row.at_ a6.row (by rw[lM];exact q);rw[getElem_map]at c0;unfold fL at c0;have f5:=J (λW(hW:E _ W)=>qW _ (xs[k]'q).c _ W (f2 _ (gM q)) (((a6.each _ (gM q)).below hW).more hW.size));have f3:Kp (∀f:Fa,f.keys=(xs[k]'q).keys->(ys++[f]).map _=(xs.take _).map _):=(λf hf=>by rw[take_succ_eq_append_getElem,map_append,map_append,c3,map_cons,map_nil,map_cons,map_nil,hf]);generalize(xs[k]'q).A=xA at*;generalize(xs[k]'q).keys=xk at*;generalize(xs[k]'q).c=xc at*;have k0:0<=(k:Int):=o_
   have j1:k<(n:Int):=o_
   rw[hA];clear a6 hA;go_upto_region 7 with fail
   clear c0;obtain⟨x0,x1,f0,_⟩:=X.two;have T:=X.lt;have d1:=J (f5 _ bR.drew);apply wp_region_noPanic;refine br (t:=7) (S:=(λw'=>C w' y 0 _/\w'.frozen? (M y 0)=false)) k_ ⟨x0,f0⟩ (λd=> ?_);apply eR 0 1 2 d;refine oT 3 λK hK=>?_
   go_simp
   apply d1.mono;rintro e w4⟨v4,rfl,z,b4⟩;obtain⟨A4,c4,rfl⟩:=bY z;have b0:=J z;have G:Kp (E wr _):=bR.drew.trans b4;clear z b4;refine oK hK ?_ λg=>?_
   .exact⟨al G d.1,by rw[iJ G _ _ T];omega⟩
   replace d:=g;clear hK K g;have r:=bh T G.size;have O:=J (D.below G);have HN:=J (rj (n:=0) (B0:=y+1) b0 (λj hj=>(D.1.lt j hj).2) T);have b9:=J (X.under G);have b7:=J (u.trans (G.mono u.size));have s:=J (by have:=O.1;rw[V]at this;omega);have g5:k<1048576*64:=o_
   have a4:Kp ((Value.slice L k H).ownBlock≠some y):=(λhh=>by have:=(s.lt y hh).1;omega);refine oT 4 λK hK=>?_
   go_simp
   refine oK hK ?_ λg=>?_
   .exact⟨al (bR.alloc o_ _) d.1,by rw[iJ (bR.alloc o_ _) _ _ r];exact d.2⟩
   replace d:=g;clear hK K g;refine oT 5 λK hK=>?_
   apply jq rfl _ _ _ rfl _ 84 _ _ _ underlying41 e4 e5 f1 g3 rfl _ (U _ _ _) rfl (U L k H) k _ rfl s rfl g5 d_ r;intro v5 w5 B R;obtain⟨A5,c5,h5⟩:=bY B;subst h5;have b1:=J B;have F:=J R;clear B R
   go_simp
   refine oK hK ?_ λg=>?_
   .have e1:=(F.bI r a4)
    have e2:=(Below.heap_alloc _ (.cells #[U A4 xk.length c4] 84) _ r)
    exact⟨(bF (e1.trans e2.symm)).trans d.1,by have h:=d.2;unfold World.frozen? at h⊢;grind⟩
   replace d:=g;clear hK K g;apply tk 6 d;refine fC (o:= ?op7) k_ ?ap7 k_ (λK hK=> ?bp7)
   case ap7=>rfl
   obtain⟨e6,k5⟩:=d
   go_simp
   apply hK.out _ _;clear hK K;apply NoPanic.normal
   have HF:=J (cV.app O HN.1 HN.2 b1 F V);go_wp2;refine⟨⟨_,ys++[⟨A4,_,c4,az⟩],A5,c5,o_,o_,by rw[aE,V];rfl,f3 _ rfl,?_,?_,?_⟩,o_⟩
   .exact aa.set ((F.bI r a4).trans b9) 0 _
   .exact HF.aJ s_ _
   .exact(F.below b7 s (aF a0 o_) (aF a0 o_)).setCell (p:=(M y 0)) a0 _
  .obtain rfl:k=n:=o_
   obtain⟨x0,x1,_,_⟩:=X.two;have f9:=(ah _ wr).alloc (ae _) (.cells (eV L k H m none 0 0 most) 217);have HF:=J (HQ wr.heap.size L H ys (wr.alloc (.cells (eV L k H m none 0 0 most) 217)));rw[V]at HF;have a7:=J (by have:=c3.o;rw[take_of_length_le (by rw[Hn];omega)]at this;omega);have b5:=J (HF (aa.new _ _ _) ((D.below f9).base (aF a0 o_)) a7 (u.alloc u.size _) u.size (λj hj=>Nat.ne_of_lt (cG.bU D.at_ hj)));go_wp2;exact b5
def sy(p:aQ)(w:World)(e:Ending)(w':World):Prop:=∃n:Nd,e = .returned (.tuple #[.agg (aZ n),I 0])/\aK n=p/\du w' w'.heap.size n/\(gW w.heap.size n/\∀l∈n.ls,l.cs.length<=l.c)/\E w w'
def Row.jA{g B:Nat}{A:OA}{vs:LV}(hne:∀k,cE A vs k->k≠g)(us:LV)(w:World)(o:Nat)(h:Row w B A vs):Row (aH w g o us) B A vs:=
 fO h (λk hk=>ee (hne k hk) us w o)
def Gg(ga:Nat)(As An:OA)(nx cs m cn most:Nat)(nds:List Nd)(i:Nat)(hi:i<nds.length)(w:World)(hbx:aa w ga 217 (eV As nx cs m An nds.length cn most))(h:gX w w.heap.size An nds)(hx:1<=nx)(hnn:nds.length<=1000000)
 (hn4:nds[i].ls.length<=4)(hl:∀l∈nds[i].ls,l.cs.length<=1000000) :
 Calls prog 45 #[Y ga 0,N i] w (sy (aK nds[i]) w):=by
 have HQ:Kp (∀n w',aK n=aK nds[i]->du w' w'.heap.size n->(gW w.heap.size n/\∀l∈n.ls,l.cs.length<=l.c)->E w w'->sy (aK nds[i]) w (.returned (.tuple #[.agg (aZ n),I 0])) w'):=λn w' h1 h2 h3 h4=>⟨n,rfl,h1,h2,h3,h4⟩;have hb0:=(ah w.heap.size w).alloc (ae _) (.cells zN 157);have HR0:=J (aa.new w 157 zN);have HG0:=J (hbx.under hb0);have hat:=(h.below hb0).more hb0.size;have Hb0:=J hb0;have HC:=J (xU nds[i] _ (hat.each _ (gM hi)) hn4 hl);obtain⟨bn,on,hA,hbn,d0,d1,d2,d3,d4,d5,d6,d7,d8,d9,d10,d11,d12,d13⟩:=pV hat.row i hi;generalize nds[i]=nd at*;obtain⟨aj,nA,ls,nc,⟨key,child,⟨ac,s0,n0,x0,s1,n1,x1,s2,n2,x2⟩⟩⟩:=nd;dsimp only[aZ]at HC d0 d1 d2 d3 d4 d5 d6 d7 d8 d9 d10 d11 d12 d13;generalize hp:aK ⟨aj,nA,ls,nc,⟨key,child,⟨ac,s0,n0,x0,s1,n1,x1,s2,n2,x2⟩⟩⟩=pn at*;generalize hQ:sy pn w=Q at*;clear hQ hp hat hb0 hbx h;generalize hW0:w.alloc (.cells zN 157)=W0 at*;obtain⟨nn,hnn'⟩:=e_ nds.length
 rw[hnn']at HG0 hi hnn;have HT:=J (qt ga As An nx cs m nn cn most W0 HG0 hx);obtain⟨⟨_,_,a2,_⟩,_⟩:=aa.four HG0;rw[hA]at a2;have q1:¬(i:Int)<0:=o_
 have q1d:decide ((i:Int)<0)=false:=decide_eq_false q1;have q2:¬(nn:Int)<=(i:Int):=o_
 have q2d:decide ((nn:Int)<=(i:Int))=false:=decide_eq_false q2;have a1:(0:Int)<=(i:Int):=o_
 have a3:(i:Int)<(nn:Int):=o_
 have q3:decide (nn<=i)=false:=decide_eq_false o_;go_in;go_wp2_with fail;apply HT.mono;rintro e w1⟨rfl,rfl⟩;go_wp2_with fail;apply HC.mono;rintro e w2⟨n',rfl,hpn,hat2,hfr2,hb2,hcp2⟩;have Hpn:=J hpn;have Hat2:=J hat2;have Hfr2:=J hfr2;have Hcp2:=J hcp2;have HR2:=bu HR0 hb2;have Hb2:=ay Hb0 hb2;clear hpn hat2 hfr2 hb2 hcp2 hW0 d0 d1 d2 d3 d4 d5 d6 d7 d8 d9 d10 d11 d12 d13 a2 HT HC;obtain⟨rD,fD⟩:=aa.bK HR2;have Hlt:Kp (w.heap.size<W0.heap.size):=HR0.lt;have HF:=J (HQ n' (aH w2 w.heap.size 0 (cO n')) Hpn)
 have Hnd:Kp (du (aH w2 w.heap.size 0 (cO n')) (aH w2 w.heap.size 0 (cO n')).heap.size n'):=(by
  rw[nH];refine⟨Row.jA (λk hk e=> ?_) _ _ _ Hat2.row,λl hl=>Row.jA (λk hk e=> ?_) _ _ _ (Hat2.each l hl)⟩
  .obtain⟨hne,off,ea⟩:=hk;have:=Hfr2.1 k off ea hne;have:=Hlt.o;omega
  .obtain⟨hne,off,ea⟩:=hk;have:=Hfr2.2 l hl k off ea hne;have:=Hlt.o
   omega)
 have Hfin:=J (HF Hnd ⟨Hfr2.less Hb0.size,Hcp2⟩ (fq (ae _) _ _ _ Hb2));have HB:Kp (aa (aH w2 w.heap.size 0 (cO n')) w.heap.size 157 (aZ n')):=dS HR2 (cO n') rfl;obtain⟨dim',nA',ls',nc',⟨key',child',⟨ac',s0',n0',x0',s1',n1',x1',s2',n2',x2'⟩⟩⟩:=n';clear HF Hnd Hpn Hat2 Hfr2 HQ Hlt Hcp2;dsimp only[aZ,cO]at Hfin HB⊢;generalize hWf:aH w2 w.heap.size 0 _=Wf at*;simp only[aH,Nat.zero_add,Nat.reduceAdd]at hWf;obtain⟨z0,z1,z2,z3,z4,z5,z6,z7,z8,z9,z10,z11,z12,z13⟩:=(aa.bK HB).1;go_wp2_with fail;refine bodyPost_ret (v:= .tuple #[.agg #[N dim',U nA' ls'.length nc',N key',N child',I ac',I s0',I n0',I x0',I s1',I n1',I x1',I s2',I n2',I x2'],I 0]) ?_ rfl Hfin;simp[results,results45,go_sem,z0,z1,z2,z3,z4,z5,z6,z7,z8,z9,z10,z11,z12,z13]
structure vm(n:Nd):Prop where
 n4:n.ls.length<=4
 rB:∀l∈n.ls,l.cs.length<=1000000
def sB(ps:List aQ)(w:World)(e:Ending)(w':World):Prop:=∃(A:OA)(c:Nat)(ys:List Nd),e = .returned (U A ys.length c)/\ep w' w.heap.size (U A ys.length c) ys/\ys.map aK=ps/\E w w'
def Gh(ga:Nat)(As An:OA)(nx cs m cn most:Nat)(nds:List Nd)(w:World)(hbx:aa w ga 217 (eV As nx cs m An nds.length cn most))(h:gX w w.heap.size An nds)(hx:1<=nx)(hnn:nds.length<=1000000)(hsm:∀n∈nds,vm n) :
 Calls prog 69 #[Y ga 0] w (sB (nds.map aK) w):=by
 obtain⟨i0,ti0,tz0,tz1,tz2⟩:=info_parts BK;have HQ:Kp (∀A c ys w',ep w' w.heap.size (U A ys.length c) ys->ys.map aK=nds.map aK->E w w'->sB (nds.map aK) w (.returned (U A ys.length c)) w'):=λA c ys w' h1 h2 h3=>⟨A,c,ys,rfl,h1,h2,h3⟩;generalize hQ:sB (nds.map aK) w=Q at*;clear hQ;have Hh:=J h;have Hsm:=J hsm;obtain⟨n,hn⟩:=e_ nds.length
 have Hn:=J hn;rw[hn]at hbx hnn;clear hn h hsm;have HT:=J (qt ga As An nx cs m n cn most w hbx hx);obtain⟨⟨_,_,a2,_⟩,_⟩:=aa.four hbx;go_in;go_wp2_with fail;apply HT.mono;rintro e w1⟨rfl,rfl⟩;go_wp2_with fail;clear a2 HT hbx
 go_loopw [3,14] (λv3 v14 wr=>∃(k:Nat)(ys:List Nd)(A':OA)(c':Nat),k<=n/\v14 = N k/\v3 = U A' k c'/\ys.length=k/\ys.map aK=(nds.take k).map aK/\ep wr w.heap.size (U A' k c') ys/\E w wr) (λ_ v14 _=>n-(intOf v14).toNat)
 case atStart=>exact⟨0,[],none,0,av _,rfl,rfl,rfl,rfl,ep.nil _ _,ah _ _⟩
 .obtain⟨k,ys,A',c',hk,rfl,rfl,hyl,hyk,hown,hbe⟩:=hrel;have Hyl:=J hyl;have Hyk:=J hyk;have Hown:=J hown;have Hbe:=J hbe;clear hyl hyk hown hbe;by_cases hlt:k<n
  .have hkd:k<nds.length:=by rw[Hn.o];exact hlt
   have hat:=(Hh.below Hbe).more Hbe.size;obtain⟨bn,on,hA,hbn,d0,d1,d2,d3,d4,d5,d6,d7,d8,d9,d10,d11,d12,d13⟩:=pV hat.row k hkd;have hsk:=Hsm _ (gM hkd);have hatk:=hat.each _ (gM hkd);have Hyn:Kp (∀f:Nd,aK f=aK (nds[k]'hkd)->(ys++[f]).map aK=(nds.take (k+1)).map aK):=(λf hf=>by rw[take_succ_eq_append_getElem hkd,map_append,map_append,Hyk.o,map_cons,map_nil,map_cons,map_nil,hf]);generalize(nds[k]'hkd)=nd at*;have hb3:=(ah wr.heap.size wr).alloc (ae _) (.cells zN 157);have HZ:=J (aa.new wr 157 zN);have Hb4:=J (fq (ae _) (cO nd) _ 0 hb3);have HB4:Kp (aa (aH (wr.alloc (.cells zN 157)) wr.heap.size 0 (cO nd)) wr.heap.size 157 (aZ nd)):=dS HZ (cO nd) rfl;have HC:=J (xU nd _ ((hatk.below Hb4).more Hb4.size) hsk.n4 hsk.rB);have Hyp:Kp (∀f:Nd,aK f=aK nd->True):=λ_ _=>trivial;obtain⟨rD,fD⟩:=aa.bK HZ;have hi0:(0:Int)<=(k:Int):=o_
   have hi1:(k:Int)<(n:Int):=o_
   generalize hpn:aK nd=pn at*;clear hat hsk hatk hb3 HZ Hyp hpn;obtain⟨aj,nA,ls,nc,⟨key,child,⟨ac,s0,n0,x0,s1,n1,x1,s2,n2,x2⟩⟩⟩:=nd;dsimp only[aZ,cO]at HC HB4 Hb4 d0 d1 d2 d3 d4 d5 d6 d7 d8 d9 d10 d11 d12 d13;generalize hW3:wr.alloc (.cells zN 157)=W3 at*;generalize hW4:aH W3 wr.heap.size 0 _=W4 at*;simp only[aH,Nat.zero_add,Nat.reduceAdd]at hW4;have zD:=(aa.bK HB4).1;rw[hA];go_wp2_with fail;apply HC.mono;rintro e w5⟨n',rfl,hpn,hat5,hfr5,hb5,_⟩;have Hpn:=J hpn;have Hb45:=ay Hb4 hb5;have Hb5:=J (Hbe.trans (Hb45.mono Hbe.size));have Hown5:=J (Hown.below Hb45);have Hap:=J (ko.new (v:= U A' k c') hat5 hfr5 (λj hj=>bh (Hown.1.lt j hj).2 Hb4.size));have Hfr:=J (hfr5.less (aF Hbe.size Hb4.size));have Hown5r:=J (show w5.ownsRow w.heap.size 157 14 (U A' k c') k (ys.flatMap cO) by have:=Hown5.1;rw[Hyl.o]at this;exact this);have Hs5:=J Hb5.size;have hk1:k+1<1048576*64:=o_
   clear hpn hat5 hfr5 hb5 HC HB4 Hb4 hW3 hW4 d0 d1 d2 d3 d4 d5 d6 d7 d8 d9 d10 d11 d12 d13 rD fD zD hA
   go_wp2_with(at_builtin;apply je rfl (.tmp 18) (.tmp 21) 151 rfl w.heap.size 157 i0 _ 14 128 underlying151 ti0 tz0 tz1 tz2 rfl d_ w5 (aZ n') rfl (CH n') (U A' k c') k (ys.flatMap cO) rfl Hown5r rfl hk1 d_ Hs5;intro v6 w6 hown6 happ6;obtain⟨A6,c6,h6⟩:=cI hown6;subst h6;have Hown6:=J hown6;have Hap6:=J happ6;have Hb6:=J (happ6.ew Hb5 Hown5r (ae _) Hs5);clear hown6 happ6)
   have HF:=J (ep.app (x:=n') Hown5 Hap Hfr Hown6 Hap6 Hyl);exact⟨⟨k+1,ys++[n'],A6,c6,o_,by go_num,rfl,by rw[aE,Hyl.o];rfl,Hyn _ Hpn,HF,Hb6⟩,by simp[intOf];omega⟩
  .obtain rfl:k=n:=o_
   have HF:=J (HQ A' c' ys);rw[Hyl.o]at HF;have Hfin:=J (HF _ Hown (by have:=Hyk.o;rw[take_of_length_le (by rw[Hn.o];exact ae _)]at this;exact this) Hbe);go_wp2_with fail;exact Hfin
structure kO(s:aN)(keys:LN):Prop where
 len:keys.length=s.af.length
 each:∀(d:Nat)(hd:d<s.af.length)(hk:d<keys.length)(h0:0<(s.af[d]'hd).ai.length),keys[d]<((s.af[d]'hd).ai[0]'h0).ar.length
section
variable(ga:Nat)(As An:OA)(nx cs m nn cn most:Nat)(w:World)
def KE(h:aa w ga 217 (eV As nx cs m An nn cn most))(hn:1<=nx) :
 Calls prog 114 #[Y ga 0] w λe w'=>e = .returned (N nn)/\w'=w:=by
 have HT:=J (qt _ _ _ _ _ m _ _ _ w h hn);obtain⟨⟨a0,a1,a2,a3⟩,_⟩:=aa.four h;go_in;go_wp2_with fail;apply HT.mono;rintro e w1⟨rfl,rfl⟩;go_wp2;go_ret;simp
def EU(h:aa w ga 217 (eV As nx cs m An nn cn most))(hn:1<=nx)(hnn:nn<=1000000) :
 Calls prog 46 #[Y ga 0] w λe w'=>e = .returned (I ((nn:Int)-1))/\w'=w:=by
 have HT:=J (KE _ _ _ _ _ m _ _ _ w h hn);have hw:IntKind.i64.wrap _=nn-1:=IntWalk.i64_in _ o_;go_in;go_wp2_with fail;apply HT.mono;rintro e w1⟨rfl,rfl⟩;go_wp2;go_ret;simp
end
def vV(xs:List Fa)(m:Nat)(w:World)(e:Ending)(w':World):Prop:=∃(A:OA)(c:Nat)(ys:List Fa),e = .returned (.agg #[U A ys.length c,N m])/\cV w' w.heap.size (U A ys.length c) ys/\ys.map Fa.keys=xs.map Fa.keys/\E w w'
def Gk ga A An c m nn cn most xs w(T:aa w ga 217 (eV A xs.length c m An nn cn most))(h:cG w w.heap.size A xs)(b9:1<=xs.length)(d2:xs.length<=16)(c8:∀x∈xs,x.keys.length<=1000000) :
 Calls prog 66 #[Y ga 0] w (vV xs m w):=by
 obtain⟨i0,f6,f7,e8,g6⟩:=info_parts rk;have HQ:Kp (∀A c ys w',cV w' w.heap.size (U A ys.length c) ys->ys.map Fa.keys=xs.map Fa.keys->E w w'->vV xs m w (.returned (.agg #[U A ys.length c,N m])) w'):=λA c ys w' h2 y u=>⟨A,c,ys,rfl,h2,y,u⟩;have Hh:=J h;have g0:=J c8;have u:=(ah w.heap.size w).alloc (ae _) (.cells #[Z,I 0] 43);obtain⟨z,O,G⟩:=j3_ (aa.new w 43 #[Z,I 0]) (T.under u) u;clear h u T c8;generalize u:vV xs m w=Q at*;clear u;obtain⟨n,u⟩:=e_ xs.length;have Hn:=J u;rw[u]at O d2 b9;clear u;generalize e9:w.alloc _=u at*;have L:=J (qt ga A An n c m nn cn most u O b9);have y:=(ah u.heap.size u).alloc (ae _) (.cells #[Z,N m] 43);have e3:=J (aa.new u 43 #[Z,N m]);have D:=bu O y;have V:=bu z y;have f2:=ay G y;have G:Kp (w.heap.size+1<=u.heap.size):=z.lt;generalize e4:u.alloc (.cells #[Z,N m] 43)=W2 at*;obtain⟨⟨a0,a1,_,_⟩,_⟩:=aa.four O;obtain⟨⟨y0,y1,_,_⟩,_⟩:=aa.four D;clear y;go_in;go_wp2_with fail;apply L.mono;rintro e y⟨rfl,rfl⟩;go_wp2_with fail;clear a0 a1 y0 y1 e4 e9 O D z L;generalize u.heap.size=u at*;go_loopw [22] (λy wr=>∃(k:Nat)(ys:List Fa)(B:OA)(z:Nat),k<=n/\y = I k/\ys.length=k/\ys.map Fa.keys=(xs.take k).map Fa.keys/\aa wr w.heap.size 43 #[Z,I 0]/\aa wr u 43 #[U B k z,N m]/\cV wr (u+1) (U B k z) ys/\E w wr) (λy _=>n-(intOf y).toNat)
 case atStart=>exact⟨0,_,_,0,av _,rfl,rfl,rfl,V,e3,cV.nil _ _,f2⟩
 .obtain⟨k,ys,B,z,hk,rfl,L,c3,y,T,D,O⟩:=hrel;obtain⟨a3,b8,a4,a2,R,V⟩:=j6_ L c3 y T D O;clear L c3 y T D O;by_cases y:k<n
  .have q:k<xs.length:=by rw[Hn.o];exact y
   have y:=(Hh.below V).more V.size;obtain⟨b,off,D,L,c0⟩:=Row.at_ y.row (by rw[lM];exact q);rw[getElem_map]at c0;unfold fL at c0;have O:=J (λW(L:E wr W)=>qW (xs[k]'q).A (xs[k]'q).c (xs[k]'q).keys W (g0 _ (gM q)) (((y.each _ (gM q)).below L).more L.size));have d9:Kp (∀f:Fa,f.keys=(xs[k]'q).keys->(ys++[f]).map Fa.keys=(xs.take (k+1)).map Fa.keys):=(λf L=>by rw[take_succ_eq_append_getElem q,map_append,map_append,b8.o,map_cons,map_nil,map_cons,map_nil,L]);generalize(xs[k]'q).A=L at*;generalize(xs[k]'q).keys=xk at*;generalize(xs[k]'q).c=L at*;have L:(0:Int)<=(k:Int):=o_;have L:(k:Int)<(n:Int):=o_;rw[D];clear y D;go_upto_region 7 with fail;clear c0;obtain⟨x0,x1,f0,_⟩:=a2.two;have X:u<wr.heap.size:=a2.lt;have y:=J (O wr.drew (ah _ _).drew);apply wp_region_noPanic;refine br (t:=7) (S:=(λw'=>C w' u 0 (U B k z)/\w'.frozen? (M u 0)=false)) k_ ⟨x0,f0⟩ (λd=> ?_);apply eR 0 1 2 d;refine oT 3 λK hK=>?_;go_simp;apply y.mono;rintro e O⟨y,rfl,D,y⟩;obtain⟨A4,c4,rfl⟩:=bY D;have L:=J D;have s:Kp (E wr O):=(ah _ _).drew.trans y;clear D y;refine oK hK ?_ λd=>?_
   .exact⟨al s d.1,by rw[iJ s _ _ X];omega⟩
   have r:u<O.heap.size:=bh X s.size;obtain⟨H,HN,b7,d1⟩:=j4_ (R.below s) (rj (n:=0) (w:=O) (v:= U B k z) (B0:=u+1) L (λj y=>(R.1.lt j y).2) X) (a2.under s) (V.trans (s.mono V.size));have g:=J (by have:=H.1;rw[a3]at this;omega);have y:k<1048576*64:=o_;have a6:Kp ((Value.slice B k z).ownBlock≠some u):=(λE=>by have:=(g.lt u E).1;omega);refine oT 4 λK hK=>?_;go_simp;refine oK hK ?_ λd=>?_
   .exact⟨al (bR.alloc o_ _) d.1,by rw[iJ (bR.alloc o_ _) _ _ r];exact d.2⟩
   refine oT 5 λK hK=>?_;apply jq rfl _ _ _ rfl _ 84 _ _ _ underlying41 f6 f7 e8 g6 rfl O (U _ _ _) rfl (U B k z) k _ rfl g rfl y d_ r;intro y w5 F L;obtain⟨A5,c5,y⟩:=bY F;subst y;have b5:=J F;have y:=J L;clear F L;go_simp;refine oK hK ?_ λd=>?_
   .have D:=(y.bI r a6);have L:=(Below.heap_alloc O (.cells #[U A4 xk.length c4] 84) _ r);exact⟨(bF (D.trans L.symm)).trans d.1,by have h:=d.2;unfold World.frozen? at h⊢;grind⟩
   apply tk 6 d;refine fC (o:= ?op7) k_ ?ap7 k_ (λK hK=> ?bp7)
   case ap7=>rfl
   obtain⟨D,L⟩:=d;go_simp;apply hK.out _ _;clear hK K;apply NoPanic.normal
   have D:=J (cV.app H HN.1 HN.2 b5 y a3);go_wp2;refine⟨⟨_,ys++[⟨A4,_,c4,az⟩],A5,c5,o_,o_,by rw[aE,a3];rfl,d9 _ rfl,?_,?_,?_,?_⟩,o_⟩
   .exact(Below.heap_setCell _ _ _ _ (by have:=G.o;grind)).trans ((y.bI (bh a4.lt s.size) (λE=>by have h1:=(g.lt _ E).1;have:=G.o;omega)).trans (a4.under s))
   .exact aa.set ((y.bI r a6).trans b7) 0 _
   .exact D.aJ s_ _
   .exact(y.below d1 g (by have:=G.o;omega) (by have:=G.o;omega)).setCell (by have:=G.o;grind) _
  .obtain rfl:k=n:=o_;obtain⟨x0,x1,_,_⟩:=a2.two;obtain⟨y,E,f0,L⟩:=a4.two;have D:=J (HQ B z ys);rw[a3]at D;have L:=J (by have:=b8.o;rw[take_of_length_le (by rw[Hn];omega)]at this;omega);have O:=G.o;have G:=J (((R.aJ (p:=(M w.heap.size 0)) o_ (U B k z)).aJ (p:=(M w.heap.size 1)) o_ (N m)).base (show w.heap.size<=u+1 by omega));have O:=J ((V.setCell (p:=(M w.heap.size 0)) s_ (U B k z)).setCell (p:=(M w.heap.size 1)) s_ (N m));go_wp2;have u:aa ((wr.setCell (M _ 0) _).setCell (M _ 1) _) _ _ #[U B k z,N m]:=(a4.set 0 _).set 1 _;clear y E;obtain⟨y,E,_,_⟩:=u.two;refine bodyPost_ret (by simp[results,go_sem,y,E]) rfl (D _ G L O)
section
def yM(A:OA)(n c m:Nat)(w:World):(Instr.field 43 (.agg #[U A n c,N m]) 1).run prog w = .ok (N m) w:=by
 simp[Instr.field,asAgg,go_sem]
attribute [local go_sem] yM
end
def BF(A:OA)(c:Nat)(l:LN)(w:World)(hn:l.length<=1000000)(hr:Row w w.heap.size A (an l))(hne:∀x∈l,x≠0) :
 Calls prog 149 #[U A l.length c,I 0] w λe w'=>e = .returned (I (-1))/\w'=w:=by
 have HA:=J hr;have Hne:=J hne;clear hr hne;obtain⟨n,hN⟩:=e_ l.length
 rw[hN]at hn⊢;have Hn:=J hN;clear hN;go_in;go_wp2_with fail
 go_loop [8] (λi=>∃k:Nat,k<=n/\i = I k) (λi=>n-(intOf i).toNat)
 case atStart=>exact⟨0,av _,rfl⟩
 .obtain⟨k,hk,rfl⟩:=hrel;by_cases hla:k<n
  .have hkl:k<l.length:=by rw[Hn.o];exact hla
   obtain⟨bA,oA,hA,hbA,c0⟩:=Row.at_ HA (k:=k) (by rw[ia];exact hkl);unfold an at c0;rw[getElem_map]at c0;have hx:=Hne _ (gM hkl);generalize(l[k]'hkl)=x at*;have q:((0:Int) == (x:Int))=false:=o_
   have hi0:(0:Int)<=(k:Int):=o_
   have hi1:(k:Int)<(n:Int):=o_
   rw[hA];clear hx;go_wp2_with fail
   go_round
   case rel=>exact⟨k+1,o_,by go_num⟩
   case measure=>simp[intOf];omega
  .obtain rfl:k=n:=o_
   go_wp2_with fail;go_ret;exact⟨rfl,rfl⟩
structure qP(nx:Nat)(P:List aQ):Prop where
 back:∀(i:Nat)(n:aQ),P[i]? = some n->n.aj+1<nx->∀c∈cR n,c.child<i
 top:∀n:aQ,P[P.length-1]? = some n->n.aj=0
 kW:∀j:Nat,j+1<P.length->∃(i:Nat)(n:aQ)(c:Cl),P[i]? = some n/\n.aj+1<nx/\c∈cR n/\c.child=j
 aj:∀n∈P,n.aj<nx
structure fQ(nx k j:Nat)(P:List aQ)(M:LN):Prop where
 len:M.length=P.length
 le:∀x∈M,x<=k*4001+j
 kW:∀(i:Nat)(n:aQ),i<k->P[i]? = some n->n.aj+1<nx->∀c∈cR n,∃x,M[c.child]? = some x/\x≠0
 cur:∀n:aQ,P[k]? = some n->∀(i:Nat)(c:Cl),i<j->(cR n)[i]? = some c->∃x,M[c.child]? = some x/\x≠0
section
variable{nx k j:Nat}{P:List aQ}{M:LN}
def fQ.zero(nx:Nat)(P:List aQ):fQ nx 0 0 P (replicate P.length 0):=⟨s_,λx hx=>by rw[eq_of_mem_replicate hx];exact av _,λi n h=>o_,λn _ i c h=>o_⟩
def fQ.step(h:fQ nx k j P M){n:aQ}(hn:P[k]? = some n){c:Cl}(hc:(cR n)[j]? = some c){x:Nat}(hx:M[c.child]? = some x):fQ nx k (j+1) P (M.set c.child (x+1)):=by
 have hlt:=(aO hx).1;have hkeep:∀i y,M[i]? = some y->y≠0->∃z,(M.set c.child (x+1))[i]? = some z/\z≠0:=λi y hy h0=>by
  by_cases e:c.child=i
  .subst e;exact⟨x+1,by rw[getElem?_set_self hlt],o_⟩
  .exact⟨y,by rw[getElem?_set_ne e];exact hy,h0⟩
 refine⟨by rw[length_set];exact h.len,λy hy=> ?_,λi m hi hm hd d hd'=> ?_,λm hm i d hi hd=> ?_⟩
 .obtain hy|rfl:=mem_or_eq_of_mem_set hy
  .have:=h.le y hy;omega
  .have:=h.le x (mem_of_getElem? hx);omega
 .obtain⟨y,hy,h0⟩:=h.kW i m hi hm hd d hd';exact hkeep _ _ hy h0
 .by_cases hij:i<j
  .obtain⟨y,hy,h0⟩:=h.cur m hm i d hij hd;exact hkeep _ _ hy h0
  .obtain rfl:i=j:=o_
   rw[hn]at hm;injection hm with hm
   subst hm;rw[hc]at hd;injection hd with hd
   subst hd;exact⟨x+1,by rw[getElem?_set_self hlt],o_⟩
def fQ.next(h:fQ nx k j P M){n:aQ}(hn:P[k]? = some n)(hj:(cR n).length=j)(hj2:j<=4001):fQ nx (k+1) 0 P M:=by
 refine⟨h.len,λx hx=>(by rw[Nat.succ_mul];exact aF (h.le x hx) (Nat.add_le_add_left hj2 _)),λi m hi hm hd c hc=> ?_,λm _ i c hi=>absurd hi (Nat.not_lt_zero _)⟩;by_cases hik:i<k
 .exact h.kW i m hik hm hd c hc
 .obtain rfl:i=k:=o_
  rw[hn]at hm;injection hm with hm
  subst hm;obtain⟨q,hq,rfl⟩:=getElem_of_mem hc;exact h.cur n hn q _ o_ (gE hq)
def fQ.skip(h:fQ nx k 0 P M){n:aQ}(hn:P[k]? = some n)(hd:¬n.aj+1<nx):fQ nx (k+1) 0 P M:=by
 refine⟨h.len,λx hx=>(by have h1:=h.le x hx;rw[Nat.succ_mul,Nat.add_zero];rw[Nat.add_zero]at h1;exact aF h1 (Nat.le_add_right _ _)),λi m hi hm hd' c hc=> ?_,λm _ i c hi=>absurd hi (Nat.not_lt_zero _)⟩;by_cases hik:i<k
 .exact h.kW i m hik hm hd' c hc
 .obtain rfl:i=k:=o_
  rw[hn]at hm;injection hm with hm
  subst hm;exact absurd hd' hd
def fQ.done(hw:qP nx P)(h:fQ nx P.length 0 P M):∀x∈M.take (P.length-1),x≠0:=by
 intro x hx;obtain⟨i,hi,rfl⟩:=getElem_of_mem hx;rw[length_take]at hi;obtain⟨q,n,c,h1,h2,h3,h4⟩:=hw.kW i o_;obtain⟨y,hy,h0⟩:=h.kW q n (aO h1).1 h1 h2 c h3;rw[h4]at hy;rw[getElem_take];obtain⟨h5,h6⟩:=aO hy;rw[h6];exact h0
end
def MJ{w:World}{B:Nat}{e:TypeId}{g n c:Nat}{xs:LV}(h:w.ownsRow B e 1 (U (some ⟨g,0,none⟩) n c) n xs){i:Nat}{v:Value}(hv:xs[i]? = some v):w.cell? ⟨g,i,none⟩=some v/\w.frozen? ⟨g,i,none⟩=false:=by
 obtain⟨h2,_⟩|⟨g',cap,cur,hv',hB,hh,hnc,hcm,hcs,ht⟩:=h.2
 .cases h2
 .injection hv' with hA _ hc
  injection hA with hA
  injection hA with hg _ _
  subst hg;have hb:aa w g e cur:=hh;refine⟨?_,hb.free i⟩;rw[hb.cell i];rw[<-ht,getElem?_take]at hv;split at hv
  .simpa using hv
  .cases hv
def Lk(l:LN)(i x:Nat):(an l).set i (N x)=an (l.set i x):=by unfold an;rw[map_set]
def Rb(ga:Nat)(As An:OA)(nx cs m cn most:Nat)(nds:List Nd)(w:World)(hbx:aa w ga 217 (eV As nx cs m An nds.length cn most))(h:gX w w.heap.size An nds)
 (hn1:1<=nx)(hn16:nx<=16)(hnn:nds.length<=1000000)(hsm:∀n∈nds,vm n)(hl:∀n∈nds,∀l∈n.ls,l.cs.length<=1000)(hw:qP nx (nds.map aK)) :
 Calls prog 67 #[Y ga 0] w (R_ (.bool true) w):=by
 obtain⟨i0,ti0,tz0,tz1,tz2⟩:=info_parts iK;have HT:=J (qt ga As An nx cs m nds.length cn most w hbx hn1);have HTop:=J (λW(hW:E w W)=>EU ga As An nx cs m nds.length cn most W (hbx.under hW) hn1 hnn);have HL:=J (λW aj(hd:aj<nx)=>mD As nx cs m aj W hn1 o_ o_);have HE:=J (λn(hn:n∈nds) W(hW:E w W)=>x9 n W (((h.each n hn).below hW).more hW.size) (hsm n hn).n4 (hl n hn));have HI:=J BF
 have Hc4:Kp (∀n∈nds,(cR (aK n)).length<=4001):=(λn hn=>by
  have h1:=count_le (λl hl'=>hl n hn l hl') n.ls.length;rw[take_of_length_le (ae _)]at h1;have h2:n.ls.length*1000<=4*1000:=Nat.mul_le_mul_right _ (hsm n hn).n4;have h3:(cR (aK n)).length=(n.ls.map λl=>l.cs.length).sum+1:=by
   unfold cR aK;rw[aE,length_flatten,map_map];rfl
  omega)
 have Hw:=J hw;have Hh:=J h;have Hbx:=J hbx;obtain⟨⟨a0,a1,a2,a3⟩,_⟩:=aa.four hbx;have hga:ga<w.heap.size:=hbx.lt;obtain⟨n,hn⟩:=e_ nds.length
 have Hn:=J hn;rw[hn]at HTop Hbx hnn a2;have HPn:=J (show(nds.map aK).length=n by rw[lM];exact hn);clear hn hbx h hsm hl hw;go_in;go_wp2_with fail;apply HT.mono;rintro e w1⟨rfl,rfl⟩;by_cases h0:n=0
 .have q0:((n:Int) == 0)=true:=by rw[h0];rfl
  go_wp2_with fail;go_ret;exact⟨rfl,ah _ _⟩
 .have q0:((n:Int) == 0)=false:=o_
  go_wp2_with(at_make;refine wpList_make_full _ rfl _ _ 84 rfl w.heap.size 3 i0 (I 0) 1 underlying84 ti0 tz0 tz1 .i64 .i64 (n:Int) (n:Int) n rfl rfl rfl rfl (by rw[tz2];omega) (by unfold maxLen;omega) (ae _) ?_;intro w2 hown2 hgr2;have Hown2:=J hown2;have Hb2:Kp (E w w2):=(ah _ _).grown hgr2 (ae _) (λk hk=>by cases hk);clear hown2 hgr2 a0 a1 a2 a3;obtain⟨⟨a0,a1,a2,a3⟩,_⟩:=aa.four (Hbx.under Hb2))
  have hM0:=J (show w2.ownsRow w.heap.size 3 1 (U (some ⟨w.heap.size,0,none⟩) n n) n (an (replicate n 0)) by
   have h1:=Hown2.o;rw[Nat.mul_one,show(I 0).cells=#[I 0]from rfl,toList_madeCells_one]at h1;have e:an (replicate n 0)=replicate n (I 0):=by unfold an;rw[map_replicate];rfl
   rw[e]
   exact h1)
  have hg2:=(hM0.out.lt w.heap.size rfl).2;have Hg2:=J hg2;clear hg2 Hown2 a0 a1 a2 a3 HT
  go_loopw [28] (λv28 wr=>∃(k:Nat)(M:LN),k<=n/\v28 = N k/\wr.ownsRow w.heap.size 3 1 (U (some ⟨w.heap.size,0,none⟩) n n) n (an M)/\fQ nx k 0 (nds.map aK) M/\E w wr) (λv28 _=>n-(intOf v28).toNat)
  case atStart=>exact⟨0,replicate n 0,av _,rfl,hM0.out,by have:=fQ.zero nx (nds.map aK);rw[HPn.o]at this;exact this,Hb2⟩
  .obtain⟨k,M,hk,rfl,hown,hcnt,hbe⟩:=hrel;have Hown:=J hown;have Hcnt:=J hcnt;have Hbe:=J hbe;clear hown hcnt hbe;obtain⟨⟨a0,a1,a2,a3⟩,_⟩:=aa.four (Hbx.under Hbe);by_cases hlt:k<n
   .have hkd:k<nds.length:=by rw[Hn.o];exact hlt
    have hat:=(Hh.below Hbe).more Hbe.size;obtain⟨bn,on,hA,hbn,d0,d1,d2,d3,d4,d5,d6,d7,d8,d9,d10,d11,d12,d13⟩:=pV hat.row k hkd;have hmem:=gM hkd;have HEk:=J (HE _ hmem);have hdk:=Hw.aj (aK (nds[k]'hkd)) (mem_map_of_mem hmem);have hPk:(nds.map aK)[k]? = some (aK (nds[k]'hkd)):=by rw[getElem?_map,gE hkd];rfl
    have HPk:=J hPk;have Hc:=J (Hc4 _ hmem);have HBk:=J (Hw.back k _ hPk);have Hcl:=J (show(nds[k]'hkd).ls.flatMap Ll.cs++[(nds[k]'hkd).all]=cR (aK (nds[k]'hkd)) by unfold cR aK;simp[flatMap_def]);have Hdm:Kp ((aK (nds[k]'hkd)).aj=(nds[k]'hkd).aj):=rfl;have hdk2:(nds[k]'hkd).aj<nx:=hdk;clear hdk hPk hat hmem;generalize(nds[k]'hkd)=nd at*;have hb3:=(ah wr.heap.size wr).alloc (ae _) (.cells zN 157);have HZ:=J (aa.new wr 157 zN);have Hb4:=J (fq (ae _) (cO nd) _ 0 hb3);have HB4:Kp (aa (aH (wr.alloc (.cells zN 157)) wr.heap.size 0 (cO nd)) wr.heap.size 157 (aZ nd)):=dS HZ (cO nd) rfl;obtain⟨⟨r0,r1,r2,r3,r4,r5,r6,r7,r8,r9,r10,r11,r12,r13⟩,⟨f0,f1,f2,f3,f4,f5,f6,f7,f8,f9,f10,f11,f12,f13⟩⟩:=aa.bK HZ;have hi0:(0:Int)<=(k:Int):=o_
    have hi1:(k:Int)<(n:Int):=o_
    generalize aK nd=pn at*;clear hb3 HZ;obtain⟨aj,nA,ls,nc,⟨key,child,⟨ac,s0,n0,x0,s1,n1,x1,s2,n2,x2⟩⟩⟩:=nd;dsimp only[aZ,cO]at HEk HB4 Hb4 Hcl Hdm hdk2 d0 d1 d2 d3 d4 d5 d6 d7 d8 d9 d10 d11 d12 d13;generalize hW3:wr.alloc (.cells zN 157)=W3 at*;generalize hW4:aH W3 wr.heap.size 0 _=W4 at*;simp only[aH,Nat.zero_add,Nat.reduceAdd]at hW4;rw[hA];go_upto_region 9 with fail
    clear hW3 hW4 d0 d1 d2 d3 d4 d5 d6 d7 d8 d9 d10 d11 d12 d13 r0 r1 r2 r3 r4 r5 r6 r7 r8 r9 r10 r11 r12 r13 f0 f1 f2 f3 f4 f5 f6 f7 f8 f9 f10 f11 f12 f13 a0 a1 a2 a3;have hwr:=Hbe.size;have HbW:=J (Hbe.trans (Hb4.mono Hbe.size));have HBg:=J (Hbx.under HbW);obtain⟨⟨a0,a1,a2,a3⟩,_⟩:=aa.four HBg;obtain⟨z0,z1,z2,z3,z4,z5,z6,z7,z8,z9,z10,z11,z12,z13⟩:=(aa.bK HB4).1;have HLk:=J (HL W4.drew aj hdk2);by_cases hd:aj+1=nx
    .have qd:decide (aj+1=nx)=true:=decide_eq_true hd;rw[qd]at HLk;apply wp_region_noPanic;refine br (t:=99) (S:=(λw'=>C w' ga 0 (U As nx cs)/\C w' ga 1 (N m)/\C w' wr.heap.size 0 (N aj))) k_ ⟨a0,a1,z0⟩ (λhHeld=> ?_);apply tD 0 1 2 3 hHeld;apply tB 4 5 hHeld;refine oT 6 λK hK=>?_
     go_simp
     apply HLk.mono;rintro e wc⟨rfl,hbc⟩;have Hbc:Kp (E W4 wc):=(ah _ _).drew.trans hbc;clear hbc;refine oK hK ?_ λhHeld2=>?_
     .exact⟨al Hbc a0,al Hbc a1,al Hbc z0⟩
     replace hHeld:=hHeld2;clear hK K hHeld2;refine bQ k_ ?_ _
     try clear hHeld
     apply NoPanic.normal;have Hb5:=J (HbW.trans (Hbc.mono HbW.size));have Hown5:=J (bS (bS Hown Hb4) Hbc);have Hcn5:=J (fQ.skip Hcnt HPk (by rw[Hdm.o];omega));clear a0 a1 a2 a3 z0 z1 z2 z3 z4 z5 z6 z7 z8 z9 z10 z11 z12 z13;go_wp2_with fail;exact⟨⟨k+1,M,o_,by go_num,Hown5,Hcn5,Hb5⟩,by simp[intOf];omega⟩
    .have qd:decide (aj+1=nx)=false:=decide_eq_false hd;rw[qd]at HLk;apply wp_region_noPanic;refine br (t:=99) (S:=(λw'=>C w' ga 0 (U As nx cs)/\C w' ga 1 (N m)/\C w' wr.heap.size 0 (N aj))) k_ ⟨a0,a1,z0⟩ (λhHeld=> ?_);apply tD 0 1 2 3 hHeld;apply tB 4 5 hHeld;refine oT 6 λK hK=>?_
     go_simp
     apply HLk.mono;rintro e wc⟨rfl,hbc⟩;have Hbc:Kp (E W4 wc):=(ah _ _).drew.trans hbc;clear hbc;refine oK hK ?_ λhHeld2=>?_
     .exact⟨al Hbc a0,al Hbc a1,al Hbc z0⟩
     replace hHeld:=hHeld2;clear hK K hHeld2;refine bQ k_ ?_ _
     try clear hHeld
     apply NoPanic.normal;have Hb5:=J (HbW.trans (Hbc.mono HbW.size));have Hown5:=J (bS (bS Hown Hb4) Hbc);have HB5:=J (HB4.under Hbc);clear a0 a1 a2 a3 z0 z1 z2 z3 z4 z5 z6 z7 z8 z9 z10 z11 z12 z13;obtain⟨z0,z1,z2,z3,z4,z5,z6,z7,z8,z9,z10,z11,z12,z13⟩:=(aa.bK HB5).1;have HE5:=J (HEk wc Hb5);have hgwc:w.heap.size+1<=wc.heap.size:=by have:=(Hown5.lt w.heap.size rfl).2;omega
     go_wp2_with fail;apply HE5.mono;rintro e w6⟨v6,rfl,hcs,hb6⟩;obtain⟨A6,c6,rfl⟩:=cI hcs;rw[Hcl.o]at hcs;have Hcs6:=J (dZ hcs hgwc);have hcl:(ls.flatMap Ll.cs++[(⟨key,child,⟨ac,s0,n0,x0,s1,n1,x1,s2,n2,x2⟩⟩:Cl)]).length=(cR pn).length:=congrArg length Hcl;rw[hcl];have Hown6:=J (bS Hown5 hb6);have Hb6:=ay Hb5 hb6;have HBk2:=J (HBk (by rw[Hdm.o];omega));clear hcs hb6 hcl z0 z1 z2 z3 z4 z5 z6 z7 z8 z9 z10 z11 z12 z13 HB5 HEk HE5 hgwc;obtain⟨q,hq⟩:=e_ ((cR pn).length)
     have Hq:=J hq;rw[hq]at Hcs6⊢;have hq6:q<=4001:=by rw[<-hq];exact Hc
     clear hq;go_wp2_with fail
     go_loopw [42] (λv42 wj=>∃(j:Nat)(M':LN),j<=q/\v42 = N j/\wj.ownsRow w.heap.size 3 1 (U (some ⟨w.heap.size,0,none⟩) n n) n (an M')/\fQ nx k j (nds.map aK) M'/\Over (w.heap.size+1) w6 wj/\E w wj) (λv42 _=>q-(intOf v42).toNat)
     case atStart=>exact⟨0,M,av _,rfl,Hown6,Hcnt,⟨ae _,λ_ _ _=>rfl⟩,Hb6⟩
     .obtain⟨j,M',hj,rfl,hownj,hcntj,hovj,hbj⟩:=hrel;have Hownj:=J hownj;have Hcntj:=J hcntj;have Hovj:=J hovj;have Hbj:=J hbj;clear hownj hcntj hovj hbj;by_cases hjl:j<q
      .have hjc:j<(cR pn).length:=by rw[Hq.o];exact hjl
       obtain⟨bc,oc,hAc,hbc,e0,e1,e2,e3,e4,e5,e6,e7,e8,e9,e10,e11⟩:=nV (dF (Di Hcs6 Hovj)) j hjc;have hch:=HBk2 _ (gM hjc);have Hcj:Kp ((cR pn)[j]? = some ((cR pn)[j]'hjc)):=gE hjc;generalize((cR pn)[j]'hjc)=cc at*;obtain⟨ck,cch,⟨ca,s0c,n0c,x0c,s1c,n1c,x1c,s2c,n2c,x2c⟩⟩:=cc;dsimp only at e0 e1 e2 e3 e4 e5 e6 e7 e8 e9 e10 e11 hch;have hlM:M'.length=n:=Hcntj.len.trans HPn;obtain⟨x,hx⟩:∃x,M'[cch]? = some x:=⟨_,gE (by rw[hlM];omega)⟩
       have hxb:x<=1000000*4001+4001:=by
        have h1:=Hcntj.le x (mem_of_getElem? hx);have h2:k*4001<=1000000*4001:=Nat.mul_le_mul_right _ o_;omega
       have Hst:=J (fQ.step Hcntj HPk Hcj hx);have hxv:(an M')[cch]? = some (N x):=by unfold an;rw[getElem?_map,hx];rfl
       have hxl:cch<(an M').length:=(aO hxv).1;have hb8:=(ah wr.heap.size wr).alloc (ae _) (.cells zC 155);have HZ8:=J (aa.new wr 155 zC);have Hb9:=J (fq (ae _) [N ck,N cch,I ca,I s0c,I n0c,I x0c,I s1c,I n1c,I x1c,I s2c,I n2c,I x2c] _ 0 hb8);have HB9:Kp (aa (aH (wr.alloc (.cells zC 155)) wr.heap.size 0 [N ck,N cch,I ca,I s0c,I n0c,I x0c,I s1c,I n1c,I x1c,I s2c,I n2c,I x2c]) wr.heap.size 155 #[N ck,N cch,I ca,I s0c,I n0c,I x0c,I s1c,I n1c,I x1c,I s2c,I n2c,I x2c]):=dS HZ8 [N ck,N cch,I ca,I s0c,I n0c,I x0c,I s1c,I n1c,I x1c,I s2c,I n2c,I x2c] rfl;obtain⟨⟨r0,r1,r2,r3,r4,r5,r6,r7,r8,r9,r10,r11⟩,⟨f0,f1,f2,f3,f4,f5,f6,f7,f8,f9,f10,f11⟩⟩:=aa.gu HZ8;generalize hW8:wr.alloc (.cells zC 155)=W8 at*;generalize hW9:aH W8 wr.heap.size 0 _=W9 at*;simp only[aH,Nat.zero_add,Nat.reduceAdd]at hW9;have hz1:C W9 wr.heap.size 1 (N cch):=HB9.cell 1;have Hown9:=J (bS Hownj Hb9);obtain⟨m0,m1⟩:=MJ Hown9 hxv;have j0:(0:Int)<=(j:Int):=o_
       have j1:(j:Int)<(q:Int):=o_
       have j2:(0:Int)<=(cch:Int):=o_
       have j3:(cch:Int)<(n:Int):=o_
       have hwx:IntKind.i64.wrap ((x:Int)+1)=(x:Int)+1:=IntWalk.i64_in _ o_;have Hov9:Kp (Over (w.heap.size+1) w6 (W9.setCell ⟨w.heap.size,cch,none⟩ (I ((x:Int)+1)))):=(Hovj.trans (Over.under Hb9)).trans ⟨s_,λi hi _=>Below.heap_setCell W9 ⟨w.heap.size,cch,none⟩ _ i o_⟩;have Hbw9:Kp (E w (W9.setCell ⟨w.heap.size,cch,none⟩ (I ((x:Int)+1)))):=(Hbj.trans (Hb9.mono Hbj.size)).setCell (p:=⟨w.heap.size,cch,none⟩) (ae _) _
       have HownN:=J (show(W9.setCell ⟨w.heap.size,cch,none⟩ (I ((x:Int)+1))).ownsRow w.heap.size 3 1 (U (some ⟨w.heap.size,0,none⟩) n n) n (an (M'.set cch (x+1))) by
        have:=dG Hown9 hxl (I ((x+1:Nat):Int));rw[Lk]at this
        exact this)
       clear hx hxv hxl hlM hxb hb8 HZ8 HB9;rw[hAc];go_wp2_with fail;exact⟨⟨j+1,M'.set cch (x+1),o_,by go_num,HownN,Hst,Hov9,Hbw9⟩,by simp[intOf];omega⟩
      .obtain rfl:j=q:=o_
       have HcN:=J (fQ.next Hcntj HPk Hq hq6);go_wp2_with fail;exact⟨⟨k+1,M',o_,by go_num,Hownj,HcN,Hbj⟩,by simp[intOf];omega⟩
   .obtain rfl:k=n:=o_
    obtain⟨mm,hmm⟩:∃mm,k=mm+1:=⟨k-1,o_⟩
    have hkd:mm<nds.length:=by rw[Hn.o];omega
    have hat:=(Hh.below Hbe).more Hbe.size;obtain⟨bn,on,hA,hbn,d0,drest⟩:=pV hat.row mm hkd;have hdim:(nds[mm]'hkd).aj=0:=Hw.top (aK (nds[mm]'hkd)) (by rw[HPn.o,hmm,Nat.add_sub_cancel,getElem?_map,gE hkd];rfl);rw[hdim]at d0;have d0':C wr bn (on+mm*14) (I 0):=d0;have hcn:fQ nx (nds.map aK).length 0 (nds.map aK) M:=by rw[HPn.o];exact Hcnt
    have hMd:=fQ.done Hw hcn;rw[HPn.o,hmm,Nat.add_sub_cancel]at hMd;have hMt:(M.take mm).length=mm:=by rw[length_take,Hcnt.len,HPn.o];omega
    have HIk:Kp (∀W,E wr W->Calls prog 149 #[U (some ⟨w.heap.size,0,none⟩) mm k,I 0] W λe w'=>e = .returned (I (-1))/\w'=W):=(λW hW=>by
     have h1:=BF (some ⟨w.heap.size,0,none⟩) k (M.take mm) W o_ (by
      have h2:=(dF (bS Hown hW)).take mm;unfold an at*;rw[List.map_take]
      exact h2) hMd
     rw[hMt]at h1
     exact h1)
    have HTk:Kp (∀W,E wr W->Calls prog 46 #[Y ga 0] W λe w'=>e = .returned (N mm)/\w'=W):=(λW hW=>by
     have h1:=HTop W (Hbe.trans (hW.mono Hbe.size));rw[show(k:Int)-1=((mm:Nat):Int) by omega]at h1
     exact h1)
    have i0':(0:Int)<=(mm:Int):=o_
    have i1':(mm:Int)<(k:Int):=o_
    have i2':(mm:Int)<=(k:Int):=o_
    clear drest hMd hMt hcn hdim hat d0 hmm hkd;rw[hA]at a2;rw[hA];go_upto_region 16 with fail
    apply wp_region_noPanic;refine br (t:=99) (S:=(λw'=>C w' ga 2 (U (some ⟨bn,on,none⟩) k cn)/\C w' bn (on+mm*14) (I 0))) k_ ⟨a2,d0'⟩ (λhHeld=> ?_);apply tD 0 1 2 3 hHeld;apply tk 4 hHeld;refine oT 5 λK hK=>?_
    go_simp
    apply(HTk wr.drew (ah _ _).drew).mono;rintro e wc⟨rfl,rfl⟩;refine oK hK ?_ λhHeld2=>?_
    .exact⟨a2,d0'⟩
    replace hHeld:=hHeld2;clear hK K hHeld2;apply tD 6 7 8 9 hHeld;apply eR 10 11 12 hHeld;refine oT 13 λK hK=>?_
    go_simp
    apply(HTk wr.drew (ah _ _).drew).mono;rintro e wc⟨rfl,rfl⟩;refine oK hK ?_ λhHeld2=>?_
    .exact⟨a2,d0'⟩
    replace hHeld:=hHeld2;clear hK K hHeld2;apply tk 14 hHeld;refine oT 15 λK hK=>?_
    go_simp
    apply(HIk wr.drew (ah _ _).drew).mono;rintro e wc⟨rfl,rfl⟩;refine oK hK ?_ λhHeld2=>?_
    .exact⟨a2,d0'⟩
    replace hHeld:=hHeld2;clear hK K hHeld2;apply eR 16 17 18 hHeld;refine bQ k_ ?_ _
    try clear hHeld
    apply NoPanic.normal;go_wp2_with fail;go_ret;exact⟨rfl,Hbe.drew⟩
end Tc
end Go.Proofs.YtibjlpkpljnicaaGreatDoor
