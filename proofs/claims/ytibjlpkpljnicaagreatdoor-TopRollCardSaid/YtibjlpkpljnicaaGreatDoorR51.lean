/- Parts. -/
import Derived.Test.YtibjlpkpljnicaaGreatDoorR28
import Derived.Test.YtibjlpkpljnicaaGreatDoorR46
import Derived.Test.YtibjlpkpljnicaaGreatDoorR50
set_option maxRecDepth 100000
set_option maxHeartbeats 8000000
set_option linter.all false
namespace Go.Proofs.YtibjlpkpljnicaaGreatDoor
namespace Tc
open List Go.RowKit Base Crc Go.Maps Go.WideMaps Go.Proofs.Tryz
def so(s:aN)(rows:List Rw):Prop:=rows.length<=64/\∀ps,jk s rows ps->∀x∈ps,kO s x.1/\GA s.aC.length 1 x.2
def FF(s:aN)(rows:List Rw)(w:World)(e:Ending)(w':World):Prop:=∃(A:OA)(c:Nat)(l:List Fa),e = .returned (.tuple #[U A l.length c,I 0])/\eO s rows l/\bM w' w'.heap.size A l/\E w w'
def JT{s A rows c w}(h:cQ w w.heap.size s)(y:fT w w.heap.size A rows)(p:iC s rows)(d:so s rows) :
 Calls prog 33 #[.agg (aG s),U A rows.length c] w (FF s rows w):=by
 apply(JS s A _ c w h y p d.1).mono;rintro e w'⟨ps,D,h1,h2,n,f,x⟩;have m:ps.length<=64:=by
  obtain⟨l,z,rfl⟩:=h1;rw[kH,z.1];exact d.1
 obtain⟨r,q⟩:=Ja m (d.2 _ h1) h2 n;unfold qF at f;rw[q]at f;obtain⟨v,l,B,g,b,_⟩:=f;obtain⟨u,C,rfl⟩:=b.form;exact⟨u,C,l,B,BN p.bO h1 m (d.2 _ h1) h2 n q g,b.jW,x⟩
def FA(s:aN)(fs:List Fa)(w:World)(e:Ending)(w':World):Prop:=E w w'/\((dv s fs 20000=none/\e = .returned (.tuple #[.pointer none,I 7])) \/
 ∃(b:List aQ)(ga:Nat)(F:Nat->Prop),e = .returned (.tuple #[Y ga 0,I 0])/\dv s fs 20000=some b/\dr ga (s.af.map aW) s.aC.length b none [] w' F/\∀k,F k->w.heap.size<=k)
def GF{s Af cf fs w}(h:cQ w w.heap.size s)(d:bM w w.heap.size Af fs)(v:cJ s)(m:iE s fs) :
 Calls prog 34 #[.agg (aG s),I 20000,U Af fs.length cf] w (FA s fs w):=by
 apply(GG s 20000 _ _ _ w h d (AE v m d_)).mono;rintro e w'⟨h1,h2⟩;cases b:dv s fs 20000 with
 |none=>exact⟨(h2 b).2,.inl ⟨b,(h2 b).1⟩⟩
 |some p=>
  obtain⟨ga,A,D,c,H,ys,g,rfl,C,r,q,z,u,E,G,x,y,F⟩:=h1 p b;refine⟨E,.inr ⟨p,_,_,rfl,b,⟨A,D,c,H,_,_,g,C,r,q,z,u,⟨.inl rfl,λf d=>r_⟩,rfl⟩,λk hk=> ?_⟩⟩;obtain rfl|hk|hk|hk:=hk
  . omega
  .grind
  .obtain hk|⟨n,B,hk⟩:=hk
   .grind
   grind
  .obtain⟨_,_,hk⟩|⟨f,d,_⟩:=hk
   .grind
   .cases d
def qC(s:aN)(rows:List Rw)(w:World)(e:Ending)(w':World):Prop:=E w w' /\
 ((e = .returned (.tuple #[.pointer none,.pointer none,.bool true])/\∀fs d,eO s rows fs->dv s fs 20000=some d->eJ s.af.length s.aC.length 49200 d d.length=none) \/
 ∃(fs:List Fa)(d:List aQ)(S:LN)(b:ByteArray)(ga:Nat)(c:dd)(f F:Nat->Prop),e = .returned (.tuple #[Y ga 0,Y c.gp 0,.bool true])/\eO s rows fs/\dv s fs 20000=some d/\eJ s.af.length s.aC.length 49200 d d.length=some (S,b)/\c.Ok/\c.b=bl b/\c.rt=(iu S:Nat) /\
  dr ga (s.af.map aW) s.aC.length d none [] w' f/\eU c w' F/\(∀k,f k->w.heap.size<=k/\¬F k)/\∀k,F k->w.heap.size<=k)
def AY s A rows c w(h:cQ w w.heap.size s)(hr:fT w w.heap.size A rows)(ho:iC s rows)(hg:so s rows) :
 Calls prog 11 #[.agg (aG s),U A rows.length c] w (qC s rows w):=by
 have z:=(ah _ w).alloc (ae _) (.cells (aG s) 25);have D:=J (aa.new w 25 (aG s));have C:=J z;have u:=J (λW(I:E w W)=>(h.below I).more I.size);have y:=J (λW I=>JT (c:=c) (u W I) ((hr.below I).more I.size) ho hg);have T:=J (λAf cf fs W I L(G:eO s rows fs)=>GF (Af:=Af) (cf:=cf) (u W I) L G.bO G.ok);have Z:Kp (∀w',(∀fs f,eO s _ _->dv s _ _=some f->eJ _ _ _ f _=none)->E w _->qC s rows w _ w'):=λw' h1 h2=>⟨h2,.inl ⟨rfl,h1⟩⟩;have e9:Kp (∀w' fs f S b ga(c:dd) r F gp,gp=c.gp->eO s _ _->dv s _ _=some f->eJ _ _ _ f _=some _->c.Ok->c.b=bl b->c.rt=(iu S)->dr _ _ _ f _ _ _ r->eU c _ F->(∀k,r k->w.heap.size<=k/\¬F k)->(∀k,F k->w.heap.size<=k)->E w _->qC s rows w (.returned (.tuple #[Y ga 0,Y _ 0,.bool true])) w'):=λw' fs f S b ga c r F gp e h1 h2 h3 M V L G h8 u d8 O=>⟨O,.inr ⟨fs,f,S,b,ga,c,r,F,o_,h1,h2,h3,M,V,L,G,h8,u,d8⟩⟩;generalize qC s _ w=Q at*;clear h hr ho hg z;unfold aG at D C y T⊢;obtain⟨z,L,_,_⟩:=D.two;generalize M:w.alloc _=O at*;have G:=J (y O C);go_in;go_wp2_with fail;apply G.mono;clear M z L y G;rintro e w1⟨Al,cl,l,rfl,G,M,y⟩;have p:=ay C y;have c9:=bu D y;have O:=J G;have V:=J (T _ cl l _ p M G);clear y G M D C T;obtain⟨z,L,_,_⟩:=c9.two;go_wp2_with fail;apply V.mono;clear z L V;rintro e L⟨y,⟨M,rfl⟩|⟨f,ga,r,rfl,G,z,D⟩⟩
 .have Hf:=J (Z L (λfs f h1 h2=>by
   rw[AW (Bb h1 O),M]at h2;cases h2) (p.trans (y.mono p.size)))
  go_wp2;go_ret3;exact Hf
 have c8:=J G;have L:=z.at_;have V:(s.af.map aW).length=s.af.length:=o_;have B:=ay p y;have n:=J (Qi L (wV O.bO O.ok G) (wW O.bO O.ok G d_ d_).1);rw[V]at n;have M:=J z;have d7:=J (λk hk=>aF p.size (D k hk));clear G z L V y D p c9;cases g:eJ s.af.length s.aC.length 49200 f f.length with
 |none=>
  rw[show kL _ _ _ f=(.empty,0,7) by unfold kL;rw[g]]at n;have V:=J g;clear g;go_wp2_with fail;apply n.mono;rintro e D⟨rfl,z⟩;have Hf:=J (Z D (λfs y h1 h2=>by
   rw[AW (Bb h1 O),c8]at h2;injection h2 with h2;subst h2;exact V) (B.trans (z.mono B.size)))
  go_wp2;go_ret3;exact Hf
 |some st=>
  obtain⟨S,b⟩:=st;rw[show kL _ _ _ f=(b,iu S,0) by unfold kL;rw[g]]at n;have y:=zi _ o_ _ g;have G:=(uH _ o_ _ g).2.1;dsimp only at y G;have L:(iu S)<max ((bl b).length:Int) 1:=by
   have:iu S=0\/iu S<b.size:=by
    unfold iu;cases Z:S.getLast? with
    |none=>simp
    |some x=>exact .inr (y.lt x (mem_of_getLast? Z))
   have h0:(bl b).length=b.size:=rfl;omega
  obtain⟨V,e5,b0⟩:=j3_ g G L;obtain⟨tp,X⟩:=e_ (iu S);have d5:=J X;rw[X]at n b0;clear g y G L X;go_wp2_with fail;apply n.mono;rintro e D⟨rfl,z⟩;have b2:=ay B z;have y:=J (M.below z);have G:=Dv.Lu 500 D d_ d_;clear z n M B;go_wp2_with fail;apply G.mono;clear G;rintro e w4⟨d,gs,rfl,hd,z⟩;have Hd:=J hd;have c3:=ay b2 z;have H:=J (y.below z);have M:=J (λk hk=>(dr.ok _ _ _ _ _ _).lt D r y k hk);have G:=J (rG hd (⟨rfl,rfl,rfl,rfl,d_,rfl⟩) rfl);clear hd z y;go_wp2_with fail;apply G.mono;clear G;rintro e y⟨gp,gr,gw,gc,gt,z,rfl,hN,u,z,G,d0⟩;have c4:∀k,nD _ _ _ _ _ k->¬(k=d\/k=gs):=λk hk e=>by
   have h1:=G k hk;have h2:=(Hd.own k e).2;omega
  obtain⟨L,R,Z⟩:=j3_ (NQ (b:=bl b) hN c4 z u e5 o_ b0) G d0;clear hN u z G d0 c4;rw[show str _=b from rfl]at L;go_wp2_with fail;apply L.mono;clear L;rintro e z⟨rfl,cc,F,G,e2,L,ok,hI,m⟩;have z3:=b2.size;have z4:=c3.size;have z5:=Z.size;have q:∀k,(k=d\/k=gs)->D.heap.size<=k:=λk hk=>(Hd.own k hk).1;have u:∀k,F k->D.heap.size<=k:=λk hk=>by
   obtain(h1|h1)|⟨h1,_⟩:=m.sub k hk
   .exact q k h1
   .exact aF (Nat.le_of_lt_succ (Nat.lt_succ_of_le (by have:=(Hd.own d (.inl rfl)).2;have:=(Hd.own d (.inl rfl)).1;have:=R k h1;omega))) (ae _)
   .have:=(Hd.own d (.inl rfl));omega
  have v:=(dr.ok _ _ _ _ _ _).same _ y r H z5 λk hk=>Z.block k ((dr.ok _ _ _ _ _ _).lt _ r H k hk) (λe=>by have:=M k hk;have:=q k (.inl e);omega);have D:∀k,r k->¬((k=d\/k=gs)\/nD _ _ _ _ _ k):=λk hk e=>by
   have h1:=M k hk;obtain e|e:=e
   .have:=q k e;omega
   .have:=R k e;have:=(Hd.own d (.inl rfl));omega
  have N:=(dr.ok _ _ _ _ _ _).same y z r v m.ax.size λk hk=>m.still ((dr.ok _ _ _ _ _ _).lt y r v k hk) (D k hk);have b9:E w y:=c3.trans (Z.toBelow (λk e=>by have:=q k (.inl e);omega) o_);have y:E w z:=b9.trans (m.ax.toBelow (λk e=>by
   obtain e|e:=e
   .have:=q k e;omega
   .have:=R k e;omega) o_)
  have Hf:=J (e9 z l f S b _ _ r F _ G.symm O c8 V ok e2 (by rw[L,d5]) N hI (λk hk=>⟨d7 k hk,λe=>by have:=u k e;have:=M k hk;omega⟩) (λk hk=>r_) y);clear G e2 L ok hI m z3 z4 z5 q u v D N b9 y;go_wp2;go_ret3;exact Hf
end Tc
namespace Tc
open List Go.RowKit Base Crc Go.Proofs.Tryz
def tz{w B n c k A xs}(h:cV w B (U A n c) xs)(hk:cz A xs k):B<=k:=by
 obtain⟨off,e,b⟩|⟨f,d,off,e,b⟩:=hk
 .exact(h.1.lt k (by rw[e];rfl)).1
 .exact h.2.2 f d k _ e b
def yI{w w' F A d}(h:Row w w.heap.size A d)(ht:aq F w w')(g:∀k,cE A d k->¬F k):Row w' w'.heap.size A d:=by
 obtain h|⟨b,off,rfl,e,f⟩:=h
 .exact .inl h
 .by_cases c:d=[]
  .exact .inl c
  .exact .inr ⟨b,_,rfl,bh e ht.size,λj v m=>(bF (ht.block b e (g b ⟨c,_,rfl⟩))).trans (f j v m)⟩
def Nw B:so (ed B) (ka B):=⟨(show 3<=64 by decide),λps h=>by
 rw[um (qf B) h (ud B)];exact Dr B⟩
def Ad{s rows g fs ys d S b}{c:dd}{gs cx Ax}(h:eO s rows fs)(q:rows.length<=40)(f:dv s fs 20000=some d)(p:iT s g)(e:ys.map Fa.keys=s.af.map aW)(m:eJ s.af.length s.aC.length 49200 d d.length=some (S,b))(ok:c.Ok)(r:c.b=bl b)(ht:c.rt=(iu S:Nat)):∃st,jg (iq (fi c Ax ys) 48 (.agg #[Y c.gp 0,U Ax ys.length cx,I s.aC.length]) gs c.top) gs ys s g fs st s.aC.length c.top (dV S):=by
 obtain⟨st,h1,h2,n⟩:=h.state f;exact⟨_,Gm h q f p e h1 h2 n m ok r ht _ _ _⟩
def Bt{s rows b fs ps r}(h:eO s rows fs)(d:rows.length<=40)(g:iT s b)(e:jk s rows ps)(ht:ev (gG fs (s.af.zip b)) r):ev (dH ps (s.af.zip b)) r:=
 Jm h e (h.dw d) (λi x hx=>by
  obtain⟨c,f⟩:=qy hx;rw[Nat.zero_add];exact⟨c,g.ok i _ _ c f⟩) ht
def OD w:Calls prog 8 #[] w (cy (λr=>r=true) w):=by
 have HR:=J (λr w' h u=>cy.mono (P:=λr=>r=true) (w:=w) (r:=r) (w':=w') h u);have V:=J (Nt w);generalize cy (λr=>r=true) w=Q at*;obtain⟨B,G⟩:=e_ w.heap.size;go_in;go_wp2_with fail;apply V.mono;rintro e D⟨rfl,Y,z,E⟩;rw[G]at Y z;have u:=J (λW h y=>(show Calls _ _ #[.agg _,U _ 3 3] W _ from AY _ (some ⟨B+16,0,none⟩) (ka B) 3 W h y (Dq B) (Nw B)));have c8:=J (qf B);have c9:Kp ((ed B).af.length=2):=rfl;have O:Kp (∀fs r,eO _ (ka B) _->ev (gG fs ((ed B).af.zip (replicate 2 _))) r->r=[([],⟨3,4,_,5,0,0,0,0,0,0⟩)]):=λfs r h1 h2=>QL RE (cons_ne_nil _ _) NA (Bt h1 (show 3<=40 by decide) (DE (qf B)) (ud B) h2);have H:Kp (¬ ∀fs y,eO _ _ fs->dv _ fs _=some y->eJ _ _ _ y y.length=none):=(λh=>by
  obtain⟨y,S,b,h1,h2⟩:=NC B;rw[h _ _ (Nu B) h1]at h2;cases h2)
 have e0:Kp (iT _ (replicate 2 _)):=DE (qf B);have a7:Kp ((ka B).length<=40):=(show 3<=40 by decide);rw[G];obtain⟨s,Z⟩:=e_ (ed B);obtain⟨rows,G⟩:=e_ (ka B);rw[Z]at Y u c8 c9 O H e0⊢;rw[G]at z u O H a7;unfold aG at u⊢;have n:=(ah _ D).alloc (ae _) (.cells (aG s) 25);have T:=J (aa.new D 25 (aG s));unfold aG at n T;have L:=J (E.trans (n.mono E.size));have b5:=J ((Y.below n).more n.size);have i5:=J ((z.below n).more n.size);generalize h7:D.alloc _=W1 at*;have e3:=J (u _ b5 i5);generalize(some _:OA)=Ar at*;have a0:=J L;have d9:Kp _:=T.lt;clear n Y z E V u Z G;obtain⟨V,Z,_,_⟩:=T.two;go_wp2_with fail;apply e3.mono;clear h7 e3 V Z;rintro e G⟨u,⟨rfl,I⟩|⟨fs,y,S,b,ga,c,y,F,rfl,e6,g3,d2,ok,e8,g0,_,g8,_,hF⟩⟩
 . trivial
 have i9:=bu T u;have h9:=J u;have g5:=J e6;have i8:=J g3;have i0:=J d2;have k0:=J ok;have g6:=J (And.intro e8 g0);have i4:=J g8;have HF:=J hF;have y:=J (λW(hW:E _ W)=>DK s W ((b5.below hW).more hW.size) c8);unfold aG at y;obtain⟨gp,z⟩:=e_ c.gp;rw[z];have f7:=J z;clear u e6 g3 d2 ok e8 g0 g8 hF z T L;go_upto_region 5 with fail;have Hd:Kp (E _ _):=h9.drew;have u:=J (i4.same (w':=G.drew) λk hk=>rfl);obtain⟨V,Z,_,_⟩:=(aa.two (show aa G.drew _ _ _ from i9));have b1:=J (λW=>QM s W c9);unfold aG at b1;apply wp_region_noPanic;refine br (t:=99) (S:=(λw'=>C w' _ 0 _/\C w' _ 1 _)) k_ ⟨V,Z⟩ (λd=> ?_);generalize G.drew=wd at*;apply tD 0 1 4 5 d;apply tk 7 d;refine oT 2 (λK hK=> ?_);go_simp;apply(y _ Hd).mono;rintro e w3⟨Ax,cx,ys,rfl,V,Z,L⟩;have G:=J V;have e7:=J Z;have N:=J L;clear V Z L;try go_simp
 refine oK hK ?_ (λf=> ?_)
 .exact⟨al N d.1,al N d.2⟩
 clear hK K d;have d:=f;clear f;have g9:=J (Hd.trans (N.mono Hd.size));have L:Kp (fi c _ _ _ (λk=>F k\/cz _ _ k)):=⟨F,u.same λk hk=>N.block k (u.lt hk),G.at_,λk hk hf=>by have h1:=tz G hk;have h2:=u.lt hf;omega,rfl⟩;have u:=J (Ex (cx:=cx) (m:=s.aC.length) L);rw[f7]at u;refine oT 3 (λK hK=> ?_);go_simp;apply u.mono;rintro e V⟨gs,rfl,f8,u,L⟩;have e4:=J f8;have Z:=J u;have h8:=J L;clear f8 u L;try go_simp
 refine oK hK ?_ (λf=> ?_)
 .exact⟨al Z d.1,al Z d.2⟩
 clear hK K d;have d:=f;clear f;have u:=J (g9.trans (Z.mono g9.size));refine oT 6 (λK hK=> ?_);go_simp;apply(y V u).mono;rintro e w5⟨y,i3,R,rfl,b0,a9,f2⟩;have L:=J b0;have d3:=J a9;have x:=J f2;clear b0 a9 f2;try go_simp
 refine oK hK ?_ (λf=> ?_)
 .exact⟨al x d.1,al x d.2⟩
 clear hK K d;have d:=f;clear f;have g4:=J (u.trans (x.mono u.size));refine oT 8 (λK hK=> ?_);go_simp;apply(b1 _).mono;rintro e w6⟨Aq,cq,rfl,f5,u,f6⟩;have k1:=J f5;have k2:=J u;have v:=J f6;clear f5 u f6;try go_simp
 refine oK hK ?_ (λf=> ?_)
 .exact⟨al v d.1,al v d.2⟩
 clear hK K d;have d:=f;clear f;have g7:=J (g4.trans (v.mono g4.size));obtain⟨st,q⟩:=Ad (gs:=gs) (cx:=cx) (Ax:=Ax) g5 a7 i8 e0 e7 i0 k0 g6.1 g6.2;rw[f7]at q;have X:=q.zf y d3;have u:=q.src.lt V _ e4;have d6:=q.src.same V _ _ e4 (aF x.size v.size) λk hk=>(v.block k (bh (u k hk) x.size)).trans (x.block k (u k hk));have m7:=Hd.size;have m6:=N.size;have m4:=Z.size;have Z:=x.size;have i2:=v.size;have c3:∀k,cz y R k->V.heap.size<=k/\k<w5.heap.size:=λk hk=>⟨tz L hk,L.at_.bU hk⟩;have V:∀k,((k=gs\/(F k\/cz _ _ k))\/cz y R k)->W1.heap.size<=k/\k<w5.heap.size:=λk hk=>by
  obtain h|h:=hk
  .refine⟨?_,bh (u k h) Z⟩;obtain h|h|h:=h
   .have:=h8.o;omega
   .exact HF k h
   .have:=tz G h;omega
  grind
 have Z:=(show wk _ y R _ (λk=>(k=gs\/(F k\/cz _ _ k))\/cz y R k)from⟨_,d6,(L.at_.below v).more i2,λk hk hf=>r_,rfl⟩);have G:=J (wE X y _ i3 cq _ _ Z (λw F⟨_,_,h,_⟩=>h) (λW hW=>(b5.below (g7.trans (hW.toBelow (λk hk=>(V k hk).1) o_))).more (by have:=hW.size;omega)) (λW hW=>⟨yI k1.row hW λk hk hf=>by have h1:=k2 k hk;grind,λp L=>by
  rw[eq_of_mem_replicate L];exact⟨.inl rfl,av _⟩⟩))
 have b8:=J (λr=>O _ r g5);unfold aG at G;rw[length_replicate]at G;have I:∀k,((k=gs\/(F k\/cz _ _ k))\/cz y R k)->D.heap.size≠k:=λk hk e=>by
  have:=(V k hk).1;have:=d9.o;omega
 have O:D.heap.size<w6.heap.size:=by have:=d9.o;omega
 clear q X u d6 c3 Z;refine oT 9 (λK hK=> ?_);go_simp;apply G.mono;rintro e L⟨u,l7,u,ps,u,rfl,y,z,⟨d7,_⟩,_,_,G⟩;have d1:=J y;have d5:=J z;have Z:=J d7;have u:=J G;clear y z d7 G;try go_simp
 refine oK hK ?_ (λf=> ?_)
 .exact⟨(bF (u.still O (λh=>I _ h rfl))).trans d.1,(bF (u.still O (λh=>I _ h rfl))).trans d.2⟩
 clear hK K d;have d:=f;clear f;apply tD 10 11 12 13 d;apply tk 14 d;refine bQ k_ ?_ _;try clear d
 apply NoPanic.normal;have z:E w L:=(a0.trans (g7.mono a0.size)).trans (u.ax.toBelow (λk hk=>by have h1:=(V k hk).1;have h2:=a0.size;omega) (by have h2:=a0.size;omega));have D:=J (HR _ L rfl z);have h0:=b8 _ d1;have u:=d5.o;rw[h0]at u;obtain⟨g,rfl⟩:∃g,l7=[g]:=by
  have y:=congrArg length u;rw[lM,lM]at y;exact length_eq_one_iff.1 y
 have y:g.ag=⟨3,4,_,5,0,0,0,0,0,0⟩:=congrArg Prod.snd (List.cons.inj u).1;obtain⟨E,E,rfl,_,_,x1,x2,_⟩:=Z.cells 0 Nat.zero_lt_one;rw[show([g])[0]=g from rfl,y]at x1 x2;simp at x1 x2;clear h0 u y I V z Z;go_wp2;exact D
end Tc
namespace Tc
open List Go.RowKit Base Go.Proofs.Tryz
def PF{d}(hd:da d){p}(h:gz d p):p.set.length<=1000:=by
 obtain⟨n,_⟩|⟨_,q⟩|⟨_,m,g⟩:=h.kind
 .rw[h.free n];exact av _
 .grind
 .have f:p.set.Nodup:=by
   rw[nodup_iff_pairwise_ne,pairwise_iff_getElem];intro i j hi b c e;have h1:=m.less hi b;rw[e,m.less,decide_eq_true c]at h1;simp at h1
  have h1:=xY _ (bE d p.t) f λx hx=>r_
  have h2:=(hd.ai _ h.t).n2;have e:(bE d p.t)=(d.ai[p.t]'h.t).ar:=by unfold bE;rw[gE h.t];rfl
  grind
def Nr{d p}(h:lD d p):qh p=oG (nE p):=congrArg Array.toList h.pk
def Ns{w B A l}(h:jt w B A l)(c:∀p∈l,∃d,da d/\lD d p):fH w B A (l.map nE):=by
 refine⟨?_,λp b=> ?_⟩
 .have e:(l.map nE).flatMap oG=l.flatMap qh:=by
   rw[flatMap_map];exact Bk λp b=>by
    obtain⟨d,_,h2⟩:=c p b;exact(Nr h2).symm
  rw[e];exact h.row
 .obtain⟨q,f,rfl⟩:=mem_map.1 b;obtain⟨d,h1,h2⟩:=c q f;exact⟨(h.each q f).set,aF (PF h1 h2.ok) d_⟩
def O9{s l}(h:sC s l):iT s (l.map nE)/\∀p∈l,∃d,da d/\lD d p:=by
 obtain⟨h1,h2,c⟩:=h;refine⟨⟨o_,λi d p hd b=> ?_⟩,λp b=> ?_⟩
 .rw[getElem?_map]at b;obtain⟨q,e,rfl⟩:=Option.map_eq_some_iff.1 b;exact(c i d q hd e).ok
 .obtain⟨i,hi,rfl⟩:=getElem_of_mem b;have hd:i<s.af.length:=o_;exact⟨_,h1.af i hd,c i _ _ (gE hd) (gE hi)⟩
def IW{s rows c}(g:iC s rows)(u:rows.length<=40)(e:∀r∈rows,∀x∈r.cj,fit x)(m:kn s rows rows.length c)(q:∀f∈c,ky f.ag):so s rows/\uQ s c/\jk s rows (aw c):=by
 have b:jk s _ _:=⟨c,m,rfl⟩;obtain⟨g1,g2⟩:=E8 g e b λx hx=>by
  obtain⟨f,p,rfl⟩:=mem_map.1 hx;exact q f p
 refine⟨⟨o_,λps h=>by rw[um g.bO h b];omega⟩,⟨by rw[<-kH];omega,λx hx=>(g2 x hx).2,λf p=> ?_⟩,b⟩;have hk:=(g2 _ (mem_map_of_mem p)).1;refine⟨hk.len,λi d k hd n=> ?_⟩;obtain⟨h1,rfl⟩:=aO hd;obtain⟨h2,rfl⟩:=aO n;have h0:0<(s.af[i]'h1).ai.length:=(g.bO.af i h1).n1;have:=hk.each i h1 h2 h0;unfold bE;rw[gE h0];exact this
def xS:∀(L:List (au×Pk))(ks:LN),(cX L ks).length<=L.length
 | [],_=>ae _
 |x::L,ks=>by
  rw[cX];split
  .exact Nat.succ_le_succ (xS L _)
  .exact Nat.le_succ_of_le (xS L _)
def xh{w w' F A l}(h:iR w w.heap.size A l)(ht:aq F w w')(b:∀k,pM A l k->¬F k):iR w' w'.heap.size A l:=
 ⟨yI h.row ht λk hk=>b k (.inl hk),λg c=>yI (h.each g c) ht λk hk=>b k (.inr ⟨g,c,hk⟩)⟩
end Tc
namespace Tc
open List Go.RowKit Base
def bare(p:Pk):Pk:={ p with A:=none,c:=0 }
def a0d(L:List (au×Pk)):List (au×Pk):=L.map λx=>(x.1,bare x.2)
def aaO:∀(L:List (au×Pk))(a:Nat)(k:LN),eo (a0d L) a k=eo L a k
 | [],_,_=>rfl
 |(d,p)::L,a,k=>by
  show(dY d (bare p) _&&eo (a0d L) (a+1) k)=_;rw[aaO];rfl
def aaM:∀(L:List (au×Pk))(a:Nat)(k:LN),dO (a0d L) a k=dO L a k
 | [],_,_=>rfl
 |(d,p)::L,a,k=>by
  show(if(bare p).g then [bN d (bare p).bG ((k[a]?).getD 0)]else [])++dO (a0d L) (a+1) k=_;rw[aaM];rfl
def a4Z:∀(L:List (au×Pk))(ks:LN),cX (a0d L) ks=cX L ks
 | [],_=>rfl
 |x::L,ks=>by
  show(if x.2.g=true then eI x.1 x.2.bG (ks.headD 0)::cX (a0d L) ks.tail else cX (a0d L) ks)=_;rw[a4Z,a4Z];rfl
def aaP(ps:List (LN×Ag))(L:List (au×Pk)):dH ps (a0d L)=dH ps L:=by
 unfold dH;rw[filter_congr λx _=>aaO L 0 _];exact map_congr_left λx _=>by rw[aaM]
def aaQ(b:List au)(c:List Pk):a0d (b.zip c)=b.zip (c.map bare):=by
 unfold a0d;rw[zip_map_right];rfl
def aaN{d:au}{p q:Pk}(h:gz d p)(e:bare p=bare q):gz d q:=by
 obtain⟨f,t,lo,hi,A,S,c,g,b⟩:=p;obtain⟨B,G,x,F,J,D,z,I,E⟩:=q;unfold bare at e;injection e with y s r m H v C n u;subst y s r m v n u;exact⟨h.kind,h.t,h.lo,h.hi,h.free,h.bG,h.off⟩
def adG:∀(b:List au)(c:List Pk)(n:Nat)(hd:n<b.length)(e:n<c.length),TL (b.zip c) n=b.zip (c.set n (Vx b[n] c[n]))
 |d::b,q::c,0,_,_=>rfl
 |d::b,q::c,n+1,hd,e=>by
  have h1:n<b.length:=r_
  have h2:n<c.length:=r_
  show(d,q)::TL (b.zip c) n=(d,q)::b.zip (c.set n (Vx b[n] c[n]));rw[adG]
def aiq{d:au}{p:Pk}(h:gz d p)(c:p.g=true):gz d (Vx d p):=by
 unfold Vx;split
 .rename_i b;exact⟨h.kind,h.t,h.lo,h.hi,h.free,b,λh0=>r_⟩
 .exact⟨h.kind,h.t,h.lo,h.hi,h.free,Nat.lt_of_le_of_lt o_ h.t,λ_=>rfl⟩
def Xh(d:au)(p:Pk):Pk:=if p.g=true then(if 0<p.bG then{ p with bG:=p.bG-1 }else p)else{ p with g:=true,bG:=d.ai.length-1 }
def agx{d:au}{p:Pk}(h:gz d p)(e:p.g=true):Xh d (Vx d p)=p:=by
 have n:=h.bG;obtain⟨f,t,lo,hi,A,S,c,g,b⟩:=p;dsimp only at e n;subst e;unfold Vx Xh;grind
def ais{s:aN}{c r:List Pk}{n:Nat}(hk:iT s c)(x:n<s.af.length)(v:n<c.length)(y:c[n].g=true)(e:r.map bare=(c.set n (Vx s.af[n] c[n])).map bare) :
 iT s r/\a0d (s.af.zip r)=a0d (TL (s.af.zip c) n):=by
 refine⟨⟨?_,λi d p hd z=> ?_⟩,?_⟩
 .have:=congrArg length e;rw[lM,lM,length_set,hk.len]at this;omega
 .have b:=congrArg (λl=>l[i]?) e;simp only[getElem?_map,z]at b;rw[getElem?_set]at b;by_cases hi:n=i
  .subst hi;rw[if_pos rfl,if_pos v]at b;have f:bare p=bare (Vx s.af[n] c[n]):=r_
   have m:s.af[n]=d:=r_
   rw[m]at f;exact aaN (aiq (hk.ok n d _ hd (gE v)) y) f.symm
  .rw[if_neg hi]at b;rcases u:c[i]? with _|q
   .grind
   .rw[u]at b;have f:bare p=bare q:=r_
    exact aaN (hk.ok i d q hd u) f.symm
 .rw[aaQ,e,adG,aaQ]
def a8D(A:OA)(l:List Pk)(k:Nat):Prop:=cE A (l.flatMap oG) k\/∃p∈l,cE p.A (p.set.map .string) k
def a8E{w w':World}{F:Nat->Prop}{A:OA}{l:List Pk}(h:fH w w.heap.size A l)(ht:aq F w w')(c:∀k,a8D A l k->¬F k):fH w' w'.heap.size A l:=
 ⟨yI h.row ht λk hk=>c k (.inl hk),λp b=>⟨yI (h.each p b).set ht λk hk=>c k (.inr ⟨p,b,hk⟩),(h.each p b).n⟩⟩
def ait{s:aN}{rows:List Rw}{b c:List Pk}{fs:List Fa}{ps p f U:List (LN×Ag)}{l2 out:List Gp}{n mm:Nat}(h:eO s rows fs)(r:rows.length<=40)(m:cJ s)(O:iT s b)(q:jk s rows ps)(J:ps.length<=40)(D:∀x∈ps,GA mm 1 x.2)
 (d:iT s c)(v:a0d (s.af.zip c)=a0d (TL (s.af.zip b) n))(hi:∀x,(s.af.zip b)[n]? = some x->x.2.g=true/\x.2.bG<x.1.ai.length)(C:ev (gG fs (s.af.zip b)) p)(M:ev (gG fs (s.af.zip c)) f)
 (G:ev (p.map λx=>(Vw (s.af.zip b) n x.1,x.2)) U)(h2:l2.map hZ=f.map λx=>(cX (s.af.zip c) x.1,x.2))(L:out.map hZ=U.map λx=>(cX (TL (s.af.zip b) n) x.1,x.2)) :
 l2.map hZ=out.map hZ/\l2.length<=1000/\∀g∈l2,g.names.length<=1000:=by
 have t1:=Bt h r O q C;have t2:=Bt h r d q M;have F:(dH ps (s.af.zip b)).length<=40:=by
  unfold dH;rw[lM];grind
 have A:∀x∈dH ps (s.af.zip b),GA mm 1 x.2:=λx hx=>by
  unfold dH at hx;grind
 have t3:=t1.aio F A _ G;rw[<-aiu _ _ n hi,<-aaP,<-v,aaP]at t3;have e:=t2.one t3;subst e;refine⟨?_,?_,λg B=> ?_⟩
 .rw[h2,L];refine map_congr_left λx _=> ?_;rw[<-a4Z,v,a4Z]
 .have E:=congrArg length h2;rw[lM,lM]at E;have:=uy t2;have u:(dH ps (s.af.zip c)).length<=ps.length:=by
   unfold dH;rw[lM];grind
  omega
 .have u:hZ g∈f.map λx=>(cX (s.af.zip c) x.1,x.2):=r_
  obtain⟨x,_,H⟩:=mem_map.1 u;have z:cX _ _=g.names:=congrArg Prod.fst H;rw[<-z];have N:=xS (s.af.zip c) x.1;rw[length_zip]at N;have:=m.n2;omega
def aaL(d:au)(p:Pk):bare (Xh d p)=Xh d (bare p):=by
 unfold Xh;show _=if p.g=true then _ else _;by_cases c:p.g=true
 .rw[if_pos c,if_pos c];show _=if 0<p.bG then _ else _;by_cases b:0<p.bG
  .rw[if_pos b,if_pos b];rfl
  grind
 .rw[if_neg c,if_neg c];rfl
def agw{s:aN}{b c:List Pk}{n:Nat}(hk:iT s b)(f:n<s.af.length)(d:n<b.length)(m:n<c.length)(q:b[n].g=true)(e:c.map bare=(b.set n (Vx s.af[n] b[n])).map bare):(c.set n (Xh s.af[n] c[n])).map bare=b.map bare:=by
 have p:bare c[n]=bare (Vx s.af[n] b[n]):=by
  have:=congrArg (λl=>l[n]?) e;simp only[getElem?_map,gE m,getElem?_set,if_pos d,if_true]at this;grind
 rw[map_set,aaL,p,e,<-aaL,agx (hk.ok n _ _ (gE f) (gE d)) q,map_set,set_set,<-map_set,set_getElem_self]
def aiA{m:Nat}{P r:List (LN×Ag)}(h:ev P r)(hn:P.length<=40)(hg:∀x∈P,GA m 1 x.2):∀x∈r,GA m 40 x.2:=λx hx=>by
 have h1:=h.sum x hx;unfold bW at h1;obtain⟨y,hy,e⟩:=(h.keys _).1 ⟨x,hx,rfl⟩;have hl:=length_filter_le (λz:LN×Ag=>z.1 == x.1) P
 obtain⟨q,h2,h3,h4⟩:=tG ((P.filter λz=>z.1 == x.1).map _) _ 0 qS (.inr rfl) (λa ha=>by
  obtain⟨z,hz,rfl⟩:=mem_map.1 ha;have:=hg z (mem_filter.1 hz).1
  exact⟨this.b,this.ok⟩) o_
 rw[h1]at h2;injection h2 with h2
 subst h2;obtain h4|⟨_,h4⟩:=h4
 .exact⟨qR h3 o_,h4⟩
 .exfalso;have:y.2∈((P.filter λz=>z.1 == x.1).map _):=mem_map.2 ⟨y,mem_filter.2 ⟨hy,o_⟩,rfl⟩;grind
section
attribute [local go_sem] zZ
def aiv(A1 A2:OA)(e l2:List Pk)(c1 c2:Nat)(w:World)(h1:fH w w.heap.size A1 e)(h2:fH w w.heap.size A2 l2)(he:e.map bare=l2.map bare)(hn:e.length<=1000) :
 Calls Tryz.prog 21 #[.agg #[.slice A1 e.length c1],.agg #[.slice A2 l2.length c2]] w (cy (λr=>r=true) w):=by
 have Z:=(ah _ w).alloc (ae _) (.cells #[.slice A1 e.length c1] 29);have p:=kp (aa.new w 29 #[.slice A1 e.length c1]);obtain⟨R,Sf⟩:∃R,w.alloc (.cells #[.slice A1 e.length c1] 29)=R:=⟨_,rfl⟩
 rw[Sf]at Z p;have ng:=Z.alloc Z.size (.cells #[.slice A2 l2.length c2] 29);have XR:=kp (aa.new R 29 #[.slice A2 l2.length c2]);have ZC:=kp (p.o.alloc (.cells #[.slice A2 l2.length c2] 29));obtain⟨w2,Sr⟩:∃w2,R.alloc (.cells #[.slice A2 l2.length c2] 29)=w2:=⟨_,rfl⟩
 rw[Sr]at ng ZC XR;have xD:=kp ng;have HR:=kp (λw' B=>cy.mono (P:=λr=>r=true) (w:=w) (w':=w') rfl B);have F:=congrArg length he;rw[lM,lM]at F;have H1:=kp (λW(s:Below _ w W)=>(h1.below s).more s.size);have H2:=kp (λW(s:Below _ w W)=>(h2.below s).more s.size)
 have HE:=kp (show∀ k a(b:k<l2.length),bare e[k]=bare l2[k]fromλk a b=>by
  have:=congrArg (λl=>l[k]?) he;grind)
 generalize cy (λr=>r=true) w=Q at*;obtain⟨n,u⟩:∃n,e.length=n:=⟨_,rfl⟩
 rw[u]at p ZC Sf;rw[<-F,u]at XR Sr;rw[<-F,u];have HN:=kp (And.intro u (F.symm.trans u));rw[u]at hn;have p0:=ZC.o.cell 0;have G:=XR.o.cell 0;clear h1 h2 he F u Z ng p;go_enter Tryz.func21,Tryz.ntmps21;go_wp2;clear p0 G Sf Sr
 go_loopw [19] (λC wr=>∃k:Nat,k<=n/\C = .int .i64 (k:Nat)/\Below w2.heap.size w2 wr) (λC _=>n-(intOf C).toNat)
 case atStart=>exact⟨0,o_,rfl,bR⟩
 case round=>
  obtain⟨k,hk,rfl,B⟩:=hrel;obtain⟨wo,rfl⟩:∃wo,wo=wr:=⟨_,rfl⟩
  have Hb:=kp B;have U8:=ay xD B;have p0:wo.cell? _=some (.slice _ n _):=(ZC.o.under B).cell 0;have G:wo.cell? _=some (.slice _ n _):=(XR.o.under B).cell 0;clear B;by_cases eK:k<n
  .have E:k<e.length:=by rw[HN.1];omega
   have M:k<l2.length:=by rw[HN.2];omega
   have hg:=HE k E M;have hx:=(H1 _ U8).pick k E;have hy:=(H2 _ U8).pick k M;have Su:=kp (λW s=>((H1 W s).each _ (gM E)).set);have T:=kp (λW s=>((H2 W s).each _ (gM M)).set);have Te:=((H1 _ U8).each _ (gM E)).n;generalize(e[k]'E)=x at*;generalize(l2[k]'M)=y at*;clear E M;obtain⟨xf,xt,c,d,xA,ns,xc,xg,xb⟩:=x;obtain⟨yf,yt,g4,g5,yA,f9,yc,yg,yb⟩:=y;unfold bare at hg;injection hg with e1 e2 e3 e4 e5 e6 e7 e8 e9
   dsimp only at e1 e2 e3 e4 e6 e8 e9 hx hy Te Su T;subst e1 e2 e3 e4 e6 e8 e9;clear e5 e7;obtain⟨m,hm⟩:∃m,ns.length=m:=⟨_,rfl⟩
   rw[hm]at hx hy Te;have Hm:=kp hm;clear hm;have k0:0<=(k:Int):=o_
   have k1:k<(n:Int):=o_
   obtain⟨bx,ox,rfl,_,x0,x1,x2,x3,X,x5,x6⟩:=hx;obtain⟨Sp,oy,rfl,_,V,J,Y,I,v,H,N⟩:=hy;have Wg:=kp (aa.new wo 58 #[.int .i64 xf,.int .i64 xt,.string c,.string d,.slice xA m xc,.bool xg,.int .i64 xb]);have g:=kp ((ah _ wo).alloc (ae _) (.cells #[.int .i64 xf,.int .i64 xt,.string c,.string d,.slice xA m xc,.bool xg,.int .i64 xb] 58));go_upto_region 7 with fail
   have G:=al g G;have V:=al g V;have J:=al g J;have Y:=al g Y;have I:=al g I;have v:=al g v;have H:=al g H;have N:=al g N;clear x0 x1 x2 x3 X x5 x6 p0;generalize wo.alloc _=wa at*;have L:=kp (aa.new wa 58 #[.int .i64 xf,.int .i64 xt,.string c,.string d,.slice yA m yc,.bool xg,.int .i64 xb]);have U:=kp ((ah _ wa).alloc (ae _) (.cells #[.int .i64 xf,.int .i64 xt,.string c,.string d,.slice yA m yc,.bool xg,.int .i64 xb] 58));go_upto_region 8 with fail
   clear V J Y I v H N G;generalize wa.alloc _=wb at*;have O:=kp (Wg.o.under U);have D:=kp (Hb.o.trans ((g.o.trans (U.o.mono g.o.size)).mono Hb.o.size));have b4:=kp (xD.o.trans (D.o.mono xD.o.size));obtain⟨x0,x1,x2,x3,X,x5,x6⟩:=aa.seven O;obtain⟨V,J,Y,I,v,H,N⟩:=aa.seven L;go_wp2;clear x0 x1 x2 x3 X x5 x6 V J Y I v H N
   go_loopw [84] (λA wr=>∃q:Nat,q<=m/\A = .int .i64 (q:Nat)/\Below wb.heap.size wb wr) (λA _=>m-(intOf A).toNat)
   case atStart=>exact⟨0,o_,rfl,bR⟩
   case round=>
    obtain⟨q,hq,rfl,f⟩:=hrel;have UN:=kp f;have Xy:=ay b4 f;have X:=(O.o.under f).cell 4;have v:=(L.o.under f).cell 4;clear f;by_cases WO:q<m
    .have WQ:q<(ns.map Value.string).length:=by rw[lM,Hm];omega
     obtain⟨b1,o1,rfl,_,t1⟩:=Row.at_ (Su _ Xy) WQ;obtain⟨b2,o2,rfl,_,t2⟩:=Row.at_ (T _ Xy) WQ;rw[getElem_map]at t1 t2;generalize(ns[q]'(by rw[Hm];omega))=z at*;have k2:0<=(q:Int):=o_
     have k3:q<(m:Int):=o_
     clear WQ;go_upto_region 13 with fail
     go_quiet (fail)
     have Hd:=kp (below_drewN UN nq);clear X v t1 t2;go_wp2;exact⟨⟨q+1,o_,o_,Hd⟩,o_⟩
    .have c5:=kp (D.o.trans (UN.o.mono D.o.size));go_wp2;exact⟨⟨k+1,o_,o_,c5⟩,o_⟩
  .have Hf:=kp (HR _ U8);go_wp2;exact Hf
end
def aih:(Tryz.prog.info? 58).map (λi=>(i.zero,i.size,i.bytes))=some (some (.agg #[.int .i64 0,.int .i64 0,.string ByteArray.empty,.string ByteArray.empty,.slice none 0 0,.bool false,.int .i64 0]),7,88):=by kernel_rfl
def agr(a:Addr)(n c:Nat)(d:LV)(w:World)(v:n<=1000000)(p:d.length=n*1)(s:∀j u,d[j]? = some u->w.cell? (a.add j)=some u)(h1:∀u∈d,u.oneCell'=true) :
 Calls Tryz.prog 122 #[.slice (some a) n c] w (ly 9 1 n d w):=by
 have q:∀ w(a:OA) n c g f,(binOp _ 23 _ _).run _ w = .ok _ w:=λw a n c g f=>Lib.run_eql_slice_nil w _ _ a n c g f Tryz.underlying23;obtain⟨y,J,H,A,I⟩:=info_parts BL;have L:=kp s;have Hv:=kp p;have C:=kp h1;have x:=kp v;have D:=kp (show∀e w',w'.ownsRow w.heap.size 9 1 e n d->Below _ w _->ly 9 1 n d w _ w' fromλe w' a b=>⟨e,rfl,a,b⟩);clear s p h1 v;generalize E:ly 9 1 n d w=Q at*;clear E;go_enter Tryz.func122,Tryz.ntmps122;go_wp2_with(at_builtin;refine wpList_append_own _ rfl _ _ _ rfl _ 9 y _ 1 _ Tryz.underlying23 J H A I rfl d_ _ _ _ rfl (World.ownsRow_made w _ 0 (ae _) o_ rfl) a n c d rfl ?qc1 ?qc2 ?qc3 ?qc4 ?qc5 ?qc6 ?_)
 case qc1=>exact Hv
 case qc2=>
  intro j u B;exact Lib.cell?_alloc_some _ (L j u B)
 case qc3=>exact C
 case qc4=>have:=x.o;rw[Nat.zero_add];unfold maxLen;omega
 case qc5=>have:=x.o;omega
 case qc6=>simp
 intro e M r m G;have z:=kp r;have F:=kp m;clear r m G;go_wp2;exact D _ _ (by trivial) ((bR.alloc o_ _).grown F s_ (by intro k hk;simp[Value.ownBlock]at hk;omega))
def agq(n c:Nat)(w:World):Calls Tryz.prog 122 #[.slice none n c] w (ly 9 1 0 [] w):=by
 have q:∀ w(a:OA) n c d b,(binOp _ 23 _ _).run _ w = .ok _ w:=λw a n c d b=>Lib.run_eql_slice_nil w _ _ a n c d b Tryz.underlying23;go_enter Tryz.func122,Tryz.ntmps122;go_wp2;go_ret;exact⟨_,rfl,cK _ _ _ _,bR⟩
def agp(A:OA)(c:Nat)(l:List ByteArray)(w:World)(e:l.length<=1000000)(d:Row w w.heap.size A (l.map .string)) :
 Calls Tryz.prog 122 #[.slice A l.length c] w (ly 9 1 l.length (l.map .string) w):=by
 obtain _|a:=A
 .have h0:l.map Value.string=[]:=by
   obtain h|⟨b,off,h,_⟩:=d
   . omega
   .cases h
  have h1:l.length=0:=by rw[<-lM,h0];rfl
  rw[h0,h1];exact agq _ _ _
 .exact agr a _ c _ w e o_ (AL d) (λu g=>by obtain⟨k,_,rfl⟩:=mem_map.1 g;rfl)
def aim(l:List Pk):∀u∈l.flatMap oG,u.oneCell'=true:=by
 intro u c;obtain⟨p,_,b⟩:=mem_flatMap.1 c;simp[oG]at b;rcases b with rfl|rfl|rfl|rfl|rfl|rfl|rfl<;>rfl
def ago(a:Addr)(n c:Nat)(d:LV)(w:World)(v:n<=1000000)(p:d.length=n*7)(s:∀j u,d[j]? = some u->w.cell? (a.add j)=some u)(h1:∀u∈d,u.oneCell'=true) :
 Calls Tryz.prog 121 #[.slice (some a) n c] w (ly 58 7 n d w):=by
 have q:∀ w(a:OA) n c g f,(binOp _ 27 _ _).run _ w = .ok _ w:=λw a n c g f=>Lib.run_eql_slice_nil w _ _ a n c g f Tryz.underlying27;obtain⟨y,J,H,A,I⟩:=info_parts aih;have L:=kp s;have Hv:=kp p;have C:=kp h1;have x:=kp v;have D:=kp (show∀e w',w'.ownsRow w.heap.size 58 7 e n d->Below _ w _->ly _ 7 n d w _ w' fromλe w' a b=>⟨e,rfl,a,b⟩);clear s p h1 v;generalize E:ly _ 7 n d w=Q at*;clear E;go_enter Tryz.func121,Tryz.ntmps121;go_wp2_with(at_builtin;refine wpList_append_own _ rfl _ _ _ rfl _ 58 y _ 7 _ Tryz.underlying27 J H A I rfl d_ _ _ _ rfl (World.ownsRow_made w _ 0 (ae _) o_ rfl) a n c d rfl ?qc1 ?qc2 ?qc3 ?qc4 ?qc5 ?qc6 ?_)
 case qc1=>exact Hv
 case qc2=>
  intro j u B;exact Lib.cell?_alloc_some _ (L j u B)
 case qc3=>exact C
 case qc4=>have:=x.o;rw[Nat.zero_add];unfold maxLen;omega
 case qc5=>have:=x.o;omega
 case qc6=>simp
 intro e M r m G;have z:=kp r;have F:=kp m;clear r m G;go_wp2;exact D _ _ (by trivial) ((bR.alloc o_ _).grown F s_ (by intro k hk;simp[Value.ownBlock]at hk;omega))
def a5G(l:List Pk):(l.flatMap oG).length=l.length*7:=iX Nq l
def ain(l:List Pk)(i j:Nat)(hi:i<l.length)(v:Value)(p':Pk)(h:(oG l[i]).set j v=oG p')(c:j<7):(l.flatMap oG).set (i*7+j) v=(l.set i p').flatMap oG:=by
 induction l generalizing i with
 |nil=>cases hi
 |cons x l b=>
  cases i with
  |zero=>
   rw[set_cons_zero,flatMap_cons,flatMap_cons,Nat.zero_mul,Nat.zero_add,set_append_left _ _ (by rw[Nq];omega)];rw[<-h];rfl
  |succ i=>
   rw[set_cons_succ,flatMap_cons,flatMap_cons,set_append_right _ _ (by rw[Nq];omega),Nq,show(i+1)*7+j-7=i*7+j by omega];grind
structure UO(w:World)(B g c i:Nat)(ps:List Pk):Prop where
 own:w.ownsRow B 58 7 (.slice (some ⟨g,0,none⟩) ps.length c) ps.length (ps.flatMap oG)
 each:∀j p,ps[j]? = some p->jO w w.heap.size p/\∀k,cE p.A (p.set.map .string) k->k≠g/\(j<i->B<=k)
def UO.below{w w':World}{B g c i:Nat}{ps:List Pk}(h:UO w B g c i ps)(b:Below w.heap.size w w'):UO w' B g c i ps:=
 ⟨bS h.own b,λj p d=>⟨((h.each j p d).1.below b).more b.size,(h.each j p d).2⟩⟩
def UO.at_{w:World}{B g c i:Nat}{ps:List Pk}(h:UO w B g c i ps):fH w w.heap.size (some ⟨g,0,none⟩) ps:=
 ⟨dF h.own,λp b=>by
  obtain⟨j,d⟩:=getElem?_of_mem b;exact(h.each j p d).1⟩
def UO.lt{w:World}{B g c i:Nat}{ps:List Pk}(h:UO w B g c i ps):B<=g/\g<w.heap.size:=h.own.lt g rfl
def UO.cell{w:World}{B g c i:Nat}{ps:List Pk}(h:UO w B g c i ps){j o:Nat}(e:j<ps.length){v:Value}(b:(oG ps[j])[o]? = some v):w.cell? ⟨g,j*7+o,none⟩=some v/\w.frozen? ⟨g,j*7+o,none⟩=false:=by
 apply j9 h.own;have d:o<7:=(aO b).1;obtain⟨P,x,R,rfl,rfl⟩:∃P x R,ps=P++x::R/\j=P.length:=⟨ps.take j,ps[j],ps.drop (j+1),o_,o_⟩;rw[getElem_append_right (ae _)]at b;simp at b;rw[flatMap_append,flatMap_cons,getElem?_append_right (by rw[a5G];omega),a5G,Nat.add_sub_cancel_left,getElem?_append_left r_];omega
def a8J{w:World}{A:OA}{b:LV}{g o:Nat}{v:Value}(h:Row w w.heap.size A b)(c:∀k,cE A b k->k≠g):Row (w.setCell ⟨g,o,none⟩ v) (w.setCell ⟨g,o,none⟩ v).heap.size A b:=by
 rw[show(w.setCell _ v).heap.size=w.heap.size by simp];exact fO h λk hk=>Below.heap_setCell w _ v k (c k hk)
def UO.put{w:World}{B g c i f:Nat}{ps:List Pk}(h:UO w B g c i ps){j o:Nat}(m:j<ps.length){v:Value}{p':Pk}(p:(oG ps[j]).set o v=oG p')(s:o<7)
 (d:jO w w.heap.size p'/\∀k,cE p'.A (p'.set.map .string) k->k≠g/\(j<f->B<=k))(hi:∀k,k≠j->k<f->k<i):UO (w.setCell ⟨g,j*7+o,none⟩ v) B g c f (ps.set j p'):=by
 have h1:=dG h.own (i:=j*7+o) (by rw[a5G];omega) v;rw[ain _ j o m v _ p s]at h1;refine⟨o_,λk q b=> ?_⟩;rw[getElem?_set]at b;by_cases e:j=k
 .subst e;rw[if_pos rfl,if_pos m]at b;injection b with b;subst b;exact⟨⟨a8J d.1.set λk hk=>(d.2 k hk).1,d.1.n⟩,d.2⟩
 .rw[if_neg e]at b;have h2:=h.each k q b;exact⟨⟨a8J h2.1.set λk hk=>(h2.2 k hk).1,h2.1.n⟩,λx hx=>⟨(h2.2 x hx).1,λr=>(h2.2 x hx).2 (hi k o_ r)⟩⟩
def UO.lower{w:World}{B d g c i:Nat}{ps:List Pk}(h:UO w B g c i ps)(e:d<=B):UO w d g c i ps:=by
 refine⟨⟨h.own.1,?_⟩,λj p b=>⟨(h.each j p b).1,λk hk=>⟨((h.each j p b).2 k hk).1,λf=>aF e (((h.each j p b).2 k hk).2 f)⟩⟩⟩;obtain h1|⟨n,cap,cur,h1,h2,m⟩:=h.own.2
 .grind
 .exact .inr ⟨n,_,_,h1,o_,m⟩
def UO.aJ{w:World}{B g c:Nat}{ps:List Pk}(h:UO w B g c ps.length ps){k o:Nat}(hk:k<B)(v:Value):UO (w.setCell ⟨k,o,none⟩ v) B g c ps.length ps:=by
 have ht:aq (·=k) w _:=aq.set w ⟨k,o,none⟩ v rfl;refine⟨yi h.own ht hk,λj p b=>⟨⟨a8J (h.each j p b).1.set λx hx=> ?_,(h.each j p b).1.n⟩,(h.each j p b).2⟩⟩;have:=((h.each j p b).2 x hx).2 (aO b).1;omega
def a5J(b:List Pk)(w:World)(e:Ending)(w':World):Prop:=
 ∃(g c:Nat)(ps:List Pk),e = .returned (.agg #[.slice (some ⟨g,0,none⟩) ps.length c])/\UO w' w.heap.size g c ps.length ps/\ps.map bare=b.map bare/\Below w.heap.size w w'
def aaS(f:List Pk)(A:OA)(B:Nat)(w:World)(hq:fH w w.heap.size A f)(h0:0<f.length)(hn:f.length<=1000) :
 Calls Tryz.prog 49 #[.agg #[.slice A f.length B]] w (a5J f w):=by
 have u:=(ah _ w).alloc (ae _) (.cells #[.slice A f.length B] 29);have X:=u.alloc o_ (.cells #[.slice none 0 0] 29);have T:=kp ((aa.new (w.alloc (.cells #[.slice A f.length B] 29)) 29 #[.slice none 0 0]));obtain⟨q,G⟩:∃q,(w.alloc (.cells #[.slice A f.length B] 29)).alloc (.cells #[.slice none 0 0] 29)=q:=⟨_,rfl⟩;have hz:(w.alloc (.cells #[.slice A f.length B] 29)).heap.size=w.heap.size+1:=s_
 rw[G]at X T;rw[hz]at T;have F:=(aa.new w 29 #[.slice A f.length B]).alloc (.cells #[.slice none 0 0] 29);rw[G]at F;have c0:q.cell? _=some (.slice A _ B):=F.cell 0;have O:=kp X;have L:=kp ((hq.below X).more X.size);have D:∃a,A=some a:=by
  obtain⟨b,off,e,_⟩:=hq.pick 0 h0;grind
 obtain⟨a,rfl⟩:=D;have HC:=kp (ago a _ B _ q o_ (a5G f) (AL L.o.row) (aim f));have HR:=kp (show∀g c ps w',UO _ _ g c _ ps->ps.map _=f.map _->Below _ w _->a5J f w _ w' fromλg c ps w' h1 h2 h3=>⟨g,c,_,rfl,h1,h2,h3⟩);generalize a5J f w=Q at*;obtain⟨n,D⟩:∃n,f.length=n:=⟨_,rfl⟩;have V:=kp D;rw[D]at HC G c0 hn h0⊢;clear u X hq hz F D;go_enter Tryz.func49,Tryz.ntmps49;go_wp2_with fail;refine HC.o.mono ?_;rintro e z⟨u,rfl,D,u⟩;obtain⟨A3,c3,rfl⟩:=cI D;obtain⟨g,rfl,hg⟩:=a8B D h0;have RN:=ay O u;have b6:=bu T u;have R:=kp (show w.heap.size+1<q.heap.size/\q.heap.size<=g/\g<z.heap.size from⟨T.o.lt,hg,(D.lt g rfl).2⟩);have c8:=kp (show UO z _ g _ 0 f from by
  refine⟨by rw[V];omega,λj p hp=> ?_⟩;have M:=L.o.each p (mem_of_getElem? hp);exact⟨(M.below u).more u.size,λk hk=>⟨by have:=Row.bU M.set hk;omega,λh=>o_⟩⟩)
 have a8:=kp (O.o.size);clear G D u hg HC L O c0 T;have G:=kp (aa.new z 29 #[.slice (some ⟨g,0,none⟩) n c3]);have D:=kp ((ah _ z).alloc (ae _) (.cells #[.slice (some ⟨g,0,none⟩) n c3] 29));go_wp2;go_loopw [13] (λu wr=>∃(i:Nat)(ps:List Pk),i<=n/\u = .int .i64 (i:Nat)/\aa wr z.heap.size 29 #[.slice (some ⟨g,0,none⟩) n c3]/\aa wr (w.heap.size+1) 29 #[.slice none 0 0]/\Kp (UO wr q.heap.size g c3 i ps)/\Kp (ps.map bare=f.map bare)/\Below w.heap.size w wr) (λu _=>n-(intOf u).toNat)
 case atStart=>exact⟨0,f,o_,rfl,G,b6.o.under D,kp (c8.o.below D),kp rfl,RN.o.trans (D.o.mono RN.o.size)⟩
 case round=>
  obtain⟨i,ps,hi,rfl,RS,u,d,TF,hb⟩:=hrel;obtain⟨wo,rfl⟩:∃wo,wo=wr:=⟨_,rfl⟩;have S0:=kp RS;have b9:=kp u;have Hb:=kp hb;have Tz:=kp (by have:=congrArg length TF;rw[lM,lM,V]at this;omega);have V:=RS.cell 0;by_cases eK:i<n
  .clear RS u hb;have r:i<ps.length:=by rw[Tz];omega
   obtain⟨c0,_⟩:=d.o.cell (o:=0) r rfl;obtain⟨c1,_⟩:=d.o.cell (o:=1) r rfl;obtain⟨c2,_⟩:=d.o.cell (o:=2) r rfl;obtain⟨Z,_⟩:=d.o.cell (o:=3) r rfl;obtain⟨O,_⟩:=d.o.cell (o:=4) r rfl;obtain⟨c5,_⟩:=d.o.cell (o:=5) r rfl;obtain⟨y,_⟩:=d.o.cell (o:=6) r rfl;have C:=kp (λW(h:UO W q.heap.size g c3 i _)=>h.cell (o:=4) r rfl);have H:=kp (λW(h:UO W q.heap.size g c3 i _)=>(h.each i _ (gE r)).1);have I:=kp (show∀W x N,UO W _ g _ i _->Row W _ x (ps[i].set.map _)->(∀k,cE x (ps[i].set.map _) k->k≠g/\q.heap.size<=k)->UO (W.setCell ⟨g,i*7+4,_⟩ (.slice x ps[i].set.length N)) _ g c3 (i+1) (ps.set i { ps[i]with A:=x,c:=N })fromλW x N h G D=>h.put r rfl d_ ⟨⟨G,(h.each i _ (gE r)).1.n⟩,λk hk=>⟨(D k hk).1,λ_=>(D k hk).2⟩⟩ (λk hk eK=>o_));have TM:=kp (show∀x N,(ps.set i { ps[i]with A:=x,c:=N }).map _=f.map _ fromλx N=>by
    rw[map_set];show(ps.map bare).set i (bare ps[i])=_;rw[<-map_set,set_getElem_self];exact TF)
   generalize(ps[i]'r)=p at*;obtain⟨pf,pt,E,L,G,pS,D,pg,pb⟩:=p;dsimp only at c0 c1 c2 Z O c5 y C H I TM;obtain⟨m,M⟩:∃m,pS.length=m:=⟨_,rfl⟩;have Hm:=kp M;rw[M]at O C I;have Y:=kp (aa.new wo 58 #[.int .i64 pf,.int .i64 pt,.string E,.string L,.slice G m D,.bool pg,.int .i64 pb]);have VE:=kp ((ah _ wo).alloc (ae _) (.cells #[.int .i64 pf,.int .i64 pt,.string E,.string L,.slice G m D,.bool pg,.int .i64 pb] 58));have k0:0<=(i:Int):=o_
   have k1:i<(n:Int):=o_
   simp at c0;clear M r;go_upto_region 5 with fail;clear c0 c1 c2 Z O c5 y V;generalize wo.alloc _=O at*;have J:=kp (show Below O.heap.size O _ from bR.drew);have V:=(S0.o.under (VE.o.trans (J.o.mono VE.o.size))).cell 0;have p4:=(show aa O.drew _ _ _ from Y).cell 4;have Y9:=kp (show z.heap.size≠g/\wo.heap.size≠g/\wo.heap.size<O.heap.size from⟨by have:=R.o;omega,by have:=R.o;have:=S0.o.lt;omega,Y.o.lt⟩);refine wp_region_noPanic ?_;refine br (t:=99) (S:=(λw'=>w'.cell? _=some (.slice _ n _)/\w'.cell? _=some (.slice G m D))) k_ ⟨V,p4⟩ (λs=> ?_);generalize O.drew=wd at*;have SP:=kp (VE.o.trans (J.o.mono VE.o.size));have L:=kp (agp G D pS _ (H _ (d.o.below SP)).n (H _ (d.o.below SP)).set);rw[Hm]at L;refine tD 0 1 2 3 s ?_;refine tk 4 s ?_;refine oT 5 (λK hK=> ?_);go_simp;refine L.o.mono ?_;rintro e w6⟨D,rfl,G,O⟩;obtain⟨L,y,rfl⟩:=cI G;have D:=kp G;have Sq:=kp O;clear G O;try go_simp
   refine oK hK ?_ (λO=> ?_)
   .exact⟨al Sq s.1,al Sq s.2⟩
   clear hK K s;have s:=O;clear O;have G:=kp (SP.o.trans (Sq.o.mono SP.o.size));have U:=kp (d.o.below G);obtain⟨d4,g4⟩:=C _ U;refine tB 6 7 s ?_;refine oT 8 (λK hK=> ?_);go_simp;refine oK hK ?_ (λO=> ?_)
   .exact⟨((S0.o.under G).aJ Y9.1 _).cell 0,(wP Y9.2.1).trans s.2⟩
   clear hK K s;have s:=O;clear O;refine bQ k_ ?_ _;try clear s
   refine NoPanic.normal ?_;have O:=kp (I _ L y U (by rw[<-Hm]at D;exact dF D) (λk hk=>by
    have h1:=rI D o_;have h2:=Y9.o;have h3:=R.o;have D:=J.o.size;have D:=S0.o.lt;omega))
   have e3:=kp (((Hb.o.trans (G.o.mono Hb.o.size))).setCell (p:=⟨g,i*7+4,none⟩) (by have:=R.o;show w.heap.size<=g;omega) (.slice L m y));have d9:=kp ((S0.o.under G).aJ (p:=⟨g,i*7+4,none⟩) Y9.1 (.slice L m y));have D:=kp ((b9.o.under G).aJ (p:=⟨g,i*7+4,none⟩) (by have:=R.o;grind) (.slice L m y));clear V p4 d4 g4;go_wp2;exact⟨⟨_,_,o_,o_,d9,D,kp O,kp (TM L y),e3⟩,o_⟩
  .have G:i=n:=o_
   obtain⟨t0,tf⟩:=u.one;have D:=kp (HR g _ _ (wo.setCell ⟨w.heap.size+1,0,_⟩ (.slice (some ⟨g,0,none⟩) n c3)) (by
    have h:=d.o;rw[G,<-Tz]at h;exact(h.aJ (by have:=R.o;omega) _).lower a8) TF (hb.setCell s_ _))
   rw[Tz]at D;clear RS u hb eK;go_wp2;exact bodyPost_ret (by simp[results,go_sem,t0]) rfl D
def agE(d:au)(k:Nat)(w:World)(q:d.ai.length<=maxLen)(hk:d.ai.length<=k):Calls Tryz.prog 50 #[.agg (aU d),.int .i64 k] w λe w'=>e = .returned (.bool false)/\Below w.heap.size w w':=by
 have b:=(ah _ w).alloc (ae _) (.cells (aU d) 70);have f:=kp b;unfold maxLen at q;unfold aU at*;have m:0<=(k:Int):=o_
 have c:¬ k<(d.ai.length:Int):=o_
 clear b;generalize d.ai.length=n at*;go_enter Tryz.func50,Tryz.ntmps50;go_wp2;go_ret;trivial
def a0R(b:List Pk)(n:Nat)(p':Pk)(w:World)(e:Ending)(w':World):Prop:=
 ∃(g c:Nat)(ps:List Pk),e = .returned (.agg #[.slice (some ⟨g,0,none⟩) ps.length c])/\UO w' w.heap.size g c ps.length ps/\ps.map bare=(b.set n p').map bare/\Below w.heap.size w w'
def a3S{ps b:List Pk}{n:Nat}{p p':Pk}(h:ps.map bare=b.map bare)(e:bare p=bare p'):(ps.set n p).map bare=(b.set n p').map bare:=by rw[map_set,map_set,h,e]
def UO.a3j{w:World}{B g c:Nat}{ps:List Pk}(h:UO w B g c ps.length ps){j o:Nat}(d:j<ps.length){v:Value}{p':Pk}(p:(oG ps[j]).set o v=oG p')(f:o<7)(m:p'.A=ps[j].A/\p'.set=ps[j].set) :
 UO (w.setCell ⟨g,j*7+o,none⟩ v) B g c (ps.set j p').length (ps.set j p'):=by
 have h1:=h.each j _ (gE d);obtain⟨e,b⟩:=m;rw[length_set];exact h.put d p f ⟨⟨by rw[e,b];exact h1.1.set,by rw[b];exact h1.1.n⟩,r_⟩ λk _ hk=>hk
def air(s:aN)(m:List Pk)(A:OA)(U n:Nat)(w:World)(hs:cQ w w.heap.size s)(ho:cJ s)(hq:fH w w.heap.size A m)(hk:iT s m)(hn:n<s.af.length)(XI:n<m.length)(hg:m[n].g=true) :
 Calls Tryz.prog 19 #[.agg (aG s),.agg #[.slice A m.length U],.int .i64 (n:Nat)] w (a0R m n (Vx s.af[n] m[n]) w):=by
 have F:=(ah _ w).alloc (ae _) (.cells (aG s) 25);have SF:=kp (aa.new w 25 (aG s));obtain⟨N,Sf⟩:∃N,w.alloc (.cells (aG s) 25)=N:=⟨_,rfl⟩;rw[Sf]at F SF;have L:=F.alloc F.size (.cells #[.slice A m.length U] 29);have Ty:=kp (aa.new N 29 #[.slice A m.length U]);have O:=kp (SF.o.alloc (.cells #[.slice A m.length U] 29));obtain⟨x,Sr⟩:∃x,N.alloc (.cells #[.slice A m.length U] 29)=x:=⟨_,rfl⟩;rw[Sr]at L Ty O;have D:=L.alloc L.size (.cells #[.slice none 0 0] 29);have X:=kp (aa.new x 29 #[.slice none 0 0]);have Wp:=kp (Ty.o.alloc (.cells #[.slice none 0 0] 29));have V:=kp (O.o.alloc (.cells #[.slice none 0 0] 29));obtain⟨G,Wa⟩:∃G,x.alloc (.cells #[.slice none 0 0] 29)=G:=⟨_,rfl⟩;rw[Wa]at D X Wp V;have RN:=kp D;have Vl:=ho.n2;have RZ:=hk.len;have HC:=kp (aaS m A U G ((hq.below D).more D.size) o_ o_);have VG:=kp (λW(u:Below _ w W)=>(hs.below u).more u.size);have b8:=kp (ho.af n hn);have Yd:=kp (hk.ok n _ _ (gE hn) (gE XI));have Hg:=kp hg;have HR:=kp (show∀g c ps w',UO _ _ g c _ ps->ps.map _=(m.set n _).map _->Below _ w _->a0R m n (Vx s.af[n] m[n]) w _ w' fromλg c ps w' h1 h2 h3=>⟨g,c,_,rfl,h1,h2,h3⟩);generalize a0R m n _ w=Q at*;have g3:=kp (λW u=>(VG W u).aj n hn);obtain⟨q,T⟩:∃q,m[n]=q:=⟨_,rfl⟩;obtain⟨d,b5⟩:∃d,s.af[n]=d:=⟨_,rfl⟩;rw[T]at Yd Hg HR;rw[b5]at b8 Yd HR;have h4:=kp T;have u:=b8.o.n2;have TO:=Yd.o.bG;obtain⟨u,C⟩:∃u,m.length=u:=⟨_,rfl⟩;have Sd:s.af.length=u:=o_
 have Xx:=kp C;have c0:G.cell? ⟨N.heap.size,0,none⟩=some (.slice A u U):=by rw[<-C];exact Wp.o.cell 0
 unfold aG at SF O V Sf⊢;rw[Sd]at V Sf hn Vl;rw[C]at HC Sr XI⊢;rw[Sd];have Uk:=kp (show w.heap.size<N.heap.size/\N.heap.size<x.heap.size/\x.heap.size<G.heap.size from⟨by rw[<-Sf];simp,by rw[<-Sr];simp,by rw[<-Wa];simp⟩);clear F L D hs ho hq hk hg T RZ SF O Ty Wp C Sd;have D:0<=(n:Int):=o_
 have D:decide ((n:Int)<0)=false:=o_;have D:n<(u:Int):=o_
 go_enter Tryz.func19,Tryz.ntmps19;go_wp2_with fail;refine HC.o.mono ?_;rintro e I⟨g,c,ps,rfl,ZQ,T9,D⟩;have SI:ps.length=u:=by have:=congrArg length T9;rw[lM,lM,Xx]at this;omega
 have L:n<ps.length:=o_
 have E:bare ps[n]=bare q:=by
  have:=congrArg (λl=>l[n]?) T9;simp only[getElem?_map,gE L,gE (show n<m.length by omega),h4.o]at this;grind
 generalize XJ:ps[n]=p at*;have X5:=(show p.g=q.g by have h:=congrArg Pk.g E;exact h).trans Hg;have e2:p.bG=q.bG:=(by have h:=congrArg Pk.bG E;exact h);have RP:=ay RN D;have Si:=(ah _ I).alloc (ae _) (.cells #[.slice (some ⟨g,0,none⟩) u c] 29);have R:=kp (aa.new I 29 #[.slice (some ⟨g,0,none⟩) u c]);have O:=kp ((V.o.under D).under Si);have Xw:=kp ((X.o.under D).under Si);have WH:=kp (ZQ.below Si);have RR:=ay RP Si;have a2:=kp (show G.heap.size<=I.heap.size/\G.heap.size<=g/\g<I.heap.size from⟨D.size,ZQ.lt.1,ZQ.lt.2⟩);rw[SI];clear Sf Sr Wa c0 HC ZQ D Si V X RP RN;generalize h6:I.alloc _=W5 at*;obtain⟨c5,f5⟩:=WH.o.cell (o:=5) L (by rw[XJ];rfl);obtain⟨D,f6⟩:=WH.o.cell (o:=6) L (v:= .int _ _) (by rw[XJ];rfl);rw[X5]at c5;rw[e2]at D;obtain⟨Y,_,_,_⟩:=O.o.two;have u0:=R.o.cell 0;obtain⟨V,TI⟩:∃V,q.bG=V:=⟨_,rfl⟩;rw[TI]at D TO;go_upto_region 6 with fail;clear c5 f5 D f6 Y u0 h6;rw[show(V+1)=((V+1:Nat):Int) by omega];obtain⟨b,F⟩:∃b,V+1=b:=⟨_,rfl⟩;rw[F];have Y7:=kp (WH.o.a3j (o:=6) L (v:= .int _ b) (p':={ p with bG:=b }) (by rw[XJ];rfl) d_ r_);have Sh:=Uk.o;have V:=a2.o;have f8:=kp (O.o.aJ (p:=⟨g,n*7+6,none⟩) o_ (.int .i64 b));have a3:=kp (Xw.o.aJ (p:=⟨g,n*7+6,none⟩) o_ (.int .i64 b));have b9:=kp (R.o.aJ (p:=⟨g,n*7+6,none⟩) o_ (.int .i64 b));have Sq:=kp (RR.o.setCell (p:=⟨g,n*7+6,none⟩) o_ (.int .i64 b));have y:=kp (show w.heap.size<=g/\x.heap.size<G.heap.size/\w.heap.size<=x.heap.size/\x.heap.size≠g/\I.heap.size≠g/\w.heap.size<=G.heap.size from⟨o_,o_,o_,o_,o_,o_⟩);clear Sh V WH O Xw R RR Uk a2;generalize W5.setCell _ _=Z at*;have B:n<(ps.set n { p with bG:=b }).length:=o_
 obtain⟨D,_⟩:=Y7.o.cell (o:=6) B (v:= .int _ b) (by rw[getElem_set_self];rfl);obtain⟨bd,G,L,_,d0,d1⟩:=g3 Z Sq;rw[b5]at d0 d1;have Y:=f8.o.cell 0;rw[L]at Y⊢;have H:=kp (show Below Z.heap.size Z _ from bR.drew);have a5:d.ai.length<=maxLen:=by unfold maxLen;omega
 go_upto_region 6 with fail;by_cases eK:b<d.ai.length
 .have M:=kp (λW=>pO d b W a5 eK);have He:=kp (show bare { p with bG:=b }=bare (Vx d q)from by
   have e1:Vx d q={ q with bG:=b }:=by
    unfold Vx;grind
   rw[e1];show{ bare p with bG:=b }={ bare q with bG:=b };rw[E])
  refine wp_region_noPanic ?_;refine br (t:=99) (S:=(λw'=>w'.cell? _=some (.slice _ u _)/\w'.cell? _=some (.string _)/\w'.cell? _=some (.slice _ _ _)/\w'.cell? _=some _)) k_ ⟨Y,d0,d1,D⟩ (λf=> ?_);generalize Z.drew=wd at*;refine tD 0 1 2 3 f ?_;refine tD 4 5 6 7 f ?_;refine tk 8 f ?_;refine oT 9 (λK hK=> ?_);go_simp;refine(M _).mono ?_;rintro e w7⟨rfl,SM⟩;have z:=kp SM;clear SM;try go_simp
  refine oK hK ?_ (λlg=> ?_)
  .exact⟨al z f.1,al z f.2.1,al z f.2.2.1,al z f.2.2.2⟩
  clear hK K f;have f:=lg;clear lg;refine tk 10 f ?_;refine bQ k_ ?_ _;try clear f
  refine NoPanic.normal ?_;have r:=kp (H.o.trans (z.o.mono H.o.size));have L:=kp (Sq.o.trans (r.o.mono Sq.o.size));have O:=kp (Y7.o.below r);have J:=kp (b9.o.under r);have V:=kp (a3.o.under r);clear Y d0 d1 D;have u0:=J.o.cell 0;obtain⟨t0,tf⟩:=V.o.one;have Hf:=kp (HR g c _ (w7.setCell ⟨_,0,_⟩ (.slice (some ⟨g,0,none⟩) u c)) ((O.o.aJ y.2.1 _).lower y.2.2.2.2.2) (a3S T9 He) (L.o.setCell y.2.2.1 _));rw[length_set,SI]at Hf;go_wp2;exact bodyPost_ret (by simp[results,go_sem,t0]) rfl Hf
 .have M:=kp (λW=>agE d b W a5 o_);have He:=kp (show bare { p with bG:=0,g:=false }=bare (Vx d q)from by
   have e1:Vx d q={ q with g:=false,bG:=0 }:=by
    unfold Vx;grind
   rw[e1];show{ bare p with bG:=0,g:=false }={ bare q with g:=false,bG:=0 };rw[E])
  refine wp_region_noPanic ?_;refine br (t:=99) (S:=(λw'=>w'.cell? _=some (.slice _ u _)/\w'.cell? _=some (.string _)/\w'.cell? _=some (.slice _ _ _)/\w'.cell? _=some _)) k_ ⟨Y,d0,d1,D⟩ (λf=> ?_);generalize Z.drew=wd at*;refine tD 0 1 2 3 f ?_;refine tD 4 5 6 7 f ?_;refine tk 8 f ?_;refine oT 9 (λK hK=> ?_);go_simp;refine(M _).mono ?_;rintro e w7⟨rfl,SM⟩;have z:=kp SM;clear SM;try go_simp
  refine oK hK ?_ (λlg=> ?_)
  .exact⟨al z f.1,al z f.2.1,al z f.2.2.1,al z f.2.2.2⟩
  clear hK K f;have f:=lg;clear lg;refine tk 10 f ?_;refine bQ k_ ?_ _;try clear f
  refine NoPanic.normal ?_;have r:=kp (H.o.trans (z.o.mono H.o.size));have L:=kp (Sq.o.trans (r.o.mono Sq.o.size));have O:=kp (Y7.o.below r);have J:=kp (b9.o.under r);have V:=kp (a3.o.under r);clear Y d0 d1 D;have e3:=kp (O.o.a3j (o:=5) B (v:= .bool false) (p':={ p with bG:=b,g:=false }) (by rw[getElem_set_self];rfl) d_ o_);have g7:n<((ps.set n { p with bG:=b }).set n { p with bG:=b,g:=false }).length:=o_
  have G:=kp (e3.o.a3j (o:=6) g7 (v:= .int _ 0) (p':={ p with bG:=0,g:=false }) (by rw[getElem_set_self];rfl) d_ o_);obtain⟨c5,f5⟩:=O.o.cell (o:=5) B (v:= .bool p.g) (by rw[getElem_set_self];rfl);obtain⟨D,f6⟩:=O.o.cell (o:=6) B (v:= .int _ b) (by rw[getElem_set_self];rfl);have O:=kp ((J.o.aJ (p:=⟨g,n*7+5,none⟩) y.2.2.2.2.1 (.bool false)).aJ (p:=⟨g,n*7+6,none⟩) y.2.2.2.2.1 (.int .i64 0));have e4:=kp ((V.o.aJ (p:=⟨g,n*7+5,none⟩) y.2.2.2.1 (.bool false)).aJ (p:=⟨g,n*7+6,none⟩) y.2.2.2.1 (.int .i64 0));have V:=kp ((L.o.setCell (p:=⟨g,n*7+5,none⟩) y.1 (.bool false)).setCell (p:=⟨g,n*7+6,none⟩) y.1 (.int .i64 0));go_upto_region 8 with fail;clear c5 f5 D f6;generalize(w7.setCell _ _).setCell _ _=D at*;have u0:=O.o.cell 0;obtain⟨t0,tf⟩:=e4.o.one;have Hf:=kp (HR g c _ (D.setCell ⟨_,0,_⟩ (.slice (some ⟨g,0,none⟩) u c)) ((G.o.aJ y.2.1 _).lower y.2.2.2.2.2) (by rw[set_set,set_set];exact a3S T9 He) (V.o.setCell y.2.2.1 _));rw[length_set,length_set,length_set,SI]at Hf;go_wp2;exact bodyPost_ret (by simp[results,go_sem,t0]) rfl Hf
def agv(s:aN)(b:List Pk)(A:OA)(F n:Nat)(w:World)(hs:cQ w w.heap.size s)(ho:cJ s)(hq:fH w w.heap.size A b)(hk:iT s b)(hn:n<s.af.length)(XI:n<b.length) :
 Calls Tryz.prog 22 #[.agg (aG s),.agg #[.slice A b.length F],.int .i64 (n:Nat)] w (a0R b n (Xh s.af[n] b[n]) w):=by
 have G:=(ah _ w).alloc (ae _) (.cells (aG s) 25);have L:=kp (aa.new w 25 (aG s));obtain⟨O,u⟩:∃O,w.alloc (.cells (aG s) 25)=O:=⟨_,rfl⟩;rw[u]at G L;have ng:=G.alloc G.size (.cells #[.slice A b.length F] 29);have Ty:=kp (aa.new O 29 #[.slice A b.length F]);have SN:=kp (L.o.alloc (.cells #[.slice A b.length F] 29));obtain⟨r,Sr⟩:∃r,O.alloc (.cells #[.slice A b.length F] 29)=r:=⟨_,rfl⟩;rw[Sr]at ng Ty SN;have D:=ng.alloc ng.size (.cells #[.slice none 0 0] 29);have M:=kp (aa.new r 29 #[.slice none 0 0]);have Wp:=kp (Ty.o.alloc (.cells #[.slice none 0 0] 29));have V:=kp (SN.o.alloc (.cells #[.slice none 0 0] 29));obtain⟨C,Wa⟩:∃C,r.alloc (.cells #[.slice none 0 0] 29)=C:=⟨_,rfl⟩;rw[Wa]at D M Wp V;have RN:=kp D;have Vl:=ho.n2;have RZ:=hk.len;have HC:=kp (aaS b A F C ((hq.below D).more D.size) o_ o_);have VG:=kp (λW(hb:Below _ w W)=>(hs.below hb).more hb.size);have b4:=kp (ho.af n hn);have Yd:=kp (hk.ok n _ _ (gE hn) (gE XI));have Y:=kp (show∀g c ps w',UO _ _ g c _ ps->ps.map _=(b.set n _).map _->Below _ w _->a0R b n (Xh s.af[n] b[n]) w _ w' fromλg c ps w' h1 h2 h3=>⟨g,c,_,rfl,h1,h2,h3⟩);generalize a0R b n _ w=Q at*;have d8:=kp (λW hb=>(VG W hb).aj n hn);obtain⟨q,N⟩:∃q,b[n]=q:=⟨_,rfl⟩;obtain⟨d,a8⟩:∃d,s.af[n]=d:=⟨_,rfl⟩;rw[N]at Yd Y;rw[a8]at b4 Yd Y;have f2:=kp N;have f7:=b4.o.n2;have TO:=Yd.o.bG;obtain⟨m,z⟩:∃m,b.length=m:=⟨_,rfl⟩;have Sd:s.af.length=m:=o_
 have Xx:=kp z;have c0:C.cell? ⟨O.heap.size,0,none⟩=some (.slice A m F):=by rw[<-z];exact Wp.o.cell 0
 unfold aG at L SN V u⊢;rw[Sd]at V u hn Vl;rw[z]at HC Sr XI⊢;rw[Sd];have Uk:=kp (show w.heap.size<O.heap.size/\O.heap.size<r.heap.size/\r.heap.size<C.heap.size from⟨by rw[<-u];simp,by rw[<-Sr];simp,by rw[<-Wa];simp⟩);clear G ng D hs ho hq hk N RZ L SN Ty Wp z Sd;have D:0<=(n:Int):=o_
 have h0:decide ((n:Int)<0)=false:=o_;have D:n<(m:Int):=o_
 go_enter Tryz.func22,Tryz.ntmps22;go_wp2_with fail;refine HC.o.mono ?_;rintro e R⟨g,c,ps,rfl,ZQ,T9,O⟩;have X:ps.length=m:=by have:=congrArg length T9;rw[lM,lM,Xx]at this;omega
 have U:n<ps.length:=o_
 have x:bare ps[n]=bare q:=by
  have:=congrArg (λl=>l[n]?) T9;simp only[getElem?_map,gE U,gE (show n<b.length by omega),f2.o]at this;grind
 generalize H:ps[n]=p at*;have X5:p.g=q.g:=by have h:=congrArg Pk.g x;exact h
 have a2:p.bG=q.bG:=(by have h:=congrArg Pk.bG x;exact h);have RP:=ay RN O;have L:=(ah _ R).alloc (ae _) (.cells #[.slice (some ⟨g,0,none⟩) m c] 29);have D:=kp (aa.new R 29 #[.slice (some ⟨g,0,none⟩) m c]);have e5:=kp ((V.o.under O).under L);have Xw:=kp ((M.o.under O).under L);have WH:=kp (ZQ.below L);have RR:=ay RP L;have Z:=kp (show C.heap.size<=R.heap.size/\C.heap.size<=g/\g<R.heap.size from⟨O.size,ZQ.lt.1,ZQ.lt.2⟩);rw[X];clear u Sr Wa c0 HC ZQ O L V M RP RN;generalize b6:R.alloc _=W5 at*;obtain⟨O,f5⟩:=WH.o.cell (o:=5) U (by rw[H];rfl);obtain⟨c6,f6⟩:=WH.o.cell (o:=6) U (v:= .int _ _) (by rw[H];rfl);rw[X5]at O;rw[a2]at c6;obtain⟨z0,_,_,_⟩:=e5.o.two;have u0:=D.o.cell 0;obtain⟨t0,tf⟩:=Xw.o.one;obtain⟨V,TI⟩:∃V,q.bG=V:=⟨_,rfl⟩;rw[TI]at c6 TO;have u:=Uk.o;have L:=Z.o;have f:=kp (show w.heap.size<=g/\r.heap.size<C.heap.size/\w.heap.size<=r.heap.size/\r.heap.size≠g/\R.heap.size≠g/\w.heap.size<=C.heap.size from⟨o_,o_,o_,o_,o_,o_⟩);clear u L Uk Z;rw[TI]at a2;cases y:q.g with
 |false=>
  rw[y]at O X5;have T:=kp (show bare { p with g:=true,bG:=d.ai.length-1 }=bare (Xh d q)from by
   have e1:Xh d q={ q with g:=true,bG:=d.ai.length-1 }:=by
    unfold Xh;grind
   rw[e1];show{ bare p with g:=true,bG:=d.ai.length-1 }={ bare q with g:=true,bG:=d.ai.length-1 };rw[x])
  obtain⟨bd,u,e3,_,d0,d1⟩:=d8 _ RR;rw[a8]at d1;have u:1<=d.ai.length:=o_
  obtain⟨B,u⟩:∃B,d.ai.length=B+1:=⟨d.ai.length-1,o_⟩;have L:d.ai.length-1=B:=o_
  rw[L]at T;rw[u]at d1 f7;rw[e3]at z0⊢;have u:=kp (WH.o.a3j (o:=5) U (v:= .bool true) (p':={ p with g:=true }) (by rw[H];rfl) d_ r_);have d7:n<(ps.set n { p with g:=true }).length:=o_
  have Vg:=kp (u.o.a3j (o:=6) d7 (v:= .int _ B) (p':={ p with g:=true,bG:=B }) (by rw[getElem_set_self];rfl) d_ o_);have I:=kp ((D.o.aJ (p:=⟨g,n*7+5,none⟩) f.2.2.2.2.1 (.bool true)).aJ (p:=⟨g,n*7+6,none⟩) f.2.2.2.2.1 (.int .i64 B));have L:=kp ((Xw.o.aJ (p:=⟨g,n*7+5,none⟩) f.2.2.2.1 (.bool true)).aJ (p:=⟨g,n*7+6,none⟩) f.2.2.2.1 (.int .i64 B));have J:=kp ((RR.o.setCell (p:=⟨g,n*7+5,none⟩) f.1 (.bool true)).setCell (p:=⟨g,n*7+6,none⟩) f.1 (.int .i64 B));go_upto_region 9 with fail;clear O f5 c6 f6 z0 u0 t0 tf b6;generalize(W5.setCell _ _).setCell _ _=W7 at*;have u0:=I.o.cell 0;obtain⟨t0,tf⟩:=L.o.one;have E:=kp (Y g c _ (W7.setCell ⟨_,0,_⟩ (.slice (some ⟨g,0,none⟩) m c)) ((Vg.o.aJ f.2.1 _).lower f.2.2.2.2.2) (by rw[set_set];exact a3S T9 T) (J.o.setCell f.2.2.1 _));rw[length_set,length_set,X]at E;go_wp2;exact bodyPost_ret (by simp[results,go_sem,t0]) rfl E
 |true=>
  rw[y]at O X5;by_cases RH:0<V
  .obtain⟨u,G⟩:∃u,V=u+1:=⟨V-1,o_⟩;have T:=kp (show bare { p with bG:=u }=bare (Xh d q)from by
    have e1:Xh d q={ q with bG:=u }:=by
     unfold Xh;rw[if_pos y,if_pos o_,TI,G];rfl
    rw[e1];show{ bare p with bG:=u }={ bare q with bG:=u };rw[x])
   rw[G]at c6;have Vg:=kp (WH.o.a3j (o:=6) U (v:= .int _ u) (p':={ p with bG:=u }) (by rw[H];rfl) d_ r_);have I:=kp (D.o.aJ (p:=⟨g,n*7+6,none⟩) f.2.2.2.2.1 (.int .i64 u));have L:=kp (Xw.o.aJ (p:=⟨g,n*7+6,none⟩) f.2.2.2.1 (.int .i64 u));have J:=kp (RR.o.setCell (p:=⟨g,n*7+6,none⟩) f.1 (.int .i64 u))
   go_upto_region 9 with fail;clear O f5 c6 f6 z0 u0 t0 tf b6;generalize W5.setCell _ _=W7 at*;have u0:=I.o.cell 0;obtain⟨t0,tf⟩:=L.o.one;have E:=kp (Y g c _ (W7.setCell ⟨_,0,_⟩ (.slice (some ⟨g,0,none⟩) m c)) ((Vg.o.aJ f.2.1 _).lower f.2.2.2.2.2) (a3S T9 T) (J.o.setCell f.2.2.1 _));rw[length_set,X]at E;go_wp2;exact bodyPost_ret (by simp[results,go_sem,t0]) rfl E
  .have G:V=0:=o_
   have T:=kp (show bare p=bare (Xh d q)from by
    have e1:Xh d q=q:=by
     unfold Xh;grind
    grind)
   have u:=kp (show ps.map _=(b.set n _).map _ from by
    have h1:=a3S (n:=n) T9 T;rw[<-h1,<-H,set_getElem_self])
   subst G;obtain⟨t0,tf⟩:=Xw.o.one;have E:=kp (Y g c _ (W5.setCell ⟨_,0,_⟩ (.slice (some ⟨g,0,none⟩) m c)) ((WH.o.aJ f.2.1 _).lower f.2.2.2.2.2) u.o (RR.o.setCell f.2.2.1 _));rw[X]at E;go_wp2;exact bodyPost_ret (by simp[results,go_sem,t0]) rfl E
end Tc
end Go.Proofs.YtibjlpkpljnicaaGreatDoor
