/- Parts of a proof. -/
import Derived.Test.YtibjlpkpljnicaaGreatDoorL29
import Derived.Test.YtibjlpkpljnicaaGreatDoorL48
import Derived.Test.YtibjlpkpljnicaaGreatDoorL52
set_option maxRecDepth 100000
set_option maxHeartbeats 8000000
set_option linter.all false
namespace Go.Proofs.YtibjlpkpljnicaaGreatDoor
namespace Tc
open List Go.RowKit Base Crc Go.Maps Go.WideMaps Go.Proofs.Tryz
def so(s:aN)(rows:List Rw):Prop:=rows.length<=64/\∀ps,jk s rows ps->∀x∈ps,kO s x.1/\GA s.aC.length 1 x.2
def FF(s:aN)(rows:List Rw)(w:World)(e:Ending)(w':World):Prop:=∃(A:OA)(c:Nat)(l:List Fa),e = .returned (.tuple #[U A l.length c,I 0])/\eO s rows l/\bM w' w'.heap.size A l/\E w w'
def JT{s A rows c w}(h:cQ w w.heap.size s)(y:fT w w.heap.size A rows)(p:iC s rows)(d:so s rows) :
 Calls prog 33 #[.agg (aG s),U A rows.length c] w (FF s rows w):=by
 apply(JS s A _ c w h y p d.1).mono;rintro e w'⟨ps,D,h1,h2,n,f,x⟩;have m:ps.length<=64:=by
  obtain⟨l,z,rfl⟩:=h1;rw[kH,z.1];exact d.1
 obtain⟨r,q⟩:=Ja m (d.2 _ h1) h2 n;unfold qF at f;rw[q]at f;obtain⟨v,l,B,g,b,_⟩:=f;obtain⟨u,C,rfl⟩:=b.form;exact⟨u,C,l,B,BN p.bO h1 m (d.2 _ h1) h2 n q g,b.jW,x⟩
def FA(s:aN)(fs:List Fa)(w:World)(e:Ending)(w':World):Prop:=E w w'/\((dv s fs 20000=none/\e = .returned (.tuple #[.pointer none,I 7])) \/
 ∃(b:List aQ)(ga:Nat)(F:Nat->Prop),e = .returned (.tuple #[Y ga 0,I 0])/\dv s fs 20000=some b/\dr ga (s.af.map aW) s.aC.length b none [] w' F/\∀k,F k->w.heap.size<=k)
def GF{s Af cf fs w}(h:cQ w w.heap.size s)(d:bM w w.heap.size Af fs)(v:cJ s)(m:iE s fs) :
 Calls prog 34 #[.agg (aG s),I 20000,U Af fs.length cf] w (FA s fs w):=by
 apply(GG s 20000 _ _ _ w h d (AE v m d_)).mono;rintro e w'⟨h1,h2⟩;cases b:dv s fs 20000 with
 |none=>exact⟨(h2 b).2,.inl ⟨b,(h2 b).1⟩⟩
 |some p=>
  obtain⟨ga,A,D,c,H,ys,g,rfl,C,r,q,z,u,E,G,x,y,F⟩:=h1 p b;refine⟨E,.inr ⟨p,_,_,rfl,b,⟨A,D,c,H,_,_,g,C,r,q,z,u,⟨.inl rfl,λf d=>r_⟩,rfl⟩,λk hk=> ?_⟩⟩;obtain rfl|hk|hk|hk:=hk
  . omega
  .grind
  .obtain hk|⟨n,B,hk⟩:=hk
   .grind
   grind
  .obtain⟨_,_,hk⟩|⟨f,d,_⟩:=hk
   .grind
   .cases d
def qC(s:aN)(rows:List Rw)(w:World)(e:Ending)(w':World):Prop:=E w w' /\
 ((e = .returned (.tuple #[.pointer none,.pointer none,.bool true])/\∀fs d,eO s rows fs->dv s fs 20000=some d->eJ s.af.length s.aC.length 49200 d d.length=none) \/
 ∃(fs:List Fa)(d:List aQ)(S:LN)(b:ByteArray)(ga:Nat)(c:dd)(f F:Nat->Prop),e = .returned (.tuple #[Y ga 0,Y c.gp 0,.bool true])/\eO s rows fs/\dv s fs 20000=some d/\eJ s.af.length s.aC.length 49200 d d.length=some (S,b)/\c.Ok/\c.b=bl b/\c.rt=(iu S:Nat) /\
  dr ga (s.af.map aW) s.aC.length d none [] w' f/\eU c w' F/\(∀k,f k->w.heap.size<=k/\¬F k)/\∀k,F k->w.heap.size<=k)
def AY s A rows c w(h:cQ w w.heap.size s)(hr:fT w w.heap.size A rows)(ho:iC s rows)(hg:so s rows) :
 Calls prog 11 #[.agg (aG s),U A rows.length c] w (qC s rows w):=by
 have z:=(ah _ w).alloc (ae _) (.cells (aG s) 25);have D:=J (aa.new w 25 (aG s));have C:=J z;have u:=J (λW(I:E w W)=>(h.below I).more I.size);have y:=J (λW I=>JT (c:=c) (u W I) ((hr.below I).more I.size) ho hg);have T:=J (λAf cf fs W I L(G:eO s rows fs)=>GF (Af:=Af) (cf:=cf) (u W I) L G.bO G.ok);have Z:Kp (∀w',(∀fs f,eO s _ _->dv s _ _=some f->eJ _ _ _ f _=none)->E w _->qC s rows w _ w'):=λw' h1 h2=>⟨h2,.inl ⟨rfl,h1⟩⟩;have e9:Kp (∀w' fs f S b ga(c:dd) r F gp,gp=c.gp->eO s _ _->dv s _ _=some f->eJ _ _ _ f _=some _->c.Ok->c.b=bl b->c.rt=(iu S)->dr _ _ _ f _ _ _ r->eU c _ F->(∀k,r k->w.heap.size<=k/\¬F k)->(∀k,F k->w.heap.size<=k)->E w _->qC s rows w (.returned (.tuple #[Y ga 0,Y _ 0,.bool true])) w'):=λw' fs f S b ga c r F gp e h1 h2 h3 M V L G h8 u d8 O=>⟨O,.inr ⟨fs,f,S,b,ga,c,r,F,o_,h1,h2,h3,M,V,L,G,h8,u,d8⟩⟩;generalize qC s _ w=Q at*;clear h hr ho hg z;unfold aG at D C y T⊢;obtain⟨z,L,_,_⟩:=D.two;generalize M:w.alloc _=O at*;have G:=J (y O C);go_in;go_wp2_with fail;apply G.mono;clear M z L y G;rintro e w1⟨Al,cl,l,rfl,G,M,y⟩;have p:=ay C y;have c9:=bu D y;have O:=J G;have V:=J (T _ cl l _ p M G);clear y G M D C T;obtain⟨z,L,_,_⟩:=c9.two;go_wp2_with fail;apply V.mono;clear z L V;rintro e L⟨y,⟨M,rfl⟩|⟨f,ga,r,rfl,G,z,D⟩⟩
 .have Hf:=J (Z L (λfs f h1 h2=>by
   rw[AW (Bb h1 O),M]at h2;cases h2) (p.trans (y.mono p.size)))
  go_wp2;go_ret3;exact Hf
 have c8:=J G;have L:=z.at_;have V:(s.af.map aW).length=s.af.length:=o_;have B:=ay p y;have n:=J (Qi L (wV O.bO O.ok G) (wW O.bO O.ok G d_ d_).1);rw[V]at n;have M:=J z;have d7:=J (λk hk=>aF p.size (D k hk));clear G z L V y D p c9;cases g:eJ s.af.length s.aC.length 49200 f f.length with
 |none=>
  rw[show kL _ _ _ f=(.empty,0,7) by unfold kL;rw[g]]at n;have V:=J g;clear g;go_wp2_with fail;apply n.mono;rintro e D⟨rfl,z⟩;have Hf:=J (Z D (λfs y h1 h2=>by
   rw[AW (Bb h1 O),c8]at h2;injection h2 with h2;subst h2;exact V) (B.trans (z.mono B.size)))
  go_wp2;go_ret3;exact Hf
 |some st=>
  obtain⟨S,b⟩:=st;rw[show kL _ _ _ f=(b,iu S,0) by unfold kL;rw[g]]at n;have y:=zi _ o_ _ g;have G:=(uH _ o_ _ g).2.1;dsimp only at y G;have L:(iu S)<max ((bl b).length:Int) 1:=by
   have:iu S=0\/iu S<b.size:=by
    unfold iu;cases Z:S.getLast? with
    |none=>simp
    |some x=>exact .inr (y.lt x (mem_of_getLast? Z))
   have h0:(bl b).length=b.size:=rfl;omega
  obtain⟨V,e5,b0⟩:=j3_ g G L;obtain⟨tp,X⟩:=e_ (iu S);have d5:=J X;rw[X]at n b0;clear g y G L X;go_wp2_with fail;apply n.mono;rintro e D⟨rfl,z⟩;have b2:=ay B z;have y:=J (M.below z);have G:=Dv.Lu 500 D d_ d_;clear z n M B;go_wp2_with fail;apply G.mono;clear G;rintro e w4⟨d,gs,rfl,hd,z⟩;have Hd:=J hd;have c3:=ay b2 z;have H:=J (y.below z);have M:=J (λk hk=>(dr.ok _ _ _ _ _ _).lt D r y k hk);have G:=J (rG hd (⟨rfl,rfl,rfl,rfl,d_,rfl⟩) rfl);clear hd z y;go_wp2_with fail;apply G.mono;clear G;rintro e y⟨gp,gr,gw,gc,gt,z,rfl,hN,u,z,G,d0⟩;have c4:∀k,nD _ _ _ _ _ k->¬(k=d\/k=gs):=λk hk e=>by
   have h1:=G k hk;have h2:=(Hd.own k e).2;omega
  obtain⟨L,R,Z⟩:=j3_ (NQ (b:=bl b) hN c4 z u e5 o_ b0) G d0;clear hN u z G d0 c4;rw[show str _=b from rfl]at L;go_wp2_with fail;apply L.mono;clear L;rintro e z⟨rfl,cc,F,G,e2,L,ok,hI,m⟩;have z3:=b2.size;have z4:=c3.size;have z5:=Z.size;have q:∀k,(k=d\/k=gs)->D.heap.size<=k:=λk hk=>(Hd.own k hk).1;have u:∀k,F k->D.heap.size<=k:=λk hk=>by
   obtain(h1|h1)|⟨h1,_⟩:=m.sub k hk
   .exact q k h1
   .exact aF (Nat.le_of_lt_succ (Nat.lt_succ_of_le (by have:=(Hd.own d (.inl rfl)).2;have:=(Hd.own d (.inl rfl)).1;have:=R k h1;omega))) (ae _)
   .have:=(Hd.own d (.inl rfl));omega
  have v:=(dr.ok _ _ _ _ _ _).same _ y r H z5 λk hk=>Z.block k ((dr.ok _ _ _ _ _ _).lt _ r H k hk) (λe=>by have:=M k hk;have:=q k (.inl e);omega);have D:∀k,r k->¬((k=d\/k=gs)\/nD _ _ _ _ _ k):=λk hk e=>by
   have h1:=M k hk;obtain e|e:=e
   .have:=q k e;omega
   .have:=R k e;have:=(Hd.own d (.inl rfl));omega
  have N:=(dr.ok _ _ _ _ _ _).same y z r v m.ax.size λk hk=>m.still ((dr.ok _ _ _ _ _ _).lt y r v k hk) (D k hk);have b9:E w y:=c3.trans (Z.toBelow (λk e=>by have:=q k (.inl e);omega) o_);have y:E w z:=b9.trans (m.ax.toBelow (λk e=>by
   obtain e|e:=e
   .have:=q k e;omega
   .have:=R k e;omega) o_)
  have Hf:=J (e9 z l f S b _ _ r F _ G.symm O c8 V ok e2 (by rw[L,d5]) N hI (λk hk=>⟨d7 k hk,λe=>by have:=u k e;have:=M k hk;omega⟩) (λk hk=>r_) y);clear G e2 L ok hI m z3 z4 z5 q u v D N b9 y;go_wp2;go_ret3;exact Hf
end Tc
namespace Tc
open List Go.RowKit Base Crc Go.Proofs.Tryz
def tz{w B n c k A xs}(h:cV w B (U A n c) xs)(hk:cz A xs k):B<=k:=by
 obtain⟨off,e,b⟩|⟨f,d,off,e,b⟩:=hk
 .exact(h.1.lt k (by rw[e];rfl)).1
 .exact h.2.2 f d k _ e b
def yI{w w' F A d}(h:Row w w.heap.size A d)(ht:aq F w w')(g:∀k,cE A d k->¬F k):Row w' w'.heap.size A d:=by
 obtain h|⟨b,off,rfl,e,f⟩:=h
 .exact .inl h
 .by_cases c:d=[]
  .exact .inl c
  .exact .inr ⟨b,_,rfl,bh e ht.size,λj v m=>(bF (ht.block b e (g b ⟨c,_,rfl⟩))).trans (f j v m)⟩
def dr.PG{ga m X d w F}(h:dr ga X m d none [] w F){Ax ys}(g:cG w w.heap.size Ax ys):dr ga X m d Ax ys w (λk=>F k\/cz Ax ys k):=by
 obtain⟨A,r,c,s,most,xs,b,h1,h2,n,p,e,u,rfl⟩:=h;refine⟨A,r,c,s,_,_,b,h1,h2,n,p,e,g,funext λk=>propext ?_⟩;constructor
 .rintro((h|h|h|h)|h)
  .omega
  .grind
  .grind
  .obtain⟨_,_,h⟩|⟨f,q,_⟩:=h
   .grind
   .cases q
  grind
 grind
def Nw B:so (ed B) (ka B):=⟨(show 3<=64 by decide),λps h=>by
 rw[um (qf B) h (ud B)];exact Dr B⟩
def Ad{s rows g fs ys d S b}{c:dd}{gs cx Ax}(h:eO s rows fs)(q:rows.length<=40)(f:dv s fs 20000=some d)(p:iT s g)(e:ys.map Fa.keys=s.af.map aW)(m:eJ s.af.length s.aC.length 49200 d d.length=some (S,b))(ok:c.Ok)(r:c.b=bl b)(ht:c.rt=(iu S:Nat)):∃st,jg (iq (fi c Ax ys) 48 (.agg #[Y c.gp 0,U Ax ys.length cx,I s.aC.length]) gs c.top) gs ys s g fs st s.aC.length c.top (dV S):=by
 obtain⟨st,h1,h2,n⟩:=h.state f;exact⟨_,Gm h q f p e h1 h2 n m ok r ht _ _ _⟩
def Bt{s rows b fs ps r}(h:eO s rows fs)(d:rows.length<=40)(g:iT s b)(e:jk s rows ps)(ht:ev (gG fs (s.af.zip b)) r):ev (dH ps (s.af.zip b)) r:=
 Jm h e (h.dw d) (λi x hx=>by
  obtain⟨c,f⟩:=qy hx;rw[Nat.zero_add];exact⟨c,g.ok i _ _ c f⟩) ht
def OD w:Calls prog 8 #[] w (cy (λr=>r=true) w):=by
 have HR:=J (λr w' h u=>cy.mono (P:=λr=>r=true) (w:=w) (r:=r) (w':=w') h u);have V:=J (Nt w);generalize cy (λr=>r=true) w=Q at*;obtain⟨B,G⟩:=e_ w.heap.size;go_in;go_wp2_with fail;apply V.mono;rintro e D⟨rfl,Y,z,E⟩;rw[G]at Y z;have u:=J (λW h y=>(show Calls _ _ #[.agg _,U _ 3 3] W _ from AY _ (some ⟨B+16,0,none⟩) (ka B) 3 W h y (Dq B) (Nw B)));have c8:=J (qf B);have c9:Kp ((ed B).af.length=2):=rfl;have O:Kp (∀fs r,eO _ (ka B) _->ev (gG fs ((ed B).af.zip (replicate 2 _))) r->r=[([],⟨3,4,_,5,0,0,0,0,0,0⟩)]):=λfs r h1 h2=>QL RE (cons_ne_nil _ _) NA (Bt h1 (show 3<=40 by decide) (DE (qf B)) (ud B) h2);have H:Kp (¬ ∀fs y,eO _ _ fs->dv _ fs _=some y->eJ _ _ _ y y.length=none):=(λh=>by
  obtain⟨y,S,b,h1,h2⟩:=NC B;rw[h _ _ (Nu B) h1]at h2;cases h2)
 have e0:Kp (iT _ (replicate 2 _)):=DE (qf B);have a7:Kp ((ka B).length<=40):=(show 3<=40 by decide);rw[G];obtain⟨s,Z⟩:=e_ (ed B);obtain⟨rows,G⟩:=e_ (ka B);rw[Z]at Y u c8 c9 O H e0⊢;rw[G]at z u O H a7;unfold aG at u⊢;have n:=(ah _ D).alloc (ae _) (.cells (aG s) 25);have T:=J (aa.new D 25 (aG s));unfold aG at n T;have L:=J (E.trans (n.mono E.size));have b5:=J ((Y.below n).more n.size);have i5:=J ((z.below n).more n.size);generalize h7:D.alloc _=W1 at*;have e3:=J (u _ b5 i5);generalize(some _:OA)=Ar at*;have a0:=J L;have d9:Kp _:=T.lt;clear n Y z E V u Z G;obtain⟨V,Z,_,_⟩:=T.two;go_wp2_with fail;apply e3.mono;clear h7 e3 V Z;rintro e G⟨u,⟨rfl,I⟩|⟨fs,y,S,b,ga,c,y,F,rfl,e6,g3,d2,ok,e8,g0,_,g8,_,hF⟩⟩
 . trivial
 have i9:=bu T u;have h9:=J u;have g5:=J e6;have i8:=J g3;have i0:=J d2;have k0:=J ok;have g6:=J (And.intro e8 g0);have i4:=J g8;have HF:=J hF;have y:=J (λW(hW:E _ W)=>DK s W ((b5.below hW).more hW.size) c8);unfold aG at y;obtain⟨gp,z⟩:=e_ c.gp;rw[z];have f7:=J z;clear u e6 g3 d2 ok e8 g0 g8 hF z T L;go_upto_region 5 with fail;have Hd:Kp (E _ _):=h9.drew;have u:=J (i4.same (w':=G.drew) λk hk=>rfl);obtain⟨V,Z,_,_⟩:=(aa.two (show aa G.drew _ _ _ from i9));have b1:=J (λW=>QM s W c9);unfold aG at b1;apply wp_region_noPanic;refine br (t:=99) (S:=(λw'=>C w' _ 0 _/\C w' _ 1 _)) k_ ⟨V,Z⟩ (λd=> ?_);generalize G.drew=wd at*;apply tD 0 1 4 5 d;apply tk 7 d;refine oT 2 (λK hK=> ?_);go_simp;apply(y _ Hd).mono;rintro e w3⟨Ax,cx,ys,rfl,V,Z,L⟩;have G:=J V;have e7:=J Z;have N:=J L;clear V Z L;try go_simp
 refine oK hK ?_ (λf=> ?_)
 .exact⟨al N d.1,al N d.2⟩
 clear hK K d;have d:=f;clear f;have g9:=J (Hd.trans (N.mono Hd.size));have L:Kp (fi c _ _ _ (λk=>F k\/cz _ _ k)):=⟨F,u.same λk hk=>N.block k (u.lt hk),G.at_,λk hk hf=>by have h1:=tz G hk;have h2:=u.lt hf;omega,rfl⟩;have u:=J (Ex (cx:=cx) (m:=s.aC.length) L);rw[f7]at u;refine oT 3 (λK hK=> ?_);go_simp;apply u.mono;rintro e V⟨gs,rfl,f8,u,L⟩;have e4:=J f8;have Z:=J u;have h8:=J L;clear f8 u L;try go_simp
 refine oK hK ?_ (λf=> ?_)
 .exact⟨al Z d.1,al Z d.2⟩
 clear hK K d;have d:=f;clear f;have u:=J (g9.trans (Z.mono g9.size));refine oT 6 (λK hK=> ?_);go_simp;apply(y V u).mono;rintro e w5⟨y,i3,R,rfl,b0,a9,f2⟩;have L:=J b0;have d3:=J a9;have x:=J f2;clear b0 a9 f2;try go_simp
 refine oK hK ?_ (λf=> ?_)
 .exact⟨al x d.1,al x d.2⟩
 clear hK K d;have d:=f;clear f;have g4:=J (u.trans (x.mono u.size));refine oT 8 (λK hK=> ?_);go_simp;apply(b1 _).mono;rintro e w6⟨Aq,cq,rfl,f5,u,f6⟩;have k1:=J f5;have k2:=J u;have v:=J f6;clear f5 u f6;try go_simp
 refine oK hK ?_ (λf=> ?_)
 .exact⟨al v d.1,al v d.2⟩
 clear hK K d;have d:=f;clear f;have g7:=J (g4.trans (v.mono g4.size));obtain⟨st,q⟩:=Ad (gs:=gs) (cx:=cx) (Ax:=Ax) g5 a7 i8 e0 e7 i0 k0 g6.1 g6.2;rw[f7]at q;have X:=q.zf y d3;have u:=q.src.lt V _ e4;have d6:=q.src.same V _ _ e4 (aF x.size v.size) λk hk=>(v.block k (bh (u k hk) x.size)).trans (x.block k (u k hk));have m7:=Hd.size;have m6:=N.size;have m4:=Z.size;have Z:=x.size;have i2:=v.size;have c3:∀k,cz y R k->V.heap.size<=k/\k<w5.heap.size:=λk hk=>⟨tz L hk,L.at_.bU hk⟩;have V:∀k,((k=gs\/(F k\/cz _ _ k))\/cz y R k)->W1.heap.size<=k/\k<w5.heap.size:=λk hk=>by
  obtain h|h:=hk
  .refine⟨?_,bh (u k h) Z⟩;obtain h|h|h:=h
   .have:=h8.o;omega
   .exact HF k h
   .have:=tz G h;omega
  grind
 have Z:=(show wk _ y R _ (λk=>(k=gs\/(F k\/cz _ _ k))\/cz y R k)from⟨_,d6,(L.at_.below v).more i2,λk hk hf=>r_,rfl⟩);have G:=J (wE X y _ i3 cq _ _ Z (λw F⟨_,_,h,_⟩=>h) (λW hW=>(b5.below (g7.trans (hW.toBelow (λk hk=>(V k hk).1) o_))).more (by have:=hW.size;omega)) (λW hW=>⟨yI k1.row hW λk hk hf=>by have h1:=k2 k hk;grind,λp L=>by
  rw[eq_of_mem_replicate L];exact⟨.inl rfl,av _⟩⟩))
 have b8:=J (λr=>O _ r g5);unfold aG at G;rw[length_replicate]at G;have I:∀k,((k=gs\/(F k\/cz _ _ k))\/cz y R k)->D.heap.size≠k:=λk hk e=>by
  have:=(V k hk).1;have:=d9.o;omega
 have O:D.heap.size<w6.heap.size:=by have:=d9.o;omega
 clear q X u d6 c3 Z;refine oT 9 (λK hK=> ?_);go_simp;apply G.mono;rintro e L⟨u,l7,u,ps,u,rfl,y,z,d7,_,_,G⟩;have d1:=J y;have d5:=J z;have Z:=J d7;have u:=J G;clear y z d7 G;try go_simp
 refine oK hK ?_ (λf=> ?_)
 .exact⟨(bF (u.still O (λh=>I _ h rfl))).trans d.1,(bF (u.still O (λh=>I _ h rfl))).trans d.2⟩
 clear hK K d;have d:=f;clear f;apply tD 10 11 12 13 d;apply tk 14 d;refine bQ k_ ?_ _;try clear d
 apply NoPanic.normal;have z:E w L:=(a0.trans (g7.mono a0.size)).trans (u.ax.toBelow (λk hk=>by have h1:=(V k hk).1;have h2:=a0.size;omega) (by have h2:=a0.size;omega));have D:=J (HR _ L rfl z);have h0:=b8 _ d1;have u:=d5.o;rw[h0]at u;obtain⟨g,rfl⟩:∃g,l7=[g]:=by
  have y:=congrArg length u;rw[lM,lM]at y;exact length_eq_one_iff.1 y
 have y:g.ag=⟨3,4,_,5,0,0,0,0,0,0⟩:=congrArg Prod.snd (List.cons.inj u).1;obtain⟨E,E,rfl,_,_,x1,x2,_⟩:=Z.cells 0 Nat.zero_lt_one;rw[show([g])[0]=g from rfl,y]at x1 x2;simp at x1 x2;clear h0 u y I V z Z;go_wp2;exact D
end Tc
namespace Tc
open List Go.RowKit Base Go.Proofs.Tryz
def PF{d}(hd:da d){p}(h:gz d p):p.set.length<=1000:=by
 obtain⟨n,_⟩|⟨_,q⟩|⟨_,m,g⟩:=h.kind
 .rw[h.free n];exact av _
 .grind
 .have f:p.set.Nodup:=by
   rw[nodup_iff_pairwise_ne,pairwise_iff_getElem];intro i j hi b c e;have h1:=m.less hi b;rw[e,m.less,decide_eq_true c]at h1;simp at h1
  have h1:=xY _ (bE d p.t) f λx hx=>r_
  have h2:=(hd.ai _ h.t).n2;have e:(bE d p.t)=(d.ai[p.t]'h.t).ar:=by unfold bE;rw[gE h.t];rfl
  grind
def Nr{d p}(h:lD d p):qh p=oG (nE p):=congrArg Array.toList h.pk
def Ns{w B A l}(h:jt w B A l)(c:∀p∈l,∃d,da d/\lD d p):fH w B A (l.map nE):=by
 refine⟨?_,λp b=> ?_⟩
 .have e:(l.map nE).flatMap oG=l.flatMap qh:=by
   rw[flatMap_map];exact Bk λp b=>by
    obtain⟨d,_,h2⟩:=c p b;exact(Nr h2).symm
  rw[e];exact h.row
 .obtain⟨q,f,rfl⟩:=mem_map.1 b;obtain⟨d,h1,h2⟩:=c q f;exact⟨(h.each q f).set,aF (PF h1 h2.ok) d_⟩
def O9{s l}(h:sC s l):iT s (l.map nE)/\∀p∈l,∃d,da d/\lD d p:=by
 obtain⟨h1,h2,c⟩:=h;refine⟨⟨o_,λi d p hd b=> ?_⟩,λp b=> ?_⟩
 .rw[getElem?_map]at b;obtain⟨q,e,rfl⟩:=Option.map_eq_some_iff.1 b;exact(c i d q hd e).ok
 .obtain⟨i,hi,rfl⟩:=getElem_of_mem b;have hd:i<s.af.length:=o_;exact⟨_,h1.af i hd,c i _ _ (gE hd) (gE hi)⟩
def IW{s rows c}(g:iC s rows)(u:rows.length<=40)(e:∀r∈rows,∀x∈r.cj,fit x)(m:kn s rows rows.length c)(q:∀f∈c,ky f.ag):so s rows/\uQ s c/\jk s rows (aw c):=by
 have b:jk s _ _:=⟨c,m,rfl⟩;obtain⟨g1,g2⟩:=E8 g e b λx hx=>by
  obtain⟨f,p,rfl⟩:=mem_map.1 hx;exact q f p
 refine⟨⟨o_,λps h=>by rw[um g.bO h b];omega⟩,⟨by rw[<-kH];omega,λx hx=>(g2 x hx).2,λf p=> ?_⟩,b⟩;have hk:=(g2 _ (mem_map_of_mem p)).1;refine⟨hk.len,λi d k hd n=> ?_⟩;obtain⟨h1,rfl⟩:=aO hd;obtain⟨h2,rfl⟩:=aO n;have h0:0<(s.af[i]'h1).ai.length:=(g.bO.af i h1).n1;have:=hk.each i h1 h2 h0;unfold bE;rw[gE h0];exact this
def Jv{s c n l}(d:cJ s)(z:iT s c)(A:uQ s n)(ht:ev (dH (aw n) (s.af.zip c)) (aw l)):∀f∈l,fS (s.af.zip c) f.keys:=λf m=>by
 obtain⟨x,hx,e⟩:=(ht.keys f.keys).1 ⟨_,mem_map_of_mem m,rfl⟩;obtain⟨y,B,rfl⟩:=mem_map.1 hx;obtain⟨g,u,rfl⟩:=mem_map.1 (mem_filter.1 B).1;rw[<-e];obtain⟨v,r⟩:=A.key g u;refine Bz _ 0 g.keys (λx hx=> ?_) λi x hx=> ?_
 .obtain⟨i,hi⟩:=getElem?_of_mem hx;obtain⟨b,C⟩:=qy hi;have q:=aO b;have p:=d.af i q.1;rw[q.2]at p;exact⟨p,z.ok i _ _ b C⟩
 .obtain⟨b,_⟩:=qy hx;grind
def xS:∀(L:List (au×Pk))(ks:LN),(cX L ks).length<=L.length
 | [],_=>ae _
 |x::L,ks=>by
  rw[cX];split
  .exact Nat.succ_le_succ (xS L _)
  .exact Nat.le_succ_of_le (xS L _)
def xh{w w' F A l}(h:iR w w.heap.size A l)(ht:aq F w w')(b:∀k,pM A l k->¬F k):iR w' w'.heap.size A l:=
 ⟨yI h.row ht λk hk=>b k (.inl hk),λg c=>yI (h.each g c) ht λk hk=>b k (.inr ⟨g,c,hk⟩)⟩
def zU{s rows b fs ps r}{c l2:List Gp}(h:eO s rows fs)(z:rows.length<=40)(d:cJ s)(y:iT s b)(B:jk s rows ps)(C:ps.length<=40)(ht:ev (dH ps (s.af.zip b)) r)(h2:l2.map hZ=r.map λx=>(cX (s.af.zip b) x.1,x.2)){m}(f:ev (gG fs (s.af.zip b)) m)(h1:c.map hZ=m.map λx=>(cX (s.af.zip b) x.1,x.2)) :
 c.map hZ=l2.map hZ/\c.length<=1000/\∀g∈c,g.names.length<=1000:=by
 have e:=(Bt h z y B f).one ht;rw[e]at h1;refine⟨h1.trans h2.symm,?_,λg q=> ?_⟩
 .have u:=congrArg length h1;rw[lM,lM]at u;have:=uy ht;have n:(dH ps (s.af.zip b)).length<=ps.length:=by
   unfold dH;rw[lM];grind
  omega
 .have n:hZ g∈r.map λx=>(cX (s.af.zip b) x.1,x.2):=r_
  obtain⟨x,_,A⟩:=mem_map.1 n;have p:cX _ _=g.names:=congrArg Prod.fst A;rw[<-p];have v:=xS (s.af.zip b) x.1;rw[length_zip]at v;have:=d.n2;omega
end Tc
namespace Tc
open List Go.RowKit Base Crc Go.Proofs.Tryz
def Ab{ga m X b Ax ys N gs d top} w F(h:iq (dr ga X m b Ax ys) N d gs top w F):cG w w.heap.size Ax ys:=by
 obtain⟨_,_,_,_,⟨_,_,_,_,_,_,_,_,_,_,_,_,c,_⟩,_⟩:=h;omega
def Nl{c Ax ys N gs d top} w F(h:iq (fi c Ax ys) N d gs top w F):cG w w.heap.size Ax ys:=by
 obtain⟨_,_,_,_,⟨_,_,b,_⟩,_⟩:=h;omega
def Bu{w B k A l}(h:iR w B A l)(hk:pM A l k):k<B:=by
 obtain hk|⟨g,b,hk⟩:=hk
 .exact Row.bU h.row hk
 .exact Row.bU (h.each g b) hk
def QK s A rows c Aq l cq w(h:cQ w w.heap.size s)(hr:fT w w.heap.size A rows)(hq:jt w w.heap.size Aq l) :
 Calls prog 3 #[.agg (aG s),U A rows.length c,.agg #[U Aq l.length cq]] w (cy (λr=>r=true) w):=by
 have HR:=J (λr w' h hb=>cy.mono (P:=λr=>r=true) (w:=w) (r:=r) (w':=w') h hb);have G:=(ah _ w).alloc (ae _) (.cells (aG s) 25);have L:=J (aa.new w 25 (aG s));obtain⟨w1,s8⟩:=e_ (w.alloc (.cells (aG s) 25));rw[s8]at G L;have q8:=G.alloc G.size (.cells #[U Aq l.length cq] 29);have z:=J (aa.new w1 29 #[U Aq l.length cq]);have D:=J (L.alloc (.cells #[U Aq l.length cq] 29));obtain⟨w2,O⟩:=e_ (w1.alloc (.cells #[.slice Aq l.length cq] 29));rw[O]at q8 z D;have s5:=J q8;have D3:=J G.size;have a3:=J (λW(u:E w W)=>(h.below u).more u.size);have V:=J (λW(u:E w W)=>(hq.below u).more u.size);have o4:Kp (∀W,E w W->Calls _ 5 #[.agg _,U A _ c,I 5,I 40] W _):=λW u=>Gq s A _ c 5 40 W (a3 W u) ((hr.below u).more u.size) d_ d_;have p7:=J (λW u=>On _ l cq W (V W u));have Z:=J (λW u=>Pt s _ l cq W (a3 W u) (V W u));have s6:=J (λW u y=>Oj s A _ c W (a3 W u) ((hr.below u).more u.size) y);have o7:=J (λW u y hg=>AY s A _ c W (a3 W u) ((hr.below u).more u.size) y hg);have HX:=J (λW u y=>DK s W (a3 W u) y);have u4:=J OD;have A6:=J Rc;have i3:Kp _:=λr hx x hv=>Fk ((hr.each r hx).wf x hv);have c8:Kp (∀W,E w W->Calls _ 8 _ W (R_ _ w)):=λW u=>(u4 W).mono (by
  rintro e w'⟨_,rfl,rfl,hb⟩;exact⟨rfl,u.trans (hb.mono u.size)⟩)
 generalize cy (λr=>r=true) w=Q at*;unfold aG at L D o4 Z s6 o7 HX s8⊢;obtain⟨nl,r9⟩:=e_ l.length;rw[r9]at z p7 Z O⊢;have H3:=J r9;clear h hr hq G q8 u4 r9;obtain⟨z0,z1,_,_⟩:=D.two;have G:=J (o4 _ s5);go_in;go_wp2_with fail;apply G.mono;clear s8 O z0 z1 G o4 L;rintro e w3⟨O,rfl,B2,G⟩;have L:=ay s5 G;have F3:=bu D G;have p8:=bu z G;have D6:Kp (w.heap.size<w2.heap.size/\w1.heap.size<w2.heap.size/\w.heap.size<=w1.heap.size/\w2.heap.size<=w3.heap.size):=⟨D.lt,z.lt,D3,G.size⟩;clear G D z s5 D3;cases O with
 |false=>
  go_wp2_with fail;apply(c8 _ L).mono;rintro e D⟨rfl,z⟩;have Hf:=J (HR _ D rfl z);go_wp2;exact Hf
 |true=>
 obtain⟨y,_,G⟩:=B2 rfl;have Ho:=J y;have O:=J G;have D4:=J (p7 _ L);clear B2 y G p7;obtain⟨q0,_⟩:=p8.one;go_wp2_with fail;apply D4.mono;clear D4 q0;rintro e D⟨y,rfl,_,z⟩;have G:=ay L z;have q4:=bu F3 z;have s4:=bu p8 z;have y2:=J (aF D6.2.2.2 z.size);clear z F3 p8 L;cases y with
 |false=>
  go_wp2_with fail;apply(c8 D G).mono;rintro e z⟨rfl,y⟩;have Hf:=J (HR _ z rfl y);go_wp2;exact Hf
 |true=>
 have L:=J (Z D G);clear Z;obtain⟨q0,_⟩:=s4.one;obtain⟨z0,z1,_,_⟩:=q4.two;go_wp2_with fail;apply L.mono;clear L q0 z0 z1;rintro e z⟨L,rfl,r6,y⟩;have D:=ay G y;have Z:=bu q4 y;have z7:=bu s4 y;have x3:=J (aF y2 y.size);clear y q4 s4 G y2;by_cases G:L=0;rotate_left
 .have y:(L == 0)=false:=o_
  clear r6;go_wp2_with fail;apply(c8 z D).mono;rintro e L⟨rfl,y⟩;have Hf:=J (HR _ L rfl y);go_wp2;exact Hf
 subst G;have G:=r6 rfl;obtain⟨y4,A8⟩:=O9 G;have N:=J y4;have d9:=J (λW u=>Ns (V W u) A8);clear r6 G y4 A8 V;have G:=J (s6 z D Ho);obtain⟨z0,z1,_,_⟩:=Z.two;go_wp2_with fail;apply G.mono;clear z0 z1 G s6;rintro e L⟨Aa,ca,V,rfl,G,z,y⟩;have A0:=ay D y;have y1:=bu Z y;have E7:=bu z7 y;have v8:=J (aF x3 y.size);have y9:=J G;have v0:=J z;have z5:V.length<=40:=by rw[z.1];exact O
 have q6:=J (A6 _ V ca L G o_ (λf hf=>by
  obtain⟨i,hi,rfl⟩:=getElem_of_mem hf;have L:i<rows.length:=by rw[<-z.1];omega
  have hk:=(C0 Ho.bO (z.2 i _ _ (gE L) (gE hi)).1).len;omega))
 clear y Z z7 D x3 G z A6 z5;obtain⟨y,y⟩:=e_ V.length;rw[y]at q6⊢;have K3:=J y;clear y;go_wp2_with fail;apply q6.mono;clear q6;rintro e w7⟨G,rfl,z,y⟩;have D:=ay A0 y;have q5:=bu y1 y;have v2:=bu E7 y;have Z:=J (aF v8 y.size);have m6:=J ((y9.below y).more y.size);clear y y1 E7 A0 v8 y9;cases G with
 |false=>
  clear z;go_wp2_with fail;apply(c8 _ D).mono;rintro e w8⟨rfl,G⟩;have Hf:=J (HR _ _ rfl G);go_wp2;exact Hf
 |true=>
 obtain⟨y,A3,B0⟩:=IW Ho O i3 v0 (z rfl);have e5:=J A3;have y5:=J B0;have L:=J (o7 _ D Ho y);clear z y A3 B0 o7 i3 v0;obtain⟨z0,z1,_,_⟩:=q5.two;go_wp2_with fail;apply L.mono;clear L z0 z1;rintro e w8⟨G,⟨rfl,_⟩|⟨fs,y,S,b,ga,cp,F0,F,rfl,x4,y7,v5,ok,B4,y6,x8,z2,p0,hF⟩⟩
 .have L:=ay D G;clear G;go_wp2_with fail;apply(c8 _ L).mono;rintro e y⟨rfl,z⟩;have Hf:=J (HR _ y rfl z);go_wp2;exact Hf
 have L:=ay D G;have t9:=bu q5 G;have y0:=bu v2 G;have k6:=J ((m6.below G).more G.size);have d0:=J x4;have g7:=J y7;have K2:=J v5;have I5:=J ok;have F1:=J (And.intro B4 y6);have t0:=J x8;have g3:=J z2;have v1:=J (λk hk=>(⟨aF Z (p0 k hk).1,(p0 k hk).2⟩:w2.heap.size<=k/\¬F k));have HF:=J (λk hk=>aF Z (hF k hk));have F7:=J (HX _ L Ho.bO);have D7:=J (aF Z G.size);obtain⟨gp,Z⟩:=e_ cp.gp;rw[Z];have E2:=J Z;clear G x4 y7 v5 ok B4 y6 x8 z2 p0 hF Z q5 v2 m6 D HX;obtain⟨z0,z1,_,_⟩:=t9.two;go_wp2_with fail;apply F7.mono;clear F7 z0 z1;rintro e y⟨Ax,cx,ys,rfl,g9,D5,z⟩;have g4:=(ah _ y).alloc (ae _) (.cells #[U Ax ys.length cx,I s.aC.length] 43);have p9:=J (aa.new y 43 #[U Ax ys.length cx,I s.aC.length]);generalize H9:y.alloc _=G at*;have B:=z.trans (g4.mono z.size);have z3:=J D5;have q1:=J (λk hk=>(⟨tz g9 hk,g9.at_.bU hk⟩:w8.heap.size<=k/\k<y.heap.size));have D:=J ((g9.at_.below g4).more g4.size);have p3:=ay L B;have s7:=bu t9 B;have p4:=bu y0 B;have m4:=J ((k6.below B).more B.size);have i6:=J ((t0.below B).PG D);have e7:=J (g3.same λk hk=>B.block k (g3.lt hk));have f1:=J (And.intro (λk hk=>(dr.ok _ _ _ _ _ _).lt _ _ t0 k hk) (λk(hk:F k)=>g3.lt hk));have k5:=J p9;have b2:Kp (w8.heap.size<=y.heap.size/\y.heap.size<G.heap.size):=⟨z.size,p9.lt⟩;obtain⟨D,q3⟩:=e_ (l.map nE);have t4:D.length=nl:=by rw[<-q3,lM,H3]
 rw[q3]at N d9;have h7:=J (OJ s D _ _ _ cq ca V G (a3 G p3) Ho.bO (d9 G p3) N (λi d p h1 h2=>wF h1 h2) (by rw[length_zip];have:=N.len;omega) m4 e5);unfold aG at h7;rw[t4,K3]at h7;have t5:=J t4;clear g4 z B g9 D5 p9 t9 y0 k6 t0 g3 m4 L q3 t4;obtain⟨z0,z1,_,_⟩:=s7.two;obtain⟨q0,_⟩:=p4.one;go_wp2_with fail;apply h7.mono;clear h7 z0 z1 q0 H9;rintro e r8⟨Ag,cg,lg,rfl,h9,j1,L⟩;have b9:=ay p3 L;have d8:=bu s7 L;have f0:=bu p4 L;have v3:=J h9;have E1:lg.length<=1000:=by
  have h1:=uy h9;rw[kH]at h1;have h2:(dH (aw V) (s.af.zip D)).length<=40:=by
   unfold dH;rw[lM];exact aF (length_filter_le _ _) (by rw[kH];exact e5.n)
  omega
 have z:=J (OR s D _ _ _ cq cg _ _ (a3 _ b9) Ho.bO (d9 _ b9) N (λi d p h1 h2=>wF h1 h2) (by rw[length_zip];have:=N.len;omega) j1 E1 (Jv Ho.bO N e5 h9));unfold aG at z;rw[t5]at z;have D:=J L;obtain⟨V,V⟩:=e_ lg.length;rw[V]at z⊢;clear L h9 j1 E1 V s7 p4;obtain⟨z0,z1,_,_⟩:=d8.two;obtain⟨q0,_⟩:=f0.one;go_wp2_with fail;apply z.mono;clear z z0 z1 q0;rintro e L⟨Aw,cw,gw,rfl,A4,k8,D1,z⟩;have E6:=ay b9 z;have i5:=bu d8 z;have n3:=bu f0 z;have H:=ay D z;have n7:=J (k5.under H);have j2:=J k8;have A5:=J (λk hk=>aF D.size (D1 k hk));have v6:=J A4;have p5:=J (i6.below H);have f2:=J (e7.same λk hk=>H.block k (e7.lt hk));obtain⟨V,V⟩:=e_ gw.length;rw[V];have v9:=J V;clear z k8 D1 A4 V d8 f0 b9 k5 i6 e7 D;obtain⟨st,i9,z,V⟩:=d0.state g7;have D:=J (And.intro i9 (And.intro z V));clear i9 z V;have z:=J (Pu (wV Ho.bO d0.ok g7) (p5.below bR.drew));go_upto_region 14 with fail;have k9:Kp (E w _):=E6.drew;obtain⟨z0,z1,_,_⟩:=(aa.two (show aa L.drew _ _ _ from i5));obtain⟨q0,_⟩:=(aa.one (show aa L.drew _ _ _ from n3));obtain⟨x0,x1,_,_⟩:=(aa.two (show aa L.drew _ _ _ from n7));apply wp_region_noPanic;refine br (t:=99) (S:=(λw'=>C w' _ 0 _/\C w' _ 1 _/\C w' _ 0 _/\C w' _ 0 _/\C w' _ 1 _)) k_ ⟨z0,z1,q0,x0,x1⟩ (λg=> ?_);have e3:Kp (E L _):=bR.drew;generalize L.drew=wd at*;apply tD 0 2 3 4 g;refine oT 1 (λK hK=> ?_);go_simp;apply z.mono;rintro e V⟨gs,rfl,i8,j0,B6⟩;have D0:=J i8;have z:=J j0;have z9:=J B6;clear i8 j0 B6;try go_simp
 refine oK hK ?_ (λq=> ?_)
 .exact⟨al z g.1,al z g.2.1,al z g.2.2.1,al z g.2.2.2.1,al z g.2.2.2.2⟩
 clear hK K g;have g:=q;clear q;have T:=J (k9.trans (z.mono k9.size));have d2:Kp (∀k,(k=gs\/(F0 k\/cz _ _ k))->w2.heap.size<=k/\k≠y.heap.size/\(k<y.heap.size\/k=gs)/\(F k->False)):=(λk hk=>by
  have h1:=D7.o;have h2:=b2.o;have h3:=H.size;have h4:=e3.size;have h5:=z9.o;obtain rfl|hk|hk:=hk
  .exact⟨o_,o_,.inr rfl,λhf=>by have:=f1.2 _ hf;omega⟩
  .have h6:=f1.1 k hk;exact⟨(v1 k hk).1,o_,.inl o_,(v1 k hk).2⟩
  .have h6:=q1 k hk;exact⟨o_,o_,.inl o_,λhf=>by have:=f1.2 k hf;omega⟩)
 have F5:=aF e3.size z.size;have I3:=D6.o;have K1:=H.size;have v:=J (e3.trans (z.mono e3.size));have k7:=J (i5.under v);have m8:=J (n3.under v);have L:=J (n7.under v);have i1:=J ((j2.below v).more o_);have e6:=J (f2.same λk hk=>v.block k (f2.lt hk));have m0:=J (λk hk=>Bu j2 (k:=k) hk);have i2:=Gl d0 O g7 N z3 D.1 D.2.1 D.2.2 gs ga Ax;have z:=J (wE i2 _ _ cx cq _ V D0 Ab (λW u=>a3 W (T.trans (u.toBelow (λk hk=>by have:=(d2 k hk).1;omega) T.size))) (λW u=>d9 W (T.trans (u.toBelow (λk hk=>by have:=(d2 k hk).1;omega) T.size))));unfold aG at z;rw[t5]at z;have R:w.heap.size<V.heap.size/\w1.heap.size<V.heap.size/\y.heap.size<V.heap.size:=⟨k7.lt,m8.lt,L.lt⟩;have G:Kp (∀k,(k=w.heap.size\/k=w1.heap.size\/k=y.heap.size)->¬(k=gs\/(F0 k\/cz _ _ k))):=(λk hk hf=>by
  have h1:=d2 k hf;obtain rfl|rfl|rfl:=hk
  .omega
  .omega
  .omega)
 clear i2;refine oT 5 (λK hK=> ?_);go_simp;apply z.mono;rintro e D⟨A1,l1,c1,z,z,rfl,a4,Z,e0,z4,hI,hm⟩;have r1:=J a4;have A9:=J Z;have m9:=J e0;have E4:=J (λk hk=>(z4 k hk).1);have n9:=J (Ab _ _ hI);have z:=J hm;clear a4 Z e0 z4 hI hm;try go_simp
 refine oK hK ?_ (λq=> ?_)
 .exact⟨(bF (z.still o_ (G _ (.inl rfl)))).trans g.1,(bF (z.still o_ (G _ (.inl rfl)))).trans g.2.1,(bF (z.still o_ (G _ (.inr (.inl rfl))))).trans g.2.2.1,(bF (z.still o_ (G _ (.inr (.inr rfl))))).trans g.2.2.2.1,(bF (z.still o_ (G _ (.inr (.inr rfl))))).trans g.2.2.2.2⟩
 clear hK K g;have g:=q;clear q;apply tD 6 7 8 9 g;apply tk 10 g;refine bQ k_ ?_ _;try clear g
 apply NoPanic.normal;have i4:=J (z.box k7 (G _ (.inl rfl))).1;have k4:=J (z.box m8 (G _ (.inr (.inl rfl)))).1;have l0:=J (z.box L (G _ (.inr (.inr rfl)))).1;have m5:Kp (E w D):=T.trans (z.ax.toBelow (λk hk=>by have:=(d2 k hk).1;omega) o_);have g5:=J (xh i1 z.ax λk hk hf=>by
  have h1:=d2 k hf;have h2:=m0 k hk;have h3:=A5 k hk;have h4:=b2.o;have h5:=z9.o;have h6:=e3.size;obtain h|h:=h1.2.2.1
  .omega
  .omega)
 have L:=J (e6.same λk hk=>z.still (e6.lt hk) λhf=>(d2 k hf).2.2.2 hk);have l7:Kp _:=z.ax.size;obtain⟨n1,z⟩:=e_ l1.length;rw[z];have M0:=J z;clear z0 z1 q0 x0 x1 R z;have G:Kp (fi _ _ _ D (λk=>F k\/cz _ _ k)):=⟨F,L,n9,λk hk hf=>by have h1:=q1 k hk;have h2:=f1.2 k hf;omega,rfl⟩;go_upto_region 15 with fail;have h0:Kp (E D _):=bR.drew;have z:=J (Ex (cx:=cx) (m:=s.aC.length) (G.below h0));rw[E2]at z;obtain⟨z0,z1,_,_⟩:=(aa.two (show aa D.drew _ _ _ from i4));obtain⟨q0,_⟩:=(aa.one (show aa D.drew _ _ _ from k4));obtain⟨x0,x1,_,_⟩:=(aa.two (show aa D.drew _ _ _ from l0));apply wp_region_noPanic;refine br (t:=99) (S:=(λw'=>C w' _ 0 _/\C w' _ 1 _/\C w' _ 0 _/\C w' _ 0 _/\C w' _ 1 _)) k_ ⟨z0,z1,q0,x0,x1⟩ (λg=> ?_);generalize D.drew=G at*;apply tD 0 1 3 4 g;apply tk 5 g;refine oT 2 (λK hK=> ?_);go_simp;apply z.mono;rintro e z⟨g2,rfl,L,V,G⟩;have u5:=J L;have Y:=J V;have M4:=J G;clear L V G;try go_simp
 refine oK hK ?_ (λq=> ?_)
 .exact⟨al Y g.1,al Y g.2.1,al Y g.2.2.1,al Y g.2.2.2.1,al Y g.2.2.2.2⟩
 clear hK K g;have g:=q;clear q;have G:=J (h0.trans (Y.mono h0.size));have X:=J (m5.trans (G.mono m5.size));have V:w.heap.size<z.heap.size/\w1.heap.size<z.heap.size/\y.heap.size<z.heap.size:=⟨(i4.under G).lt,(k4.under G).lt,(l0.under G).lt⟩;have L:Kp (∀k,(k=g2\/(F k\/cz _ _ k))->w2.heap.size<=k/\k≠y.heap.size/\(k<y.heap.size\/D.heap.size<=k)):=(λk hk=>by
  have h1:=D7.o;have h2:=b2.o;have h3:=l7.o;have h4:=h0.size;have h5:=M4.o;obtain rfl|hk|hk:=hk
  .omega
  .have h6:=f1.2 k hk;exact⟨HF k hk,o_,.inl o_⟩
  .have h6:=q1 k hk;omega)
 obtain⟨D,b6⟩:=Ad (gs:=g2) (cx:=cx) (Ax:=Ax) d0 O g7 N z3 K2 I5 F1.1 F1.2;rw[E2]at b6;have t7:=J (wE b6 _ _ cx cq _ z u5 Nl (λW u=>a3 W (X.trans (u.toBelow (λk hk=>by have:=(L k hk).1;omega) o_))) (λW u=>d9 W (X.trans (u.toBelow (λk hk=>by have:=(L k hk).1;omega) o_))));unfold aG at t7;rw[t5]at t7;have D:Kp (∀k,(k=w.heap.size\/k=w1.heap.size\/k=y.heap.size)->¬(k=g2\/(F k\/cz _ _ k))):=(λk hk hf=>by
  have h1:=L k hf;obtain rfl|rfl|rfl:=hk
  .omega
  .omega
  .omega)
 clear b6;refine oT 6 (λK hK=> ?_);go_simp;apply t7.mono;rintro e o1⟨A2,l2,c2,z,z,rfl,a4,Z,e0,_,_,hm⟩;have o2:=J a4;have A7:=J Z;have D2:=J e0;have z:=J hm;clear a4 Z e0 hm;try go_simp
 refine oK hK ?_ (λq=> ?_)
 .exact⟨(bF (z.still o_ (D _ (.inl rfl)))).trans g.1,(bF (z.still o_ (D _ (.inl rfl)))).trans g.2.1,(bF (z.still o_ (D _ (.inr (.inl rfl))))).trans g.2.2.1,(bF (z.still o_ (D _ (.inr (.inr rfl))))).trans g.2.2.2.1,(bF (z.still o_ (D _ (.inr (.inr rfl))))).trans g.2.2.2.2⟩
 clear hK K g;have g:=q;clear q;apply tD 7 8 9 10 g;apply tk 11 g;refine bQ k_ ?_ _;try clear g
 apply NoPanic.normal;have x7:Kp (E w _):=X.trans (z.ax.toBelow (λk hk=>by have:=(L k hk).1;omega) o_);have Z:=J (xh ((g5.below G).more G.size) z.ax λk hk hf=>by
  have h1:=L k hf;have h2:=m0 k hk;have h3:=A5 k hk;have h4:=b2.o;have h5:=l7.o;omega)
 have F2:=J (xh ((m9.below G).more G.size) z.ax λk hk hf=>by
  have h1:=L k hf;have h2:=Bu m9 hk;have h3:=E4 k hk;have h4:=b2.o;omega)
 have D:=zU d0 O Ho.bO N y5 (by rw[kH];exact e5.n) v3 v6 r1 A9;have y:=zU d0 O Ho.bO N y5 (by rw[kH];exact e5.n) v3 v6 o2 A7;have G:=J (zT _ _ _ _ c1 cw _ F2 Z D.1 o_ D.2.2);have z:=J (λW(u:E _ W)=>zT _ _ _ _ c2 cw W ((D2.below u).more u.size) ((Z.below u).more u.size) y.1 o_ y.2.2);rw[M0,v9]at G;rw[v9]at z;obtain⟨n2,u⟩:=e_ l2.length;rw[u]at z⊢;clear D y u z0 z1 q0 x0 x1 V I3 F5 K1;go_wp2_with fail;apply G.mono;rintro e y⟨_,rfl,rfl,u⟩;have D:=J (z y u);have y:=ay x7 u;clear u G z;go_wp2_with fail;apply D.mono;rintro e z⟨_,rfl,rfl,u⟩;have E:=J (c8 z (y.trans (u.mono y.size)));clear u D;go_wp2_with fail;apply E.mono;rintro e u⟨rfl,y⟩;have Hf:=J (HR _ u rfl y);go_wp2;exact Hf
end Tc
namespace topQuery
open List Go.ChangeShapes Go.WideShapes Go.RowKit Base Tc
def walk{H}{b:TypeId×Value->H}{base O D C M p1 p2} q n x w(m:Value.okWide Tryz.prog w .any base 25 q)(y:DataW.Trod b Tryz.prog w 0 (λ_=>true) true 25 q O M)(p:Value.okWide Tryz.prog w .any base 26 n)(B:DataW.Trod b Tryz.prog w 0 (λ_=>true) true 26 n D p1)(u:Value.okWide Tryz.prog w .any base 29 x)(d:DataW.Trod b Tryz.prog w 0 (λ_=>true) true 29 x C p2) :
 Calls Tryz.prog 3 #[q,n,x] w λe w'=>e = .returned (.bool true)/\Below w.heap.size w w':=by
 obtain⟨s,rfl,G⟩:=Mz m y;obtain⟨E,n1,F,rfl⟩:=okWide_slice Tryz.underlying26 p;obtain⟨R,h1⟩:=B;obtain⟨A1,J,c1,c,A,f,z,g⟩:=My h1;rw[c];obtain⟨A2,l2,c2,rfl,I,L⟩:=Mx u d;refine(QK s _ J _ _ _ _ w G ⟨o_,z,g⟩ L).mono ?_;rintro e w'⟨r,rfl,rfl,N⟩;grind
end topQuery
end Go.Proofs.YtibjlpkpljnicaaGreatDoor
