/- Parts. -/
import Derived.Test.YtibjlpkpljnicaaGreatDoorR03
import Derived.Test.YtibjlpkpljnicaaGreatDoorR05
import Derived.Maps.Own
import Derived.Maps.OwnOps
import Derived.Maps.OwnSet
import Derived.Maps.Views
import Derived.Lib.SliceRun
import Derived.Deep.LoopGhost
set_option maxRecDepth 100000
set_option maxHeartbeats 8000000
set_option linter.all false
namespace Go.Proofs.YtibjlpkpljnicaaGreatDoor
namespace Tc
open List Go.RowKit Base Go.Proofs.Tryz
def iK:(prog.info? 3).map (λi=>(i.zero,i.size,i.bytes))=some (some (I 0),1,8):=k_
def an(l:LN):LV:=l.map λ(k:Nat)=> I (k:Int)
def oh l(k:Nat):an (l++[k])=an l++[I (k:Int)]:=by unfold an;simp
def ia l:(an l).length=l.length:=by unfold an;simp
def dZ{w:World}{base b e size v n xs}(h:w.ownsRow base e size v n xs)(m:b<=base):w.ownsRow b e size v n xs:=by
 obtain⟨h1,h2⟩:=h;refine⟨h1,?_⟩;obtain h2|⟨g,cap,cur,c,f,d⟩:=h2
 .grind
 .exact .inr ⟨g,_,_,c,o_,d⟩
def cK(w:World) base e size:w.ownsRow base e size (Z) 0 []:=⟨s_,.inl ⟨rfl,rfl⟩⟩
def bS{w w' base e size v n xs}(h:w.ownsRow base e size v n xs)(q:E w w'):w'.ownsRow base e size v n xs:=by
 obtain⟨h1,h2⟩:=h;refine⟨h1,?_⟩;obtain h2|⟨g,cap,cur,p,f,c,m⟩:=h2
 .grind
 .have b:g<w.heap.size:=r_
  exact .inr ⟨g,_,_,p,f,(q.block g b).trans c,m⟩
def sF(s:aN)(r:Rw)(w:World)(e:Ending)(w':World):Prop:=∃(v:Value)(n:Int),e = .returned (.tuple #[v,I n])/\(n=0->∃keys,eE s r keys/\w'.ownsRow w.heap.size 3 1 v keys.length (an keys))/\((∃keys,eE s r keys)->n=0)/\E w w'
abbrev fB(r:Rw):AV:=#[U r.A r.ar.length r.c,U r.Av r.cj.length r.cv]
def oR(s:aN)(r:Rw)(k:Nat)(keys:LN):Prop:=keys.length=k/\∀(i:Nat)(d:au)(t:ByteArray)(q:Nat),i<k->s.af[i]? = some d->r.ar[i]? = some t->keys[i]? = some q->(fin d)[q]? = some t
def oR.next{s r k keys}(h:oR s r k keys){q d t}(hd:s.af[k]? = some d)(ht:r.ar[k]? = some t)(n:(fin d)[q]? = some t):oR s r (k+1) (keys++[q]):=by
 refine⟨by rw[aE,h.1];rfl,λi p m g hi f c b=> ?_⟩;by_cases e:i=k
 .subst e;rw[hd]at f;rw[ht]at c;injection f with f;injection c with c;rw[getElem?_append_right (by rw[h.1];omega),h.1]at b;grind
 .rw[getElem?_append_left (by rw[h.1];omega)]at b;exact h.2 i p m g o_ f c b
def DJ s r w(h:cQ w w.heap.size s)(hr:kQ w w.heap.size r)(ho:cJ s):Calls prog 30 #[.agg (aG s),.agg (fB r)] w (sF s r w):=by
 have a4:Kp (∀ n w',n≠0->(∀keys,¬eE s r _)->E w _->sF s r w (.returned (.tuple #[Z,I n])) w'):=λn w' y hk u=>⟨_,n,rfl,λe=>absurd e y,λ⟨keys,h⟩=>absurd h (hk keys),u⟩;have b6:Kp (∀v keys w',eE s r _->w'.ownsRow w.heap.size 3 1 v keys.length (an keys)->E w _->sF s r w _ w'):=λv keys w' h1 h2 u=>⟨v,0,rfl,λ_=>⟨_,h1,h2⟩,λ_=>rfl,u⟩;have M:=(ah _ w).alloc (ae _) (.cells (aG s) 25);have N:=M.alloc o_ (.cells (fB r) 83);have z:=J N;have e8:=J ((aa.new w 25 (aG s)).alloc (.cells (fB r) 83));have f3:=J (aa.lay (w:=w.alloc (.cells (aG s) 25)) (g:=w.heap.size+1) (t:=83) (cs:=fB r) s_);have O:=J ((h.below N).more N.size);have g4:=J ((hr.below N).more N.size);have y:=h.n;have G:=h.nm;have D:=hr.n;have L:=hr.nv;have e5:=J yE;obtain⟨i0,f1,f4,e7,e9⟩:=info_parts iK;unfold maxLen at y G D L;clear h hr N M;generalize y:sF s r w=Q at*;clear y;unfold aG fB at*;go_in;by_cases H:r.ar.length=s.af.length
 .by_cases G:r.cj.length=s.aC.length
  .have a6:=J (And.intro H G);have e1:(r.ar.length != (s.af.length:Int))=false:=o_;have e2:(r.cj.length != (s.aC.length:Int))=false:=o_;have y:r.ar.length<=s.af.length:=o_;clear H G;go_wp2;clear e1 e2;generalize(w.alloc _).alloc _=W0 at*;go_loopw [6,28] (λD y wr=>∃(k:Nat)(keys:LN)(A:OA)(c:Nat),k<=r.ar.length/\y = I k/\D = U A k c/\oR s r k keys/\wr.ownsRow W0.heap.size 3 1 (U A k c) k (an keys)/\E W0 wr) (λ_ y _=>r.ar.length-(intOf y).toNat)
   case atStart=>exact⟨0,[],_,0,o_,rfl,rfl,⟨rfl,λi _ _ _ h=>o_⟩,cK _ _ _ _,bR⟩
   .obtain⟨k,keys,A,c,hk,rfl,rfl,a1,a3,y⟩:=hrel;have B:=J y;obtain⟨V,b1,_,_⟩:=(e8.under y).two;obtain⟨q0,q1,_,_⟩:=(f3.under y).two;clear y;by_cases p:k<r.ar.length
    .have m:k<s.af.length:=o_;have hs:=(O.below B).more B.size;have c8:=(g4.below B).more B.size;obtain⟨b,off,hA,u,c0,c1⟩:=hs.aj k m;obtain⟨bt,ot,b8,u,O⟩:=Row.at_ c8.ar (by rw[lM];exact p);rw[getElem_map]at O;rw[hA]at V;rw[b8]at q0;have L:=(J ho).af k m;obtain⟨_,F,u,Y⟩:=L.xb;have a8:=hs.af _ (gM m);have D:0<(s.af[k]'m).ai.length:=L.n1;obtain⟨bd,od,b7,y,d0,y,d2⟩:=a8.cU 0 D;have d3:(s.af[k]'m).ai[0]'D=F:=r_
     rw[d3]at d0 y d2;have D:=a8.ai F (mem_of_getElem? u);rw[b7]at c1;rw[Nat.zero_mul,Nat.add_zero]at y;have c7:Kp (∀W,E _ W->Calls _ _ #[U _ _ _,T (r.ar[k]'p)] W _):=λW hW=>e5 _ _ F.ct _ W D.nt ((D.ar.below hW).more hW.size);have f2:Kp (∀i:Nat,F.ar[i]? = some (r.ar[k]'p)->oR s r _ (keys++[i])):=λi hi=>(J a1).next (gE m) (gE p) r_
     have R:Kp ((∀i:Nat,F.ar[i]? ≠ some (r.ar[k]'p))->∀keys,¬eE s r keys):=λh keys c3=>by
      have f0:k<keys.length:=by rw[c3.n];omega
      have:=c3.at_ k _ _ _ (gE m) (gE p) (gE f0);grind
     have h2:=L.n2;have e3:(((s.af[k]'m).ai.length:Int) == 0)=false:=r_
     have i6:0<=(k:Int):=o_;have i5:k<(s.af.length:Int):=o_;have k2:k<(r.ar.length:Int):=o_;clear hs c8 hA b8 L u Y a8 b7 d3 D d0 d2 c0 b1 q1;generalize(s.af[k]'m).ai.length=nd at*;generalize(s.af[k]'m).c=u at*;generalize(r.ar[k]'p)=x at*;go_wp2;apply wp_region_noPanic;refine br (t:=99) (S:=(λw'=>C w' _ 0 _/\C w' _ 0 _/\C w' b _ _/\C w' _ _ _/\C w' _ _ (T x))) k_ ⟨V,q0,c1,y,O⟩ (λf=> ?_);apply tD 0 1 2 3 f;apply tD 4 5 6 7 f;apply tD 8 9 10 11 f;apply tB 12 13 f;refine oT 14 λK hK=>?_;go_simp;apply(c7 _ bR.drew).mono;rintro e L⟨n,rfl,c6,M⟩;have u:Kp (E wr L):=bR.drew.trans M;clear M;refine oK hK ?_ λD=>?_
     .exact⟨al u V,al u q0,al u c1,al u y,al u O⟩
     replace f:=D;clear hK K D;apply tk 15 f;refine bQ k_ ?_ _;try clear f
     apply NoPanic.normal;have D:=J (B.trans (u.mono B.size));have X:=J (bS (J a3) u);clear V q0 c1 y O c7;by_cases O:n<0
     .have u:=J (R ((J c6).2 O));go_wp2;exact a4 _ _ d_ u (z.trans (D.mono z.size))
     .obtain⟨i,hi,y⟩:=(J c6).1 o_;subst hi;have f7:=J (f2 i y);have M:¬(i:Int)<0:=o_;have u:=J D.size;have M:k<1048576*64:=by have:=(J ho).n2;omega
      clear O y;go_wp2_with(at_builtin;apply iP rfl _ _ _ rfl _ 3 _ _ 8 underlying84 f1 f4 e7 e9 rfl L _ rfl (U A k c) k _ rfl X rfl M d_ u;intro y y y V;obtain⟨O,M,L⟩:=bY y;subst L;have L:=J y;have e0:=J (V.below D X o_ u);clear y V);exact⟨⟨_,_,O,M,o_,o_,rfl,f7,by rw[oh];exact L,e0⟩,o_⟩
    .obtain rfl:k=r.ar.length:=o_;have u:Kp (eE s r _):=⟨by rw[(J a1).1];exact a6.1,a6.1,a6.2,λi d t q h1 h2 y=>(J a1).2 i d t q r_ h1 h2 y⟩;have y:=J (J a1).1;have D:=J z.size;go_wp2;exact b6 _ _ _ u (by rw[y];exact dZ (J a3) D) (z.trans (B.mono z.size))
  .have e1:(r.ar.length != (s.af.length:Int))=false:=o_;have e2:(r.cj.length != (s.aC.length:Int))=true:=o_;have R:Kp (∀keys,¬eE s r keys):=λkeys hk=>G hk.nv;clear H G;go_wp2;exact a4 _ _ d_ R z
 .have e1:(r.ar.length != (s.af.length:Int))=true:=o_;have R:Kp (∀keys,¬eE s r keys):=λkeys hk=>H hk.nt;go_wp2;exact a4 _ _ d_ R z
structure iC(s:aN)(l:List Rw):Prop where
 bO:cJ s
 n:l.length<=300
 rows:∀r∈l,∃keys,eE s r keys
def Om s A l c w(h:cQ w w.heap.size s)(p:fT w w.heap.size A l):Calls prog 25 #[.agg (aG s),U A l.length c] w (cM (λr=>r=0->iC s l) w):=by
 have X:=J (λr w' h M=>cM.mono (P:=λr=>r=0->iC s l) (w:=w) (r:=r) (w':=w') h M);have m:=(ah _ w).alloc (ae _) (.cells (aG s) 25);have y:=J m;have L:=J (aa.new w 25 (aG s));have V:=J ((h.below m).more m.size);have T:=J ((p.below m).more m.size);have z:=p.n;have u:=J (DL s _ ((h.below m).more o_));have R:=J DJ;have a6:Kp (cJ s->l.length<=300->(∀r∈l,∃keys,eE s r _)->iC s l):=λa b c=>⟨a,b,c⟩;unfold maxLen at z;generalize z:cM (λr=>r=0->iC s l) w=Q at*;unfold aG at L y V T u⊢;have q:Kp (∀W,Below _ _ W->E w W):=λW z=>y.trans (z.mono y.size);obtain⟨y,y,_,_⟩:=L.two;go_in;go_wp2_with fail;apply u.mono;generalize w.alloc _=D at*;rintro e y⟨n,rfl,Y,(z:Kp _)⟩;clear u;by_cases C:n=0
 .subst C;have u:((0:Int) != 0)=false:=s_;have N:=J ((J Y) rfl);by_cases G:l.length<=300
  .go_wp2;go_loopw [20] (λu wr=>∃k:Nat,k<=l.length/\u = I k/\(∀r∈l.take k,∃keys,eE s r keys)/\E D wr) (λu _=>l.length-(intOf u).toNat)
   case atStart=>exact⟨0,o_,rfl,s_,z⟩
   .obtain⟨k,hk,rfl,O,(f:Kp _)⟩:=hrel;by_cases d:k<l.length
    .have B:=(T.below f).more f.size;have D:=(V.below f).more f.size;obtain⟨b,off,rfl,M,c0,c1⟩:=B.rQ k d;have H:=B.each _ (gM d);have u:Kp ((∃keys,eE s (l[k]'d) keys)->∀r∈l.take _,∃keys,eE s r keys):=λh r p=>by
      rw[take_succ_eq_append_getElem d]at p;grind
     have g:=(ah _ wr).alloc (ae _) (.cells (fB (l[k]'d)) 83);have x:=J (R s _ _ ((D.below g).more o_) ((H.below g).more o_) N);have M:=ay f g;have F:=J ((L.under f).under g);have V:=J (aa.new wr 83 (fB (l[k]'d)));unfold fB at x M F V;unfold aG at x;have L:0<=(k:Int):=o_;have L:k<(l.length:Int):=o_;clear B D H g;generalize D:(l[k]'d)=r at*;go_upto_region 9 with fail;clear c0 c1;generalize wr.alloc _=D at*;obtain⟨D,D,_,_⟩:=F.two;obtain⟨D,D,_,_⟩:=V.two;go_wp2_with fail;apply x.mono;rintro e D⟨v,n,rfl,Z,_,D⟩;have L:=ay M D;by_cases C:n=0
     .subst C;have D:=J (u r_);go_wp2;exact⟨⟨_,o_,o_,D,L⟩,o_⟩
     .have u:(n != 0)=true:=o_
      go_wp2;exact X _ _ (λh=>absurd h C) (q _ L)
    . go_wp2;exact X _ _ (λ_=>a6 N G (λr p=>(J O) r r_)) (q _ f)
  .have y:300<(l.length:Int):=o_;go_wp2;exact X _ _ (λh=>o_) (q _ z)
 .have u:(n != 0)=true:=o_
  go_wp2;exact X _ _ (λh=>absurd h C) (q _ z)
structure Fa where
 A:OA
 keys:LN
 c:Nat
 ag:Ag
abbrev cF(w:World)(b o:Nat)(x:Fa):Prop:=C w b o (U x.A x.keys.length x.c)/\C w b (o+1) (I x.ag.c)/\C w b (o+2) (I x.ag.s0)/\C w b (o+3) (I x.ag.n0)/\C w b (o+4) (I x.ag.x0)/\C w b (o+5) (I x.ag.s1)/\C w b (o+6) (I x.ag.n1)/\C w b (o+7) (I x.ag.x1)/\C w b (o+8) (I x.ag.s2)/\C w b (o+9) (I x.ag.n2)/\C w b (o+10) (I x.ag.x2)
abbrev eG(w:World)(b:Nat)(x:Fa):Prop:=C w b 0 (U x.A x.keys.length x.c)/\C w b 1 (I x.ag.c)/\C w b 2 (I x.ag.s0)/\C w b 3 (I x.ag.n0)/\C w b 4 (I x.ag.x0)/\C w b 5 (I x.ag.s1)/\C w b 6 (I x.ag.n1)/\C w b 7 (I x.ag.x1)/\C w b 8 (I x.ag.s2)/\C w b 9 (I x.ag.n2)/\C w b 10 (I x.ag.x2)
abbrev aV(f:Fa):LV:=[U f.A f.keys.length f.c,I f.ag.c,I f.ag.s0,I f.ag.n0,I f.ag.x0,I f.ag.s1,I f.ag.n1,I f.ag.x1,I f.ag.s2,I f.ag.n2,I f.ag.x2]
abbrev bC(f:Fa):AV:=#[U f.A f.keys.length f.c,I f.ag.c,I f.ag.s0,I f.ag.n0,I f.ag.x0,I f.ag.s1,I f.ag.n1,I f.ag.x1,I f.ag.s2,I f.ag.n2,I f.ag.x2]
def kC f:(aV f).length=11:=rfl
def kV f:∀u∈(bC f).toList,u.oneCell'=true:=by
 intro u b;simp at b;rcases b with rfl|rfl|rfl|rfl|rfl|rfl|rfl|rfl|rfl|rfl|rfl<;>rfl
def mA:(prog.info? 89).map (λi=>(i.zero,i.size,i.bytes))=some (some (.agg #[Z,I 0,I 0,I 0,I 0,I 0,I 0,I 0,I 0,I 0,I 0]),11,104):=k_
structure bM(w:World)(B:Nat)(A:OA)(l:List Fa):Prop where
 row:Row w B A (l.flatMap aV)
 keys:∀f∈l,Row w B f.A (an f.keys)
def bM.below{w w' B A l}(h:bM w B A l)(b:Below B w w'):bM w' B A l:=⟨h.row.below b,λf c=>(h.keys f c).below b⟩
def bM.more{w B b A l}(h:bM w B A l)(c:B<=b):bM w b A l:=⟨h.row.more c,λf d=>(h.keys f d).more c⟩
def bP(w:World)(v:Value)(f:Fa):Prop:=Row w w.heap.size f.A (an f.keys)/\∀b off,f.A=some ⟨b,off,none⟩->an f.keys≠[]->v.ownBlock≠some b
def bP.app{wr w' v p f}(h:bP wr v f)(g:App wr w' v p):bP w' p f:=by
 refine⟨(Row.app h.1 g o_ h.2).more g.grown.size,λb off e c=> ?_⟩;obtain m|⟨k,m,hk⟩:=g.j4
 .rw[m];exact h.2 b _ e c
 .rw[m];intro n;injection n with n;obtain h0|⟨u,q,d,r,_⟩:=h.1
  .grind
  grind
def bP.below{w w' v f}(h:bP w v f)(b:E w w'):bP w' v f:=⟨(h.1.below b).more b.size,h.2⟩
def bP.new{w v f B}(d:w.ownsRow B 3 1 (U f.A f.keys.length f.c) f.keys.length (an f.keys))(n:∀k,v.ownBlock=some k->k<B):bP w v f:=by
 refine⟨dF d,λb off e g m=> ?_⟩;have h1:=n b m;rw[e]at d;have h2:=(d.lt b rfl).1;omega
def kn(s:aN)(rows:List Rw)(k:Nat)(l:List Fa):Prop:=l.length=k/\∀(i:Nat)(r:Rw)(f:Fa),rows[i]? = some r->l[i]? = some f->eE s r f.keys/\f.ag=dM r.cj
def kn.next{s rows k l}(h:kn s rows k l){r}(n:rows[k]? = some r){f}(hk:eE s r f.keys)(e:f.ag=dM r.cj):kn s rows (k+1) (l++[f]):=by
 refine⟨by rw[aE,h.1];rfl,λi g m c b=> ?_⟩;by_cases hi:i<l.length
 .rw[getElem?_append_left hi]at b;exact h.2 i g m c b
 .rw[getElem?_append_right o_]at b;have d:i=k:=by
   obtain h1|h1:=Nat.lt_or_ge (i-l.length) 1
   .have:=h.1;omega
   .grind
  grind
def uR(s:aN)(rows:List Rw)(w:World)(e:Ending)(w':World):Prop:=∃(A:OA)(c:Nat)(l:List Fa),e = .returned (U A l.length c)/\bM w' w'.heap.size A l/\kn s rows rows.length l/\E w w'
def Oj s A rows c w(h:cQ w w.heap.size s)(hr:fT w w.heap.size A rows)(ho:iC s rows):Calls prog 9 #[.agg (aG s),U A rows.length c] w (uR s rows w):=by
 have b6:Kp (∀u G l w',bM _ _ u l->kn s _ _ l->E w _->uR s rows w _ w'):=λu G l w' h1 h2 hb=>⟨u,G,l,rfl,h1,h2,hb⟩;have H:=(ah _ w).alloc (ae _) (.cells (aG s) 25);have Y:=J H;have HB:=J (aa.new w 25 (aG s));have H0:=J ((h.below H).more H.size);have b4:=J ((hr.below H).more H.size);have hn:=ho.n;have b3:=J DJ;have d4:=J Ob;obtain⟨i0,c9,d6,d5,d2⟩:=info_parts mA;generalize hQ:uR s _ w=Q at*;unfold aG at HB Y H0 b4⊢;go_in;go_wp2;generalize w.alloc _=W0 at*;go_loopw [5,12] (λv5 T wr=>∃(k:Nat)(l:List Fa)(u:OA)(G:Nat),k<=rows.length/\T = I k/\v5 = U u k G/\kn s rows k l/\wr.ownsRow W0.heap.size 89 11 (U u k G) k (l.flatMap aV)/\(∀f∈l,bP wr (U u k G) f)/\E W0 wr) (λ_ T _=>rows.length-(intOf T).toNat)
 case atStart=>exact⟨0,[],_,0,o_,rfl,rfl,⟨rfl,λi _ _ _ h=>r_⟩,cK _ _ _ _,(λf x=>r_),bR⟩
 .obtain⟨k,l,u,G,hk,rfl,rfl,W,F,a9,c3⟩:=hrel;have m:=J c3;clear c3;by_cases p:k<rows.length
  .have a0:=(b4.below m).more m.size;have a4:=(H0.below m).more m.size;obtain⟨b,off,rfl,hb,c0,c1⟩:=a0.rQ k p;have R:=a0.each _ (gM p);have g:=(ah _ wr).alloc (ae _) (.cells (fB (rows[k]'p)) 83);have V:=J (b3 s _ _ ((a4.below g).more o_) ((R.below g).more o_) (J ho).bO);have a8:=J ((R.below g).more g.size);have L:=J g;have a5:=J ((HB.under m).under g);have Z:=J (aa.new wr 83 (fB (rows[k]'p)));have c7:=J ((J ho).rows _ (gM p));have d9:=J (gE p);unfold fB at V L a5 Z a8;unfold aG at V;have f7:0<=(k:Int):=o_;have e8:k<(rows.length:Int):=o_;clear a0 a4 R g;generalize(rows[k]'p)=r at*;go_upto_region 5 with fail;clear c0 c1;generalize wr.alloc _=W2 at*;obtain⟨b0,b1,_,_⟩:=a5.two;obtain⟨q0,q1,_,_⟩:=Z.two;go_wp2_with fail;apply V.mono;rintro e w2⟨v,n,rfl,c6,d1,y⟩;obtain⟨keys,z,D⟩:=c6 (d1 c7);obtain⟨Ak,ck,rfl⟩:=cI D;have b8:=bu Z y;have d7:r.cj.length<=3:=by rw[z.nv];exact(J ho).bO.m2
   have a7:=J (d4 _ _ r.cv _ d7 ((a8.cj.below y).more y.size));obtain⟨q0,q1,_,_⟩:=b8.two;go_wp2_with fail;apply a7.mono;rintro e w3⟨rfl,b9⟩;have X:=J (L.trans (((J y).trans (b9.mono (J y).size)).mono L.size));have M:=J (bS (J D) b9);have C:=J (bS (J F) X);have a1:=J (λf x=>((J a9) f x).below X);have N:=J (m.trans (X.mono m.size));have a3:Kp (bP _ _ ⟨_,_,_,dM r.cj⟩):=bP.new M (λj hj=>bh ((J F).lt j hj).2 L.size);have d8:=J ((J W).next (f:=⟨Ak,_,ck,dM _⟩) d9 (J z) rfl);have c8:k+1<1048576*64:=o_;have a6:=J N.size;generalize dM _=ag at*;go_wp2_with(at_builtin;refine je rfl _ _ _ rfl _ 89 _ _ _ _ underlying34 c9 d6 d5 d2 rfl d_ _ (bC ⟨_,_,_,_⟩) rfl (kV _) (U u k G) k _ rfl C rfl c8 d_ a6 ?_;intro v5 w5 q d;obtain⟨A5,c5,h5⟩:=cI q;subst h5;have O:=J q;have e0:=J (d.ew N C o_ a6);have b2:=kp (λf x=>by(obtain x|x:=mem_append.1 x;exact(a1 f x).app d;rw[mem_singleton.1 x];exact a3.app d));clear q d);refine⟨⟨_,_,_,_,o_,o_,rfl,d8,?_,b2,e0⟩,o_⟩;rw[flatMap_append];exact O
  .obtain rfl:k=rows.length:=o_;have d0:=J (J W).1;have b7:Kp (bM _ _ u l):=⟨dF (J F),λf x=>((J a9) f x).1⟩;go_wp2;have:=b6 u G l _ b7 (J W) (Y.trans (m.mono Y.size));rw[d0]at this;exact this
def ly(t:TypeId)(size n:Nat)(c:LV)(w:World)(e:Ending)(w':World):Prop:=∃b,e = .returned b/\w'.ownsRow w.heap.size t size b n c/\E w w'
def Ik a n c d w(z:n<=1000000)(D:d.length=n*1)(F:∀j u,d[j]? = some u->w.cell? (a.add j)=some u)(h1:∀u∈d,u.oneCell'=true) :
 Calls prog 143 #[U (some a) n c] w (ly 3 1 n d w):=by
 have q:∀ w(a:OA) n c m r,(binOp _ 84 (U a n c) (U _ m r)).run _ w = .ok _ w:=λw a n c m r=>Lib.run_eql_slice_nil w _ _ a n c m r underlying84;obtain⟨B,v,x,p,s⟩:=info_parts iK;have C:Kp (∀g w',w'.ownsRow w.heap.size 3 1 g n d->E w _->ly 3 1 n d w _ w'):=λg w' a b=>⟨g,rfl,a,b⟩;generalize G:ly 3 1 n d w=Q at*;go_in;go_wp2_with(at_builtin;refine wpList_append_own _ rfl _ _ _ rfl _ 3 B _ 1 8 underlying84 v x p s rfl d_ _ _ _ rfl (World.ownsRow_made w _ 0 (ae _) o_ rfl) a n c d rfl ?qc1 ?qc2 ?qc3 ?qc4 ?qc5 ?qc6 ?_)
 case qc1=>omega
 .intro j u A;exact Lib.cell?_alloc_some _ ((J F) j u A)
 case qc3=>omega
 case qc4=>rw[Nat.zero_add];unfold maxLen;omega
 case qc5=>rw[Nat.zero_add];omega
 case qc6=>simp
 intro g H f e y;go_wp2;exact C _ _ o_ ((bR.alloc o_ _).grown e s_ (by intro k hk;simp[Value.ownBlock]at hk;omega))
def Ij n c w:Calls prog 143 #[U none n c] w (ly 3 1 0 [] w):=by
 have q:∀ w(a:OA) n c b d,(binOp _ 84 (U a n c) (U _ b d)).run _ w = .ok _ w:=λw a n c b d=>Lib.run_eql_slice_nil w _ _ a n c b d underlying84;go_in;go_wp2;go_ret;exact⟨_,rfl,cK _ _ _ _,bR⟩
def AL{w B a d}(g:Row w B (some a) d):∀j u,d[j]? = some u->w.cell? (a.add j)=some u:=by
 intro j u c;obtain rfl|⟨b,off,e,_,f⟩:=g
 .grind
 .cases e;rw[jS];grind
def qW A c l w(f:l.length<=1000000)(e:Row w w.heap.size A (an l)) :
 Calls prog 143 #[U A l.length c] w (ly 3 1 l.length (an l) w):=by
 obtain _|a:=A
 .have h0:an l=[]:=by
   obtain h|⟨b,off,h,_⟩:=e
   . omega
   .cases h
  have h1:l.length=0:=by rw[<-ia,h0];rfl
  rw[h0,h1];exact Ij _ _ _
 .exact Ik a _ c _ w f (by rw[ia,Nat.mul_one]) (AL e) (λu d=>by unfold an at d;obtain⟨k,_,rfl⟩:=mem_map.1 d;rfl)
def pl(f:Fa):LN×Ag:=(f.keys,f.ag)
def bj(w:World)(B:Nat)(v:Value)(l:List Fa):Prop:=w.ownsRow B 89 11 v l.length (l.flatMap aV)/\∀f∈l,bP w v f
def eC(B:Nat)(l:List Fa):Prop:=∀f∈l,∀b off,f.A=some ⟨b,off,none⟩->an f.keys≠[]->B<=b
def uT(ps:List (LN×Ag))(w:World)(e:Ending)(w':World):Prop:=∃(v:Value)(l:List Fa),e = .returned v/\l.map pl=ps/\bj w' w.heap.size v l/\eC w.heap.size l/\E w w'
def bj.form{w B v l}(h:bj w B v l):∃A c,v = U A l.length c:=cI h.1
def bj.jW{w B A n c l}(h:bj w B (U A n c) l):bM w w.heap.size A l:=by
 obtain⟨g,d,e⟩:=cI h.1;cases e;exact⟨dF h.1,λf b=>(h.2 f b).1⟩
def bj.below{w w' B v l}(h:bj w B v l)(b:E w w'):bj w' B v l:=⟨bS h.1 b,λf c=>(h.2 f c).below b⟩
def bM.cells{w B A l}(h:bM w B A l) k(hk:k<l.length) :
 ∃b off,A=some ⟨b,off,none⟩/\b<B/\C w b (off+k*11) (U l[k].A l[k].keys.length l[k].c)/\C w b (off+k*11+1) (I l[k].ag.c)/\C w b (off+k*11+2) (I l[k].ag.s0)/\C w b (off+k*11+3) (I l[k].ag.n0)/\C w b (off+k*11+4) (I l[k].ag.x0)/\C w b (off+k*11+5) (I l[k].ag.s1)/\C w b (off+k*11+6) (I l[k].ag.n1)/\C w b (off+k*11+7) (I l[k].ag.x1)/\C w b (off+k*11+8) (I l[k].ag.s2)/\C w b (off+k*11+9) (I l[k].ag.n2)/\C w b (off+k*11+10) (I l[k].ag.x2):=by
 obtain⟨b,off,e,f,d⟩:=Row.rec kC h.row o_ k hk;exact⟨b,_,e,f,d 0 _ rfl,d 1 _ rfl,d 2 _ rfl,d 3 _ rfl,d 4 _ rfl,d 5 _ rfl,d 6 _ rfl,d 7 _ rfl,d 8 _ rfl,d 9 _ rfl,d _ _ rfl⟩
def aa.dk{w g t f e r c s m p d q n b}(h:aa w g t #[f,e,r,c,s,m,p,d,q,n,b]) :
 C w g 0 f/\C w g 1 e/\C w g 2 r/\C w g 3 c/\C w g 4 s/\C w g 5 m/\C w g 6 p/\C w g 7 d/\C w g 8 q/\C w g 9 n/\C w g 10 b:=
 ⟨h.cell 0,h.cell 1,h.cell 2,h.cell 3,h.cell 4,h.cell 5,h.cell 6,h.cell 7,h.cell 8,h.cell 9,h.cell _⟩
def pR{w w':World}{g u p c r d m q s n f b}(v:w'.heap[g]? = w.heap[g]?)(h:w.cell? ⟨g,0,none⟩=some u/\w.cell? ⟨g,1,none⟩=some p/\w.cell? ⟨g,2,none⟩=some c/\w.cell? ⟨g,3,none⟩=some r/\w.cell? ⟨g,4,none⟩=some d/\w.cell? ⟨g,5,none⟩=some m/\w.cell? ⟨g,6,none⟩=some q/\w.cell? ⟨g,7,none⟩=some s/\w.cell? ⟨g,8,none⟩=some n/\w.cell? ⟨g,9,none⟩=some f/\w.cell? ⟨g,10,none⟩=some b):w'.cell? ⟨g,0,none⟩=some u/\w'.cell? ⟨g,1,none⟩=some p/\w'.cell? ⟨g,2,none⟩=some c/\w'.cell? ⟨g,3,none⟩=some r/\w'.cell? ⟨g,4,none⟩=some d/\w'.cell? ⟨g,5,none⟩=some m/\w'.cell? ⟨g,6,none⟩=some q/\w'.cell? ⟨g,7,none⟩=some s/\w'.cell? ⟨g,8,none⟩=some n/\w'.cell? ⟨g,9,none⟩=some f/\w'.cell? ⟨g,10,none⟩=some b:=by
 have e:∀i,w'.cell? _=w.cell? ⟨g,i,none⟩:=λi=>bF v;grind
def pH A l c w(hn:l.length<=1000000)(hk:∀f∈l,f.keys.length<=1000000)(hr:bM w w.heap.size A l) :
 Calls prog 136 #[U A l.length c] w (uT (l.map pl) w):=by
 have a2:Kp (∀v p w',p.map pl=l.map pl->bj _ _ v p->eC _ p->E w _->uT _ w _ w'):=λv p w' h1 h2 h3 G=>⟨v,p,rfl,h1,h2,h3,G⟩;have Z:=J hk;have HC:=J qW;obtain⟨i0,d7,d9,d4,d6⟩:=info_parts mA;generalize u:uT _ w=Q at*;generalize hN:l.length=n at*;go_in;go_wp2;go_loopw [3,8] (λy u wr=>∃(k:Nat)(p:List Fa)(V:OA)(R:Nat),k<=n/\u = I k/\y = U V k R/\p.length=k/\p.map pl=(l.take k).map pl/\wr.ownsRow w.heap.size 89 11 (U V k R) k (p.flatMap aV)/\(∀f∈p,bP wr (U V k R) f)/\eC w.heap.size p/\E w wr) (λ_ u _=>n-(intOf u).toNat)
 case atStart=>exact⟨0,_,_,0,o_,rfl,rfl,rfl,rfl,cK _ _ _ _,(λf z=>r_),(λf z=>r_),bR⟩
 .obtain⟨k,p,V,R,hk,rfl,rfl,d1,b4,x,b6,d0,y⟩:=hrel;by_cases u:k<n
  .have D:k<l.length:=o_
   have u:=((J hr).below (J y)).more (J y).size;obtain⟨b,off,rfl,G,c0,c1,c2,c3,G,c5,M,c7,L,c9,O⟩:=u.cells k D;have z:=u.keys _ (gM D);have d5:=J (show(l.take _).map _=(l.take k).map _++[pl _] by rw[take_succ_eq_append_getElem D,map_append];rfl);have a9:=Z _ (gM D);generalize(l[k]'D)=f at*;obtain⟨Z,keys,Y,ag⟩:=f;obtain⟨ac,s0,n0,x0,s1,n1,x1,s2,n2,x2⟩:=ag;dsimp only at c0 c1 c2 c3 G c5 M c7 L c9 O;have F:=(ah _ wr).alloc (ae _) (.cells #[U Z keys.length Y,I ac,I s0,I n0,I x0,I s1,I n1,I x1,I s2,I n2,I x2] 89);have u:=J (aa.new wr 89 #[U Z keys.length Y,I ac,I s0,I n0,I x0,I s1,I n1,I x1,I s2,I n2,I x2]);have D:=J ((z.below F).more F.size);have f8:0<=(k:Int):=o_;have f7:k<(n:Int):=o_;go_upto_region 5 with fail;clear c0 c1 c2 c3 G c5 M c7 L c9 O;generalize wr.alloc _=X at*;generalize M:wr.heap.size=r at*;have G:=aa.dk u;apply wp_region_noPanic;refine br (t:=99) (S:=(λw'=>C w' r 0 _/\C w' r 1 _/\C w' r 2 _/\C w' r 3 _/\C w' r 4 _/\C w' r 5 _/\C w' r 6 _/\C w' r 7 _/\C w' r 8 _/\C w' r 9 _/\C w' r _ _)) k_ G (λd=> ?_);apply tD 0 1 2 4 d;apply tk 5 d;have O:=u.lt;refine oT 3 λK hK=>?_;go_simp;apply(HC Z Y keys X.drew a9 D).mono;rintro e D⟨u,rfl,u,W⟩;obtain⟨Ak,Z,rfl⟩:=cI u;refine oK hK ?_ λm=>?_
   .exact pR ((J W).block r O) G
   replace d:=m;have G:Kp _:=(J F).trans ((bR.drew.trans (J W)).mono o_);have L:=J (bS (J x) (by show Below _ _ _;rw[(J M)];exact G));have d2:=J (λf z=>((J b6) f z).below (by show Below _ _ _;rw[(J M)];exact G));have T:=J ((J y).trans (G.mono (by rw[<-(J M)];exact(J y).size)));have a6:Kp (bP D _ ⟨_,_,Z,⟨ac,s0,n0,x0,s1,n1,x1,s2,n2,x2⟩⟩):=bP.new (J u) (λj G=>bh ((J x).lt j G).2 (J F).size);have b7:Kp (eC _ (p++[⟨Ak,keys,Z,⟨ac,s0,n0,x0,s1,n1,x1,s2,n2,x2⟩⟩])):=λg G b' b0 N e0=>by
    obtain G|G:=mem_append.1 G
    .exact(J d0) g G _ _ N e0
    .rw[mem_singleton.1 G]at N;dsimp only at N;have h1:=(J u).lt b' (by rw[N];rfl);have h2:=(J y).size;have u:X.drew.heap.size=X.heap.size:=rfl;omega
   have e3:k+1<1048576*64:=o_
   have u:=J T.size;have s:=bh O (J W).size;have G:=kp (show(Value.slice V k R).ownBlock≠some r fromλO=>by have:=((J x).lt r O).2;omega);refine tk 6 d ?_;refine oT 7 λK hK=>?_;go_simp;refine oK hK ?_ λm=>?_
   .exact pR (Below.heap_alloc _ _ _ s) d
   replace d:=m;refine oT 8 λK hK=>?_;refine rS rfl _ _ _ rfl _ 89 _ _ _ _ underlying34 d7 d9 d4 d6 rfl d_ D (bC ⟨_,_,Z,⟨_,_,_,_,_,_,_,_,_,_⟩⟩) rfl (kV _) (U V k R) k _ rfl L rfl e3 d_ u ?_;intro D O H q;obtain⟨D,c5,M⟩:=cI H;subst M;go_simp;refine oK hK ?_ λm=>?_
   .exact pR (((J q).bI s G).trans (Below.heap_alloc _ _ _ s).symm) d
   replace d:=m;apply tk 9 d;refine bQ k_ ?_ _;try clear d
   apply NoPanic.normal;have G:=J ((J q).ew T L o_ u);have u:=kp (λf z=>by(obtain z|z:=mem_append.1 z;exact(d2 f z).app (J q);rw[mem_singleton.1 z];exact a6.app (J q)));go_wp2;refine⟨⟨_,_,D,_,o_,o_,rfl,o_,?_,?_,u,b7,G⟩,o_⟩
   .rw[map_append,b4,d5];rfl
   .grind
  .obtain rfl:k=n:=o_
   have z:=kp (show bj _ w.heap.size (.slice V k R) p from⟨r_,b6⟩);have u:=kp (show p.map pl=l.map pl by grind);go_wp2;exact a2 _ p _ u z d0 y
def aI:LN->LN->Int
 | [],[]=>0
 | [],_::_=> -1
 |_::_,[]=>1
 |a::x,b::y=>if a<b then -1 else if b<a then 1 else aI x y
def eW(a b:Nat):Int:=if a<b then -1 else if b<a then 1 else 0
def Li x w:Calls prog 275 #[I x] w λe w'=>e = .returned (.bool false)/\w=w':=by
 go_in;go_wp2;go_ret;simp
def AR(a b:Nat) w:Calls prog 212 #[I (a:Int),I (b:Int)] w λe w'=>e = .returned (I (eW a b))/\w=w':=by
 have c:Kp ((a<b->eW a b = -1)/\(b<a->eW a b=1)/\(¬a<b->¬b<a->eW a b=0)):=⟨λh=>by simp[eW,h],λh=>by(have h2:¬a<b:=o_);simp[eW,h,h2],λh1 h2=>by simp[eW,h1,h2]⟩;generalize eW a b=V at*;go_in;go_wp2_with(go_at_call 275;apply((J Li) _ _).mono;rintro e w'⟨rfl,rfl⟩)
 all_goals
  go_ret;refine⟨?_,rfl⟩;first
   |(rw[c.1 o_];rfl)
   |(rw[c.2.1 o_];rfl)
   |(rw[c.2.2 o_ o_];rfl)
def AS{a b:LN}{k}(d:k<a.length)(c:k<b.length):aI (a.drop k) (b.drop k)=if eW a[k] b[k]=0 then aI (a.drop (k+1)) (b.drop (k+1))else eW a[k] b[k]:=by
 rw[drop_eq_getElem_cons d,drop_eq_getElem_cons c,aI];unfold eW;omega
def Iq A B Y L a b w(ha:a.length<=1000000)(T:b.length<=1000000)(C:Row w w.heap.size A (an a))(z:Row w w.heap.size B (an b)) :
 Calls prog 202 #[U A a.length Y,U B b.length L] w λe w'=>e = .returned (I (aI a b))/\w=w':=by
 obtain⟨s,m⟩:=e_ a.length;obtain⟨nb,g⟩:=e_ b.length;rw[m]at ha⊢;rw[g]at T⊢;go_in;go_wp2;go_loop [11] (λi=>∃k:Nat,k<=s/\k<=nb/\i = I k/\aI a b=aI (a.drop k) (b.drop k)) (λi=>s-(intOf i).toNat)
 case atStart=>grind
 .obtain⟨k,N,G,rfl,(r:Kp _)⟩:=hrel;by_cases D:k<s
  .have d:k<a.length:=o_
   obtain⟨u,u,E,H,c0⟩:=Row.at_ (J C) (by rw[ia];omega);rw[E];have F:(an a)[k]'(by rw[ia];exact d) = I (a[k]'d:Nat):=by unfold an;rw[getElem_map]
   rw[F]at c0;by_cases n:k<nb
   .have f:k<b.length:=o_
    obtain⟨bB,u,M,O,R⟩:=Row.at_ (J z) (by rw[ia];omega);have W:(an b)[k]'(by rw[ia];exact f) = I (b[k]'f:Nat):=by unfold an;rw[getElem_map]
    rw[W]at R;rw[M];have q:=J (AS d f);have p:=J ((J AR) (a[k]'d) (b[k]'f) w);generalize(a[k]'d)=x at*;generalize(b[k]'f)=y at*;by_cases u:eW x y=0
    .have c:=J (show aI _ _=aI _ (b.drop (k+1)) by rw[q,if_pos u]);rw[u]at p;go_wp2_with fail;apply p.mono;rintro e w'⟨rfl,rfl⟩;go_wp2;go_round
     case rel=>exact⟨k+1,o_,o_,o_,by rw[r,c]⟩
     case measure=>simp[intOf];omega
    .have c:=J (show eW x y=aI a b by rw[r,q,if_neg u]);have Z:(eW x y != 0)=true:=o_
     generalize eW x y=V at*;go_wp2_with fail;apply p.mono;rintro e w'⟨rfl,rfl⟩;go_wp2;go_ret;exact⟨congrArg (λv=>Ending.returned (I v)) c,rfl⟩
   .have c:=J (show 1=aI a b by
     rw[r,drop_eq_getElem_cons d,show b.drop k=[]from drop_of_length_le o_];rfl)
    clear F E;generalize(a[k]'d)=x at*;go_wp2;go_ret;exact⟨congrArg (λv=>Ending.returned (I v)) c,rfl⟩
  .obtain rfl:k=s:=o_;by_cases n:k<nb
   .have c:=J (show(-1)=aI a b by
     rw[r,drop_of_length_le o_,drop_eq_getElem_cons o_];rfl)
    go_wp2;go_ret;exact⟨congrArg (λv=>Ending.returned (I v)) c,rfl⟩
   .have c:=J (show 0=aI a b by
     rw[r,drop_of_length_le o_,drop_of_length_le o_];rfl)
    go_wp2;go_ret;exact⟨congrArg (λv=>Ending.returned (I v)) c,rfl⟩
def te f g w(r:f.keys.length<=1000000)(q:g.keys.length<=1000000)(m:Row w w.heap.size f.A (an f.keys))(n:Row w w.heap.size g.A (an g.keys)) :
 Calls prog 134 #[.agg (bC f),.agg (bC g)] w λe w'=>e = .returned (I (aI f.keys g.keys))/\w'=(w.alloc (.cells (bC f) 89)).alloc (.cells (bC g) 89):=by
 have d:=(ah _ w).alloc (ae _) (.cells (bC f) 89);have b:=d.alloc o_ (.cells (bC g) 89);have p:=J (Iq _ _ f.c g.c _ _ _ r q ((m.below b).more o_) ((n.below b).more o_));obtain⟨x0,_⟩:=aa.dk ((aa.new w 89 (bC f)).alloc (.cells (bC g) 89));obtain⟨s,_⟩:=aa.dk (aa.lay (w:=w.alloc (.cells (bC f) 89)) (g:=w.heap.size+1) (t:=89) (cs:=bC g) s_);unfold bC at*;generalize aI _ _=V at*;go_in;go_wp2_with fail;apply p.mono;rintro e w'⟨rfl,h⟩;go_wp2;go_ret;exact⟨rfl,h.symm⟩
def dG{w:World}{B e sz g n c xs}(h:w.ownsRow B e sz (.slice (some ⟨g,0,none⟩) n c) n xs){i}(hi:i<xs.length) u :
 (w.setCell ⟨g,i,none⟩ u).ownsRow B e sz (.slice (some ⟨g,0,none⟩) n c) n (xs.set i u):=by
 obtain⟨h1,h2⟩:=h;refine⟨o_,?_⟩;obtain⟨h2,_⟩|⟨x,cap,cur,r,p,q,d,m,b,ht⟩:=h2
 .grind
 .injection r with f _ s;injection f with f;injection f with v _ _;subst v s;refine .inr ⟨g,c,cur.setIfInBounds i u,rfl,p,?_,d,m,o_,?_⟩
  .simp[World.setCell,Array.getElem?_modify,q]
  .rw[Array.toList_setIfInBounds,take_set,ht]
def J3 P R s f:(((((((((((((P++s::R).flatMap aV).set (P.length*11) (.slice f.A f.keys.length f.c)).set (P.length*11+1) (.int .i64 f.ag.c)).set (P.length*11+2) (.int .i64 f.ag.s0)).set (P.length*11+3) (.int .i64 f.ag.n0)).set (P.length*11+4) (.int .i64 f.ag.x0)).set (P.length*11+5) (.int .i64 f.ag.s1)).set (P.length*11+6) (.int .i64 f.ag.n1)).set (P.length*11+7) (.int .i64 f.ag.x1)).set (P.length*11+8) (.int .i64 f.ag.s2)).set (P.length*11+9) (.int .i64 f.ag.n2)).set (P.length*11+10) (.int .i64 f.ag.x2))=(P++f::R).flatMap aV:=by
 have b:=iX kC P;rw[flatMap_append,flatMap_append,flatMap_cons,flatMap_cons,<-b];simp
abbrev gU(w:World)(g o:Nat)(f:Fa):World:=((((((((((w.setCell ⟨g,o,none⟩ (.slice f.A f.keys.length f.c)).setCell ⟨g,o+1,none⟩ (.int .i64 f.ag.c)).setCell ⟨g,o+2,none⟩ (.int .i64 f.ag.s0)).setCell ⟨g,o+3,none⟩ (.int .i64 f.ag.n0)).setCell ⟨g,o+4,none⟩ (.int .i64 f.ag.x0)).setCell ⟨g,o+5,none⟩ (.int .i64 f.ag.s1)).setCell ⟨g,o+6,none⟩ (.int .i64 f.ag.n1)).setCell ⟨g,o+7,none⟩ (.int .i64 f.ag.x1)).setCell ⟨g,o+8,none⟩ (.int .i64 f.ag.s2)).setCell ⟨g,o+9,none⟩ (.int .i64 f.ag.n2)).setCell ⟨g,o+10,none⟩ (.int .i64 f.ag.x2)
def MP{w B e g n c P R s}(h:w.ownsRow B e 11 (.slice (some ⟨g,0,none⟩) n c) n ((P++s::R).flatMap aV)) f :
 (gU w g (P.length*11) f).ownsRow B e 11 (.slice (some ⟨g,0,none⟩) n c) n ((P++f::R).flatMap aV):=by
 have b:=iX kC (P++s::R);simp only[aE,length_cons]at b;rw[<-J3 P R s f];refine dG (dG (dG (dG (dG (dG (dG (dG (dG (dG (dG h ?_ _) ?_ _) ?_ _) ?_ _) ?_ _) ?_ _) ?_ _) ?_ _) ?_ _) ?_ _) ?_ _
 all_goals((try simp only[length_set]);omega)
def En{w g o k f}(hk:k≠g):(gU w g o f).heap[k]? = w.heap[k]?:= by
 unfold gU;repeat rw[Below.heap_setCell _ _ _ k hk]
def wG{B a w g o} f(h:Below B a w)(b:B<=g):Below B a (gU w g o f):=
 ((((((((((h.setCell b _).setCell b _).setCell b _).setCell b _).setCell b _).setCell b _).setCell b _).setCell b _).setCell b _).setCell b _).setCell b _
def PE w g o f:(gU w g o f).heap.size=w.heap.size:=by simp
def OZ{w B A c g o f}(h:Row w B A c)(d:∀b off,A=some ⟨b,off,none⟩->c≠[]->g≠b):Row (gU w g o f) B A c:=by
 obtain h|⟨b,off,e,q,p⟩:=h
 .exact .inl h
 .by_cases h0:c=[]
  .exact .inl h0
  .refine .inr ⟨b,_,e,q,λi v n=> ?_⟩;have:=p i v n;rw[<-this];exact bF (En (λm=>d b _ e h0 m.symm))
def bP.gU{w g o n c f p}(h:bP w (.slice (some ⟨g,0,none⟩) n c) f):bP (gU w g o p) (.slice (some ⟨g,0,none⟩) n c) f:=by
 refine⟨?_,h.2⟩;rw[PE];exact OZ h.1 (λb off e d m=>h.2 b _ e d (by rw[m];rfl))
def bj.set{w B g n c P R s f}(h:bj w B (.slice (some ⟨g,0,none⟩) n c) (P++s::R))(m:bP w (.slice (some ⟨g,0,none⟩) n c) f) :
 bj (Tc.gU w g (P.length*11) f) B (.slice (some ⟨g,0,none⟩) n c) (P++f::R):=by
 obtain⟨h1,h2⟩:=h;obtain⟨p,q,e⟩:=cI h1;have b:n=(P++s::R).length:=r_
 have d:(P++f::R).length=(P++s::R).length:=s_;refine⟨?_,λx hx=> ?_⟩
 .rw[d];rw[<-b]at h1⊢;exact MP h1 f
 .obtain hx|hx:=mem_append.1 hx
  .exact(h2 x (mem_append_left _ hx)).gU
  .obtain rfl|hx:=mem_cons.1 hx
   .exact m.gU
   .exact(h2 x (mem_append_right _ (mem_cons_of_mem _ hx))).gU
def bj.addr{w B n c A l}(h:bj w B (.slice A n c) l)(d:0<l.length):∃g,A=some ⟨g,0,none⟩/\B<=g/\g<w.heap.size:=by
 obtain⟨_,h0⟩|⟨g,cap,cur,e,m,b,_⟩:=h.1.2
 .omega
 grind
def bj.cells{w B g n c l}(h:bj w B (.slice (some ⟨g,0,none⟩) n c) l) k(hk:k<l.length):w.cell? ⟨g,k*11,none⟩=some (.slice l[k].A l[k].keys.length l[k].c)/\w.cell? ⟨g,k*11+1,none⟩=some (.int .i64 l[k].ag.c)/\w.cell? ⟨g,k*11+2,none⟩=some (.int .i64 l[k].ag.s0)/\w.cell? ⟨g,k*11+3,none⟩=some (.int .i64 l[k].ag.n0)/\w.cell? ⟨g,k*11+4,none⟩=some (.int .i64 l[k].ag.x0)/\w.cell? ⟨g,k*11+5,none⟩=some (.int .i64 l[k].ag.s1)/\w.cell? ⟨g,k*11+6,none⟩=some (.int .i64 l[k].ag.n1)/\w.cell? ⟨g,k*11+7,none⟩=some (.int .i64 l[k].ag.x1)/\w.cell? ⟨g,k*11+8,none⟩=some (.int .i64 l[k].ag.s2)/\w.cell? ⟨g,k*11+9,none⟩=some (.int .i64 l[k].ag.n2)/\w.cell? ⟨g,k*11+10,none⟩=some (.int .i64 l[k].ag.x2):=by
 obtain⟨b,off,e,p,d⟩:=h.jW.cells k hk;injection e with e;injection e with m f _;subst m f;grind
def bj.pL{w B g n c l}(h:bj w B (.slice (some ⟨g,0,none⟩) n c) l) k:w.frozen? ⟨g,k*11,none⟩=false/\w.frozen? ⟨g,k*11+1,none⟩=false/\w.frozen? ⟨g,k*11+2,none⟩=false/\w.frozen? ⟨g,k*11+3,none⟩=false/\w.frozen? ⟨g,k*11+4,none⟩=false/\w.frozen? ⟨g,k*11+5,none⟩=false/\w.frozen? ⟨g,k*11+6,none⟩=false/\w.frozen? ⟨g,k*11+7,none⟩=false/\w.frozen? ⟨g,k*11+8,none⟩=false/\w.frozen? ⟨g,k*11+9,none⟩=false/\w.frozen? ⟨g,k*11+10,none⟩=false:=by
 obtain⟨h0,_⟩|⟨p,cap,cur,f,q,e,_⟩:=h.1.2
 .grind
 .injection f with d _ _;injection d with d;injection d with m _ _;subst m;have b:∀i,w.frozen? (M g i)=false:=λi=>by simp[World.frozen?,e]
  grind
def bj.fw{w B g n c P R s}(h:bj w B (.slice (some ⟨g,0,none⟩) n c) (P++s::R)):cF w g (P.length*11) s:=by
 have:=h.cells P.length s_;grind
def jU:∀a b:LN,aI b a = - aI a b
 | [],[]=>rfl
 | [],_::_=>rfl
 |_::_,[]=>rfl
 |a::x,b::y=>by
  rw[aI,aI,jU];omega
def nX:∀a:LN,aI a a=0
 | []=>rfl
 |a::x=>by rw[aI,nX];simp
def nW:∀{a b:LN},aI a b=0->a=b
 | [],[],_=>rfl
 | [],_::_,h=>by cases h
 |_::_,[],h=>by cases h
 |a::x,b::y,h=>by
  rw[aI]at h;by_cases h1:a<b
  .omega
  .by_cases h2:b<a
   .omega
   .simp[h1,h2]at h;rw[nW h];grind
def sX:∀{a b c:LN},aI a b<=0->aI b c<=0->aI a c<=0
 | [],[],_,_,h=>h
 | [],_::_,[],_,_=>by simp[aI]
 | [],_::_,_::_,_,_=>by simp[aI]
 |_::_,[],_,h,_=>by trivial
 |_::_,_::_,[],_,h=>by trivial
 |a::x,b::y,c::z,h1,h2=>by
  rw[aI]at h1 h2⊢;by_cases g:a<b
  .omega
  .by_cases m:b<a
   . omega
   .have f:a=b:=o_;subst f;simp at h1;by_cases d:a<c
    . omega
    .by_cases e:c<a
     .omega
     .simp[d,e]at h2⊢;exact sX h1 h2
def cZ(l:List Fa):Prop:=l.Pairwise λa b=>aI a.keys b.keys<=0
def Ew{P S f}(h:cZ (P++S))(s:∀x∈S,0<aI x.keys f.keys)(q:P=[]\/∃n p,P=n++[p]/\aI p.keys f.keys<=0):cZ (P++f::S):=by
 unfold cZ at*;rw[pairwise_append]at h⊢;obtain⟨h1,h2,r⟩:=h;have e:∀x∈S,aI _ _<=0:=λx hx=>by
  have:=s x hx;rw[jU x.keys f.keys];omega
 have d:∀x∈P,aI x.keys f.keys<=0:=by
  obtain rfl|⟨n,p,rfl,m⟩:=q
  .simp
  .intro x hx;obtain hx|hx:=mem_append.1 hx
   .rw[pairwise_append]at h1;exact sX (h1.2.2 x hx p s_) m
   grind
 refine⟨h1,pairwise_cons.2 ⟨e,h2⟩,λa g b c=> ?_⟩;grind
def Ni P S Z(f:Fa):(P++f::(S++Z)).Perm (P++S++f::Z):=by
 rw[append_assoc];exact List.Perm.append_left P perm_middle.symm
def pa(ps:List (LN×Ag))(w:World)(e:Ending)(w':World):Prop:=∃(v:Value)(l:List Fa),e = .returned v/\(l.map pl).Perm ps/\cZ l/\bj w' w.heap.size v l/\eC w.heap.size l/\Below w.heap.size w w'
def Pr A l c w(hn:l.length<=1000000)(hk:∀f∈l,f.keys.length<=1000000)(hr:bM w w.heap.size A l) :
 Calls prog 199 #[.slice A l.length c] w (pa (l.map pl) w):=by
 have i3:Kp (∀v r w',(r.map pl).Perm (l.map pl)->cZ r->bj _ _ v r->eC _ r->E w _->pa _ w _ w'):=λv r w' h1 h2 h3 u hb=>⟨v,r,rfl,h1,h2,h3,u,hb⟩;obtain⟨y,f7,Hk⟩:=j3_ (pH A l c w hn hk hr) te hk;clear hr hk;generalize u:pa _ w=Q at*;clear u;obtain⟨n,u⟩:=e_ l.length;rw[u]at hn y⊢;have G:=J u;clear u;go_in;go_wp2_with fail;apply y.mono;rintro e u⟨v,u,rfl,D,H,z,L⟩;have g0:=J z;clear z;obtain⟨A1,c1,rfl⟩:=H.form;have z:u.length=n:=by rw[<-G,<-lM,D,lM]
 rw[z]at H⊢;have d7:Kp (∀r:List _,r.Perm u->(r.map pl).Perm (l.map pl)):=(λr h=>r_);obtain⟨k2,Z,V⟩:=j3_ z H L;have i4:Kp (∀r:List _,r.Perm u->∀f∈r,f.keys.length<=1000000):=λr hp f hf=>by
  obtain⟨G,O,e⟩:=mem_map.1 ((d7 r hp).mem_iff.1 (mem_map_of_mem hf));have e2:G.keys=f.keys:=congrArg Prod.fst e;rw[<-e2];exact Hk G O
 clear D z H L y;go_wp2;go_loopw [4] (λy wr=>∃(i:Nat)(r:List Fa),y = I i/\1<=i/\(i<=n\/i=1)/\r.length=n/\r.Perm u/\cZ (r.take i)/\bj wr w.heap.size (U A1 n c1) r/\Below w.heap.size w wr) (λy _=>n-(intOf y).toNat)
 .refine⟨1,u,rfl,o_,.inr rfl,k2,List.Perm.refl _,?_,Z,V⟩;obtain _|⟨a,u⟩:=u
  .exact List.Pairwise.nil
  .exact pairwise_singleton _ _
 .obtain⟨i,r,rfl,k5,y,y,D,L,G,z⟩:=hrel;obtain⟨f0,B,b4,T,g3⟩:=j5_ y D L G z;clear y D L G z;by_cases z:i<n
  .have y:i<r.length:=by rw[f0];omega
   obtain⟨g,rfl,g6,z⟩:=T.addr o_;obtain⟨c0,c1,c2,c3,c4,L,c6,V,c8,O,j2⟩:=T.cells i y;have l0:=i4 r B _ (gM y);have D:=J (T.2 _ (gM y));obtain⟨X,Z,z,G,h0⟩:∃X Z,r=X++(r[i]'y)::Z/\X.length=i/\r.take i=X:=⟨_,r.drop (i+1),o_,o_,rfl⟩;have HX:=J z;have g4:=J G;have m8:=J (show cZ X by rw[<-h0];exact b4);generalize(r[i]'y)=f at*;clear z G h0;have y:=(ah _ wr).alloc (ae _) (.cells #[U f.A f.keys.length f.c,I f.ag.c,I f.ag.s0,I f.ag.n0,I f.ag.x0,I f.ag.s1,I f.ag.n1,I f.ag.x1,I f.ag.s2,I f.ag.n2,I f.ag.x2] 89);have m9:=J (aa.new wr 89 #[U f.A f.keys.length f.c,I f.ag.c,I f.ag.s0,I f.ag.n0,I f.ag.x0,I f.ag.s1,I f.ag.n1,I f.ag.x1,I f.ag.s2,I f.ag.n2,I f.ag.x2]);have G:=ay g3 y;have e8:=J (T.below y);have z:=J (D.below y);clear y D;have y:0<=(i:Int):=o_;have k5:i<(n:Int):=o_;have m4:=J (show g≠wr.heap.size by omega);go_upto_region 6 with fail;clear c0 c1 c2 c3 c4 L c6 V c8 O j2;generalize y:wr.heap.size=Y at*;clear y;generalize wr.alloc _=y at*;go_wp2;go_loopw [6] (λy wr=>∃(P S:List Fa)(st:Fa),y = I P.length/\X=P++S/\bj wr w.heap.size (U (some ⟨g,0,none⟩) n c1) (P++st::(S++Z))/\(∀x∈S,0<aI x.keys f.keys)/\aa wr Y 89 #[U f.A f.keys.length f.c,I f.ag.c,I f.ag.s0,I f.ag.n0,I f.ag.x0,I f.ag.s1,I f.ag.n1,I f.ag.x1,I f.ag.s2,I f.ag.n2,I f.ag.x2]/\bP wr (U (some ⟨g,0,none⟩) n c1) f/\E w wr) (λy _=>(intOf y).toNat)
   case atStart=>exact⟨X,[],f,by rw[g4],s_,by rw[nil_append,<-HX];exact e8,s_,m9,z,G⟩
   .obtain⟨P,S,st,rfl,L,b0,G,z,D,V⟩:=hrel;obtain⟨y,m,HS,d1,a0,O⟩:=j6_ L b0 G z D V;have a6:=J (show(P++st::(S++Z)).length=n by rw[<-f0,HX,y];simp;omega);have dD:=aa.dk z;clear L b0 G z D V;have G:Kp ((P=[]\/∃z p,P=z++[p]/\aI _ _<=0)->∀L,bj L _ (U _ n _) (P++st::(S++Z))->bP L (U _ n _) f->E w L->∃(D:Nat)(l2:List _),I (i+1) = I D/\1<=D/\(D<=n\/D=1)/\l2.length=n/\l2.Perm u/\cZ (l2.take D)/\bj _ w.heap.size (U (some ⟨g,0,_⟩) n c1) l2/\E w (gU L g (P.length*11) f)):=λu L ho hf hb=>by
     have V:=(Ni P S Z f);refine⟨i+1,_,s_,o_,.inl o_,?_,?_,?_,ho.set hf,wG f hb g6⟩
     .rw[<-a6];simp
     .apply V.trans;rw[<-y,<-HX];exact B
     .have e:(P++f::(S++Z)).take (i+1)=P++f::S:=by
       have N:(P++f::S).length=i+1:=by rw[<-g4,y];simp;omega
       rw[<-N,show P++f::(S++Z)=(P++f::S)++Z by simp,take_left]
      rw[e];exact Ew (by rw[<-y];exact m8) HS u
    by_cases u:P=[]
    .have k4:decide (0<P.length)=false:=o_
     have Ht:=J (G (.inl u));have m5:P.length<(n:Int):=by have:=a6.o;simp at this;omega
     clear u G;have rD:=bj.fw (w:=wr.drew) m;have zD:=bj.pL (w:=wr.drew) m P.length;have D:Kp (bj wr.drew _ _ _):=m;generalize P.length=q at*;go_wp2;apply wp_region_noPanic;refine br (t:=99) (S:=(λw'=>eG w' Y f)) k_ dD (λb=> ?_);apply eR 0 1 2 b;apply sk 3 b;apply sk 4 b;apply sk 5 b;apply sk 6 b;apply sk 7 b;apply sk 8 b;apply sk 9 b;apply sk 10 b;apply tk 11 b;refine bQ k_ ?_ _;try clear b
     apply NoPanic.normal;have Hf:=J (Ht _ D a0 O.drew);have dD:=aa.dk (show aa wr.drew Y _ _ from d1);generalize wr.drew=L at*;go_wp2;exact⟨Hf,o_⟩
    .obtain⟨z,p,rfl⟩:∃z p,P=z++[p]:=⟨_,_,(dropLast_concat_getLast u).symm⟩;have V:p∈(z++[p])++st::(S++Z):=s_;have i5:=i4 r B p (by rw[HX,y];simp);have g5:=(m.2 p V).1;have i1:Kp (Calls _ _ _ _ _):=f7 p f wr.drew i5 l0 g5 a0.1;have D:Kp (0<aI _ _->∀L,bj L _ (U _ n _) ((z++[p])++st::(S++Z))->bP L (U (some ⟨g,0,_⟩) n _) p->bP L (U _ n _) f->aa L Y _ _->g≠Y->E w L->∃ P2 S2 k1,I _ = I P2.length/\X=P2++S2/\bj (gU L g ((z++[p]).length*11) p) w.heap.size (U _ n c1) (P2++k1::(S2++Z))/\(∀x∈S2,0<aI x.keys _)/\aa (gU L g ((z++[p]).length*11) p) Y 89 #[U f.A f.keys.length f.c,I f.ag.c,I f.ag.s0,I f.ag.n0,I f.ag.x0,I f.ag.s1,I f.ag.n1,I f.ag.x1,I f.ag.s2,I f.ag.n2,I f.ag.x2]/\bP (gU L g ((z++[p]).length*11) p) (U _ n c1) f/\E w (gU L g ((z++[p]).length*11) p)):=λhc L ho hp hf l4 L hb=>by
      refine⟨z,p::S,p,rfl,by rw[y];simp,?_,?_,(En (λy=>L y.symm)).trans l4,hf.gU,wG p hb g6⟩
      .have:=ho.set hp;simpa using this
      .intro x hx;obtain rfl|hx:=mem_cons.1 hx
       .omega
       .exact HS x hx
     have Ht:=J (λy=>G (.inr ⟨z,p,rfl,y⟩));have N:(z++[p]).length=z.length+1:=s_;have m5:z.length+1<(n:Int):=by have:=a6.o;simp at this;omega
     have L:=bj.fw (w:=wr.drew) (by have:=m.o;rw[append_assoc]at this;exact this);have a5:Kp (bj wr.drew _ _ _):=m;have g7:=J (m.2 p V);clear u G V i5 g5;rw[N]at D Ht⊢;have f2:g<wr.heap.size:=(m.addr o_).elim (λu h=>by grind);have h6:=d1.lt;have a9:=J N;clear N;have u:IntKind.i64.wrap _=z.length:=IntWalk.i64_in _ o_;have k4:0<=(z.length:Int):=o_;have u:z.length<(n:Int):=o_;by_cases hV:0<aI p.keys f.keys
     .have n5:=decide_eq_true hV;have e7:=J (D hV);clear hV D Ht;generalize aI _ _=V at*;generalize b2:z.length=q at*;have i0:=J b2;clear b2;go_wp2;apply wp_region_noPanic;refine br (t:=99) (S:=(λw'=>(cF w' g _ p)/\(eG w' Y f))) k_ ⟨L,dD⟩ (λb=> ?_);apply tD 0 1 2 3 b;apply tD 4 5 6 7 b;apply tk 8 b;refine oT 9 λK hK=>?_;go_simp;apply i1.mono;rintro e G⟨rfl,b1⟩;have W:=J b1;clear b1;refine oK hK ?_ λb=>?_
      .have e1:∀i,G.cell? _=wr.drew.cell? (M g i):=λi=>bF (by rw[W];exact(Below.heap_alloc _ _ _ o_).trans (Below.heap_alloc _ _ _ f2));have e2:∀i,G.cell? _=wr.drew.cell? (M Y i):=λi=>bF (by rw[W];exact(Below.heap_alloc _ _ _ o_).trans (Below.heap_alloc _ _ _ h6));(try dsimp only[cA,gZ]);(try dsimp only[cF,eG]);(try dsimp only[cC,hJ,cN,iI]);simp only[C,e1,e2];omega
      apply tB 10 11 b;refine bQ k_ ?_ _;try clear b
      apply NoPanic.normal;have y:=(show Below _ _ G by rw[W];exact((ah _ _).alloc (ae _) _).alloc s_ _);obtain⟨d,d5,b7,F,b3⟩:=j5_ (a5.below y) (bP.below (w:=wr.drew) g7 y) (bP.below (w:=wr.drew) a0 y) (aa.under (w:=wr.drew) d1 y) (O.drew.trans (y.mono O.size));clear y dD L;have dD:=aa.dk F;have b6:=d.fw;have e0:=d.pL (q+1);rw[a9]at b6;have f3:=bj.fw (by have:=d.o;rw[append_assoc]at this;exact this);rw[i0]at f3;have L:=f3;have Hf:=J (e7 G d d5 b7 F m4 b3);go_wp2;exact⟨Hf,by first|(simp[intOf];done)|(simp[intOf];omega)⟩
     .have n5:=decide_eq_false hV;have e7:=J (Ht o_);clear hV D Ht;generalize aI _ _=V at*;generalize b2:z.length=q at*;clear b2;go_wp2;apply wp_region_noPanic;refine br (t:=99) (S:=(λw'=>(cF w' g _ p)/\(eG w' Y f))) k_ ⟨L,dD⟩ (λb=> ?_);apply tD 0 1 2 3 b;apply tD 4 5 6 7 b;apply tk 8 b;refine oT 9 λK hK=>?_;go_simp;apply i1.mono;rintro e G⟨rfl,b1⟩;have W:=J b1;clear b1;refine oK hK ?_ λb=>?_
      .have e1:∀i,G.cell? _=wr.drew.cell? (M g i):=λi=>bF (by rw[W];exact(Below.heap_alloc _ _ _ o_).trans (Below.heap_alloc _ _ _ f2));have e2:∀i,G.cell? _=wr.drew.cell? (M Y i):=λi=>bF (by rw[W];exact(Below.heap_alloc _ _ _ o_).trans (Below.heap_alloc _ _ _ h6));(try dsimp only[cA,gZ]);(try dsimp only[cF,eG]);(try dsimp only[cC,hJ,cN,iI]);simp only[C,e1,e2];omega
      apply tB 10 11 b;refine bQ k_ ?_ _;try clear b
      apply NoPanic.normal;have y:=(show Below _ _ G by rw[W];exact((ah _ _).alloc (ae _) _).alloc s_ _);obtain⟨d,d5,b7,F,b3⟩:=j5_ (a5.below y) (bP.below (w:=wr.drew) g7 y) (bP.below (w:=wr.drew) a0 y) (aa.under (w:=wr.drew) d1 y) (O.drew.trans (y.mono O.size));clear y dD L;have dD:=aa.dk F;have b6:=d.fw;have e0:=d.pL (q+1);rw[a9]at b6;have Hf:=J (e7 G d b7 b3);go_wp2;exact⟨Hf,o_⟩
  .have u:=J (by have:=b4.o;rw[take_of_length_le (by rw[f0];omega)]at this;omega);go_wp2;exact i3 _ r _ (d7 r B) u T (λf hf=>g0 f (B.mem_iff.1 hf)) g3
end Tc
end Go.Proofs.YtibjlpkpljnicaaGreatDoor
