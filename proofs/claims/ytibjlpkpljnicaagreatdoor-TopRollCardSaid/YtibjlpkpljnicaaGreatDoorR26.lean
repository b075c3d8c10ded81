/- Parts. -/
import Derived.Test.YtibjlpkpljnicaaGreatDoorR24
import Derived.Test.YtibjlpkpljnicaaGreatDoorR25
set_option maxRecDepth 100000
set_option maxHeartbeats 8000000
set_option linter.all false
namespace Go.Proofs.YtibjlpkpljnicaaGreatDoor
namespace Tc
open List Go.RowKit Base Go.Proofs.Tryz
def Fc(b:Bc)(c:b.Ok):∀(d:Nat),d<b.X.length->vu b (b.X.length-1-d) (visit b.ps b.aL b.most b.X.length d)
 |0,h=>CO b c _ (by omega) none (I1 b c _ (by omega)) (show b.X.length-1-0+1=b.X.length by omega) trivial
 |d+1,h=>by
  have e:b.X.length-1-(d+1)+1=b.X.length-1-d:=o_;have f:=Fc b c d o_;refine CO b c _ o_ _ (I0 b c _ o_ _ r_) ⟨o_,?_⟩ ?_
  .rw[e];exact za o_
  .unfold mM;dsimp only;rw[e];exact Fe o_
end Tc
namespace Tc
open List Go.RowKit Base Go.Maps Go.WideMaps Go.Proofs.Tryz
structure se(s:aN)(fs:List Fa)(most:Nat):Prop where
 bO:cJ s
 cfg:lv (aw fs) (s.af.map dP) (s.af.map aW) s.aC.length
 facts:∀xs:List Fa,xs.map Fa.keys=s.af.map aW->∀f∈fs,uP xs s.aC.length f
 shape:∀xs:List Fa,xs.map Fa.keys=s.af.map aW->vU xs s.aC.length
 ja:sE fs
 fit:∀f∈fs,cB f.ag
 most:most<=131072
def dv(s:aN)(fs:List Fa)(most:Nat):Option (List aQ):=
 if fs=[]then some []else(visit (aw fs) (s.af.map dP) most s.af.length (s.af.length-1) (range fs.length) ⟨[],[]⟩).map λr=>r.1.nodes
def oV(B:Nat)(A:OA)(ys:List Fa)(c:OA)(b:List Nd):Prop:=(∀k,cz A ys k->B<=k)/\(∀k,cE c (b.flatMap cO) k->B<=k)/\∀n∈b,∀k,mE n k->B<=k
def oV.nil{B A ys}(h:∀k,cz A ys k->B<=k):oV B A ys none []:=⟨h,λk hk=>absurd rfl hk.1,λn b=>r_⟩
def sf(s:aN)(fs:List Fa)(most:Nat)(w:World)(e:Ending)(w':World):Prop:=
 (∀f,dv s fs most=some f->∃(ga:Nat)(A d:OA)(c g:Nat)(ys:List Fa)(b:List Nd),e = .returned (.tuple #[Y ga 0,I 0])/\aa w' ga 217 (eV A ys.length c s.aC.length d b.length g most) /\
   cG w' w'.heap.size A ys/\ys.map Fa.keys=s.af.map aW/\gX w' w'.heap.size d b/\b.map aK=f/\E w w'/\w.heap.size<=ga/\oV w.heap.size A ys d b) /\
 (dv s fs most=none->e = .returned (.tuple #[.pointer none,I 7])/\E w w')
def DN{ps}(h:ps≠[]):fI ps (range ps.length):=
 ⟨λe=>h (length_eq_zero_iff.1 r_),λi hi=>mem_range.1 hi,nodup_range⟩
def GG s most Af cf fs w(h:cQ w w.heap.size s)(hf:bM w w.heap.size Af fs)(m:se s fs most) :
 Calls prog 34 #[.agg (aG s),N most,U Af fs.length cf] w (sf s fs most w):=by
 have u:=@run_makeMap prog;obtain⟨i0,n8,n9,m5,r1⟩:=info_parts iK;have hn:=m.cfg.rF;have L:(aw fs).length=fs.length:=by unfold aw;rw[lM]
 rw[L]at hn;have HQ:Kp (∀ ga A y c z ys M w',dv s fs most=some (M.map aK)->aa _ _ _ _->cG _ _ A ys->ys.map _=s.af.map _->gX _ _ y M->E w _->w.heap.size<=ga->oV _ A _ y M->sf s fs most w _ w'):=λga A y c z ys M w' h0 h1 h2 h3 G h5 h6 D=>
  ⟨λO u=>⟨_,A,y,c,z,_,M,rfl,h1,h2,h3,G,r_,h5,h6,D⟩,λu=>r_⟩
 have HN:Kp (∀w',dv s fs most=none->E w _->sf s fs most w _ w'):=λw' h0 h1=>⟨λO u=>r_,λ_=>⟨rfl,h1⟩⟩;obtain⟨u,Hf,Ho⟩:=j3_ h hf m;have y:=(ah _ w).alloc (ae _) (.cells (aG s) 25);have D:=J (aa.new w 25 (aG s));have O:=J (yL s _ ((h.below y).more o_) m.bO);have G:=J (λW u=>PH s W ((h.below u).more u.size) m.bO);have HL:=J (λW u=>KM s W ((h.below u).more u.size) m.bO);have V:=J (λA c xs W hx hk u=>IV A _ c cf _ _ _ W hx ((hf.below u).more u.size) (m.shape _ hk).n2 o_ (m.shape _ hk).m1 (m.shape _ hk).m2 (m.facts xs hk) m.ja);have HA:=J (λA c xs W hx hk=>Ls A c _ _ _ W hx (m.shape xs hk) m.most);have Z:=J y;clear h hf m y L;generalize u:sf s _ _ w=Q at*;clear u;unfold aG at O G HL D Z⊢;generalize m9:w.alloc _=u at*;obtain⟨u,y,_,_⟩:=D.two;obtain⟨n,z⟩:=e_ fs.length;have M:=J z;rw[z]at V hn⊢;clear z;have q1:¬ 4000<(n:Int):=o_;have o7:=decide_eq_false q1;go_in;go_wp2_with fail;apply O.mono;rintro e w1⟨z,rfl,rfl,z⟩;have L:=bu D z;have e9:=ay Z z;clear z u y m9 O;obtain⟨u,y,_,_⟩:=L.two;have j2:=J (G _ e9);go_wp2_with fail;apply j2.mono;rintro e D⟨A,c,xs,rfl,O,j3,z⟩;have f3:=bu L z;have n3:=ay e9 z;have Z:=J j3;have i3:=J O.at_;clear z u y G j2 O j3 L;have z:=(ah _ D).alloc (ae _) (.cells #[U A xs.length c,I s.aC.length] 43);have G:=J (aa.new D 43 #[U A xs.length c,I s.aC.length]);have O:=bu f3 z;have i6:=ay n3 z;have a1:=J ((i3.below z).more z.size);generalize q5:D.alloc _=L at*;obtain⟨x0,x1,_,_⟩:=G.two;have D:=J (V A c _ L a1 Z i6);go_wp2_with fail;apply D.mono;rintro e w4⟨rfl,L⟩;clear q5;have i2:=bu O L;have f1:=bu G L;have b9:=ay i6 L;have b3:=J ((a1.below L).more L.size);clear z L x0 x1 O G V D a1 i3 f3;obtain⟨x0,x1,_,_⟩:=f1.two;have f6:=J (HA A c _ _ b3 Z);go_wp2_with fail;apply f6.mono;rintro e w5⟨ga,L,ca,ys,rfl,V,z,G,D,f8,g8⟩;have q7:=bu i2 D;have O:=ay b9 D;obtain⟨d6,a5,b7⟩:=j3_ z.at_ (G.trans Z) V;have e3:Kp _:=aF b9.size f8;have m0:=J g8;have f2:Kp (∀k,cz L _ k->w.heap.size<=k):=λk hk=>aF b9.size (by
  obtain⟨off,e,a6⟩|⟨f,hf,off,e,a6⟩:=hk
  .subst e;exact(z.1.lt k rfl).1
  .exact z.2.2 f hf k _ e a6)
 clear V z G D f8 g8 x0 x1 HA f6 f1 b3 i2;by_cases a8:n=0
 .have z:=length_eq_zero_iff.1 (by rw[M];omega)
  have v:=J (HQ _ L _ _ 0 _ [] _ (by unfold dv;grind) b7 d6 a5 ⟨.inl rfl,λx hx=>r_⟩ O e3 (oV.nil f2));go_wp2;exact v
 .have D:((n:Int) == 0)=false:=o_
  obtain⟨u,y,_,_⟩:=q7.two;have V:=J (HL _ O);go_wp2_with fail;apply V.mono;rintro e q⟨Al,cl,rs,rfl,Z,G,z⟩;obtain⟨b6,g5,a4⟩:=j3_ Z G z;have b8:=ay O z;clear Z G z u y HL V;have l4:=J (((ah _ q).alloc (ae _) (.map #[] 0)).alloc s_ (.cells #[U Af n cf,U Al rs.length cl,Y ga 0,.map (some q.heap.size),I 0] 143));have k5:=J ((World.ownsMap_made q prog 9 (plainElem (H:=Unit) prog 3)).alloc (.cells #[U Af n cf,U Al rs.length cl,Y ga 0,.map (some q.heap.size),I 0] 143));have p5:Kp (aa ((q.alloc (.map #[] 0)).alloc _) (q.heap.size+1) 143 #[U Af n cf,U Al rs.length cl,Y ga 0,.map (some q.heap.size),I 0]):=aa.lay s_;have u:((q.alloc (.map #[] 0)).alloc (.cells #[U Af n cf,U Al rs.length cl,Y ga 0,.map (some q.heap.size),I 0] 143)).heap.size=q.heap.size+2:=s_;generalize z:(q.alloc _).alloc _=y at*;go_wp2;clear z;have d4:=J u;clear u q1 o7 D;go_loopw [14,54] (λD z wr=>∃(k:Nat)(u:OA)(V:Nat),k<=n/\z = I k/\D = U u k V/\wr.ownsRow y.heap.size 3 1 (U u k V) k (an (range k))/\E y wr) (λ_ z _=>n-(intOf z).toNat)
  case atStart=>exact⟨0,_,0,o_,rfl,rfl,cK _ _ _ _,bR⟩
  .obtain⟨k,u,V,hk,rfl,rfl,p,z⟩:=hrel;have D:=J p;have G:=J z;clear p z;by_cases z:k<n
   .have z:k<1048576*64:=o_;have Hs:=J G.size;go_wp2_with(at_builtin;apply iP rfl _ _ _ rfl _ 3 _ _ 8 underlying84 n8 n9 m5 r1 rfl _ _ rfl (U u k V) k _ rfl D rfl z d_ Hs;intro z z z Z;obtain⟨A6,c6,h6⟩:=bY z;subst h6;have c9:=J z;have p4:=J (Z.below G D o_ Hs);clear z Z);exact⟨⟨_,_,_,o_,o_,rfl,by rw[range_succ];unfold an at*;rw[map_append];exact c9,p4⟩,o_⟩
   .obtain rfl:k=n:=o_;have c3:fs≠[]:=λe=>a8 (by rw[<-M,e];rfl);have R:Kp (E q _):=l4.trans (G.mono (by rw[d4];omega));have c4:=J (b8.trans (R.mono b8.size));have b2:Kp (E _ _):=a4.trans (R.mono a4.size);have h5:=b7.lt;have n6:=a4.size;have h8:=d4.o;have Z:=G.size;have m7:=e3.o;obtain⟨b,O⟩:∃b:Bc,b=⟨y.heap.size,q.heap.size+1,ga,q.heap.size,Af,fs,cf,Al,rs,cl,L,ys,ca,s.aC.length,most⟩:=⟨_,rfl⟩;have d7:b.Ok:=by
     subst O;refine⟨?_,Ho.fit,?_,?_,?_,?_,?_,?_,?_⟩
     .show lv (aw fs) (rs.map λr=>r.fs.map Fa.keys) (ys.map Fa.keys) s.aC.length;rw[g5,a5];exact Ho.cfg
     .have:=Ho.most;dsimp only;omega
     all_goals(dsimp only;omega)
    have p:∀j,b.own j->j<y.heap.size/\w.heap.size<=j:=by
     subst O;intro j d;unfold Bc.own at d;dsimp only at d;omega
    have a0:=J p;have z:Start b b.own none 0 [] ⟨[],[]⟩ 0 u (range k) wr:=by
     have p6:b.Ro wr:=by
      subst O;refine⟨(Hf.below c4).more o_,(b6.at_.below R).more o_,(d6.below b2).more o_,λj d m=> ?_,λj d m=> ?_,λj d m=> ?_⟩
      .have:=Hf.bU d;unfold Bc.own at m;dsimp only at m;omega
      .have h1:=b6.o3 d;have h2:=b6.at_.bU d;unfold Bc.own at m;dsimp only at m;omega
      .have h1:=m0 j d;have h2:=d6.bU d;unfold Bc.own at m;dsimp only at m;omega
     refine⟨p6,?_,dF D,λj d m=> ?_,?_,.inl rfl,λ_=>Good.nil _ _ _⟩
     .refine⟨?_,λj d=> .inr d,λj d=>d,λj d=>bh (p j d).1 Z,?_,?_,?_,(λj d=>by cases d),(λx hx=>r_),rfl,o_,rfl,?_⟩
      .grind
      .subst O;show aa wr (q.heap.size+1) _ #[U Af fs.length cf,U Al rs.length cl,Y ga 0,.map (some q.heap.size),I 0];rw[M];exact p5.under G
      .subst O;exact b7.under b2
      .exact ep.nil _ _
      .subst O;exact mc.same ⟨_,k5,nN.nil⟩ (G.block _ o_)
     .obtain⟨a6,off,e⟩:=d;have h1:=eB.own D (ae _) j _ e a6;have h2:=(p j m).1;omega
     .subst O;have:=DN (ps:=aw _) (by unfold aw;simpa using c3);rw[show(aw _).length=k by unfold aw;rw[lM];exact M]at this;exact this
    have g3:b.X.length=s.af.length:=by
     subst O;show(ys.map Fa.keys).length=_;rw[a5,lM]
    have m4:=d7.cfg.n1;have HV:=Fc b d7 (b.X.length-1) o_;rw[Nat.sub_self]at HV;have G:=J (HV _ _ 0 _ _ 0 u V _ _ z);have g4:=J (show dv s _ _=(visit b.ps b.aL b.most b.X.length (b.X.length-1) _ _).map λr=>r.1.nodes by
     unfold dv;rw[if_neg c3,M,g3];subst O;show _=(visit (aw _) (rs.map λr=>r.fs.map Fa.keys) most _ _ _ _).map _;rw[g5])
    have T:=J z;have i7:b.gb=q.heap.size+1:=r_
    rw[i7,length_range]at G;have D:=J O;generalize visit _ _ _ _ _=V at*;clear HV z d7 m4 g3 O p c3 h5 n6 h8 Z m7;go_wp2_with fail;apply G.mono;rintro e u⟨i,f4,p0,M,z,z,rfl,F,Z,k2,O,O⟩;have g:=J F;have g0:=J (c4.trans (F.ax.toBelow (λj d=>(a0 j d).2) c4.size));have x4:C u (q.heap.size+1) 4 (N z):=by
     have:=F.dy.fm.cell 4;rw[i7]at this;exact this
    clear F G;obtain rfl|rfl:=O
    .have O:=J (show dv s _ _=some (M.map _) by
      rw[g4,g.dy.plain];rcases z:V _ _ with _|r
      .grind
      grind)
     have o4:=J (show cG u _ L ys by
      have:=((T.ro.ax g.ax T.dy.line T.dy.fF).shape).more g.dy.line;rw[D]at this;omega)
     have G:∀j,b.B<=j\/b.own j->w.heap.size<=j:=λj d=>by
      obtain d|d:=d
      .have h1:b.B=y.heap.size:=by rw[D]
       have h2:=d4.o;have h3:=b8.size;omega
      .exact(a0 j d).2
     have y:Kp (oV _ L _ f4 M):=⟨f2,λj d=>G j (g.dy.fF j (g.dy.mw j (by obtain⟨_,off,e⟩:=d;rw[e];rfl))),λn hn j d=>G j (g.dy.fF j (g.dy.lJ n hn j d))⟩;clear G;have v:=J (HQ _ L _ _ _ _ M u O (by have:=g.dy.nT;rw[D]at this;omega) o4 a5 g.dy.nodes.at_ g0 e3 y);go_wp2;exact v
    .have O:=J (show dv s _ _=none by
      rw[g4];rcases z:V _ _ with _|r
      .rfl
      grind)
     have v:=J (HN _ O g0.drew);go_upto_region 24 with fail;apply wp_region_noPanic;refine br (t:=99) (S:=(λw'=>C w' _ 4 (I 7))) k_ x4 (λy=> ?_);apply tD 0 1 2 3 y;apply tB 4 5 y;refine bQ k_ ?_ _;try clear y
     apply NoPanic.normal;go_wp2;exact v
end Tc
namespace Tc
open List Go.RowKit Base Go.Proofs.Tryz
structure fP(k:Nat)(a:Ag):Prop where
 c0:0<=a.c
 c1:a.c<=(k:Int)*1000000000
 s0 : -((k:Int)*1000000000000)<=a.s0/\a.s0<=(k:Int)*1000000000000
 s1 : -((k:Int)*1000000000000)<=a.s1/\a.s1<=(k:Int)*1000000000000
 s2 : -((k:Int)*1000000000000)<=a.s2/\a.s2<=(k:Int)*1000000000000
 fit:cB a
def qS:fP 0 az:=by
 refine⟨?_,?_,?_,?_,?_,re⟩<;>simp[az]
def qR{j k:Nat}{a:Ag}(h:fP j a)(hk:j<=k):fP k a:=by
 obtain⟨h0,h1,⟨h2,p⟩,⟨f,g⟩,⟨n,c⟩,b⟩:=h;have e:j<=(k:Int):=o_;exact⟨h0,o_,⟨o_,o_⟩,⟨o_,o_⟩,⟨o_,o_⟩,b⟩
def xu{j k a b}(m:fP j a)(n:fP k b)(H:j+k<=5000000):nK a b/\∃r,aR a b=some r/\fP (j+k) r:=by
 have p:(j+k:Nat)*1000000000=j*1000000000+(k:Int)*1000000000:=o_
 have d:(j+k:Nat)*1000000000000=j*1000000000000+(k:Int)*1000000000000:=o_
 have e:=qR n (Nat.le_add_left k j);have g:=qR m (Nat.le_add_right j k);obtain⟨h0,h1,⟨h2,G⟩,⟨I,B⟩,⟨F,x⟩,u⟩:=m;obtain⟨J,C,⟨y,z⟩,⟨D,L⟩,⟨A,E⟩,s⟩:=n;have q:((j+k:Nat):Int)*1000000000<=5000000*1000000000:=o_;have v:((j+k:Nat):Int)*1000000000000<=5000000*1000000000000:=o_;rw[p]at q;rw[d]at v;have f:nK a b:=by
  refine⟨⟨?_,?_⟩,⟨?_,?_⟩,⟨?_,?_⟩,⟨?_,?_⟩⟩<;>omega
 refine⟨f,?_⟩;unfold aR;rw[if_pos f];split
 .grind
 .split
  .grind
  .refine⟨_,rfl,⟨?_,?_,⟨?_,?_⟩,⟨?_,?_⟩,⟨?_,?_⟩,rq u s (by unfold aR;grind)⟩⟩
   .show 0<=a.c+b.c;omega
   .show a.c+b.c<=_;rw[p];omega
   .show _<=a.s0+b.s0;rw[d];omega
   .show a.s0+b.s0<=_;rw[d];omega
   .show _<=a.s1+b.s1;rw[d];omega
   .show a.s1+b.s1<=_;rw[d];omega
   .show _<=a.s2+b.s2;rw[d];omega
   .show a.s2+b.s2<=_;rw[d];omega
def BS{m a b r}(d:eS m a\/a=az)(f:eS m b)(h:aR a b=some r):eS m r:=by
 unfold aR at h;split at h
 .grind
 .rename_i h0;split at h
  .rename_i h1;have:=f.c;omega
  .split at h
   .injection h with h;subst h;obtain d|d:=d
    .have g:2<=(ju a b).c:=by show 2<=a.c+b.c;have:=d.c;have:=f.c;omega
     refine⟨o_,λk hk e=> ?_,λk hk e h=>o_,λk hk e=> ?_⟩
     .have h1:=d.le k hk e;have h2:=f.le k hk e;match k,hk with
      |0,_=>show min a.n0 b.n0<=max a.x0 b.x0;simp only[pn,px]at h1 h2;omega
      |1,_=>show min a.n1 b.n1<=max a.x1 b.x1;simp only[pn,px]at h1 h2;omega
      |2,_=>show min a.n2 b.n2<=max a.x2 b.x2;simp only[pn,px]at h1 h2;omega
     .have h1:=d.none k hk e;have h2:=f.none k hk e;match k,hk with
      |0,_=>simp only[pn,px,ps]at h1 h2;exact⟨show a.s0+b.s0=0 by omega,show min _ _=0 by omega,show max _ _=0 by omega⟩
      |1,_=>simp only[pn,px,ps]at h1 h2;exact⟨show a.s1+b.s1=0 by omega,show min _ _=0 by omega,show max _ _=0 by omega⟩
      |2,_=>simp only[pn,px,ps]at h1 h2;exact⟨show a.s2+b.s2=0 by omega,show min _ _=0 by omega,show max _ _=0 by omega⟩
    .subst d;trivial
   .cases h
def tG{m k}:∀(l:List Ag)(o:Ag)(j:Nat),fP j o->(eS m o\/o=az)->(∀a∈l,fP k a/\eS m a)->j+k*l.length<=5000000->∃r,cW o l=some r/\fP (j+k*l.length) r/\(eS m r\/(r=az/\l=[]))
 | [],o,j,h,d,_,_=>⟨o,rfl,by omega,d.elim .inl (λe=> .inr ⟨e,rfl⟩)⟩
 |a::l,o,j,h,d,g,s=>by
  rw[length_cons]at s⊢;have e:k*(l.length+1)=k*l.length+k:=o_;obtain⟨_,r,n,u⟩:=xu h (g a mem_cons_self).1 o_;have b:=BS d (g a mem_cons_self).2 n;obtain⟨q,h2,f,c⟩:=tG l r _ u (.inl b) (λx hx=>g x (mem_cons_of_mem _ hx)) o_;refine⟨q,?_,r_,?_⟩
  .unfold cW;grind
  .obtain c|⟨c,p⟩:=c
   .grind
   .subst p;injection h2 with h2;grind
structure iE(s:aN)(fs:List Fa):Prop where
 len:fs.length<=64
 keys:∀f∈fs,kO s f.keys
 ag:∀f∈fs,fP 64 f.ag/\eS s.aC.length f.ag
 ja:sE fs
def nI d:(aW d).length=d.ai.length:=by unfold aW;rw[lM]
def qm d j(h:j<(aW d).length):(aW d)[j]=(d.ai[j]'(by rw[<-nI];omega)).ar.length:=by simp[aW]
def Ep{d j y}(h:(aW d)[j]? = some y):∃b:j<d.ai.length,y=(d.ai[j]'b).ar.length:=by
 obtain⟨h1,h2⟩:=aO h;exact⟨by rw[<-nI];omega,by rw[<-h2,qm]⟩
def Er{d}(h:da d):zH (aW d):=by
 have f:=nI d;refine⟨by rw[f];exact h.n1,by rw[f];exact h.n2,λj g=> ?_,λj g=> ?_⟩
 .have h1:=h.ai j (by rw[<-f];exact g);rw[qm];exact⟨h1.n1,h1.n2⟩
 .have b:j+1<d.ai.length:=o_
  obtain⟨e,n⟩:=sa h b;rw[qm,qm,<-e];have ht:=(h.ai j o_).tree;have m:dJ d j=((d.ai[j+1]'b).ar.length):=by unfold dJ;rw[gE]
  have c:=ov (range (d.ai[j+1]'b).ar.length) ((d.ai[j]'o_).up.map Int.toNat) nodup_range (λi hi=>by
   refine mem_map.2 ⟨_,ht.all i r_,s_⟩)
  grind
def xJ{d k l}(h:(dP d)[k]? = some l):k<d.ai.length/\l=iw d k:=by
 unfold dP at h;grind
def Cp{d k q z}(h:(iw d k)[q]? = some z):q<(fin d).length/\z=bN d k q:=by
 unfold iw at h;grind
def tM d k{q}(h:q<(fin d).length):(iw d k)[q]? = some (bN d k q):=by
 unfold iw;grind
def pE{s}(b:cJ s){a:Nat}{d}(h:s.af[a]? = some d):da d:=by
 obtain⟨h1,h2⟩:=aO h;rw[<-h2];exact b.af a h1
def Bf{d}(h:da d):(fin d).length=(d.ai[0]'h.n1).ar.length:=by rw[tg]
def AE{s}(b:cJ s){fs}(h:iE s fs){most}(Y:most<=131072):se s fs most:=by
 have I:(s.af.map aW).length=s.af.length:=o_
 have A:(aw fs).length=fs.length:=by unfold aw;rw[lM]
 have key:∀xs:List _,xs.map Fa.keys=s.af.map aW->xs.length=s.af.length/\∀ i h1(h2:i<s.af.length),xs[i].keys=aW s.af[i]:=λxs hx=>by
  have h0:=congrArg length hx;rw[lM,lM]at h0;refine⟨h0,λi h1 h2=> ?_⟩;have n:(xs.map Fa.keys)[i]? = (s.af.map aW)[i]?:= r_
  grind
 refine⟨b,?_,λxs hx f B=> ?_,λxs hx=> ?_,h.ja,λf B=>(h.ag f B).1.fit,Y⟩
 .refine⟨by rw[I];exact b.n1,by rw[I];exact b.n2,o_,b.m1,b.m2,by rw[A];have:=h.len;omega,?_,?_,?_,?_,?_,?_⟩
  .intro a ls x h1 h2;rw[getElem?_map]at h1 h2;obtain⟨d,hd,rfl⟩:=Option.map_eq_some_iff.1 h1;rw[hd]at h2;injection h2 with h2;subst h2;have c:=pE b hd;have e:(dP d).length=d.ai.length:=by unfold dP;simp
   rw[e,nI];exact⟨rfl,c.n1,c.n2⟩
  .intro a x h2 y U;rw[getElem?_map]at h2;obtain⟨d,hd,rfl⟩:=Option.map_eq_some_iff.1 h2;obtain⟨j,u,rfl⟩:=getElem_of_mem U;exact((Er (pE b hd)).each j u).2
  .intro a ls x k l y u h1 h2 n M G;rw[getElem?_map]at h1 h2;obtain⟨d,hd,rfl⟩:=Option.map_eq_some_iff.1 h1;rw[hd]at h2;injection h2 with h2;subst h2;have c:=pE b hd;obtain⟨hk,rfl⟩:=xJ n;obtain⟨E,rfl⟩:=Ep M;obtain⟨J,rfl⟩:=Ep G;have u:=Bf c;have X:=(c.ai 0 J).n2;refine⟨by unfold iw;grind,λq F=>⟨_,tM d k o_,pS c E F⟩⟩
  .intro i p v;unfold aw at v;rw[getElem?_map]at v;obtain⟨f,B,rfl⟩:=Option.map_eq_some_iff.1 v;have hk:=h.keys f (mem_of_getElem? B);refine⟨by rw[I];exact hk.len,λa q x F hx=> ?_⟩;rw[getElem?_map]at hx;obtain⟨d,hd,rfl⟩:=Option.map_eq_some_iff.1 hx;obtain⟨N,D⟩:=aO hd;obtain⟨O,L⟩:=aO F;have c:=pE b hd;have h1:=hk.each a N O (by rw[D];exact c.n1);refine⟨(d.ai[0]'c.n1).ar.length,by rw[gE (by rw[nI];exact c.n1),qm],?_⟩;have C:f.keys[a]=q:=L;grind
  .intro a ls k l u q u z h1 h2 n M G;rw[getElem?_map]at h1;obtain⟨d,hd,rfl⟩:=Option.map_eq_some_iff.1 h1;obtain⟨hk,rfl⟩:=xJ h2;obtain⟨E,rfl⟩:=xJ n;obtain⟨F,e⟩:=Cp M;obtain⟨H,W⟩:=Cp G;rw[tM d _ F,tM d _ H];unfold bN;grind
  .intro part v;have T:part.length<=fs.length:=by
    have:=ov _ _ v.nd (λi hi=>mem_range.2 (v.lt i hi));rw[length_range,A]at this;omega
   have V:=h.len;obtain⟨r,h1,h2,n⟩:=tG (part.map (jT _)) _ 0 qS (.inr rfl) (λa Z=>by
    obtain⟨i,hi,rfl⟩:=mem_map.1 Z;have g:i<fs.length:=by have:=v.lt i hi;rw[A]at this;omega
    rw[wB (gE g)];exact h.ag _ (gM g)) o_
   refine⟨r,h1,n.resolve_right (λ⟨_,e⟩=>v.ne (map_eq_nil_iff.1 e))⟩
 .obtain⟨h0,h1⟩:=key _ hx;have hk:=h.keys f B;refine⟨by rw[h0];exact hk.len,λi hi g=> ?_,(h.ag f B).2⟩;have u:i<s.af.length:=o_
  have c:=b.af i u;have e:=h1 i g u;refine⟨by rw[e,nI];exact c.n1,?_⟩;have h2:=hk.each i u hi c.n1;have n:(xs[i].keys)[0]? = some ((s.af[i]'u).ai[0]'c.n1).ar.length:=by rw[e,gE (by rw[nI];exact c.n1),qm]
  grind
 .obtain⟨h0,h1⟩:=key _ hx;refine⟨by rw[h0];exact b.n1,by rw[h0];exact b.n2,b.m1,b.m2,λx R=> ?_⟩;obtain⟨i,hi,rfl⟩:=getElem_of_mem R;rw[h1 i hi (by rw[<-h0];exact hi)];exact Er (b.af i o_)
structure GA(m k:Nat)(a:Ag):Prop where
 b:fP k a
 ok:eS m a
def GA.c{m k a}(h:GA m k a):a.c≠0:=by have:=h.ok.c;omega
def GA.more{m j k a}(h:GA m j a)(hk:j<=k):GA m k a:=⟨qR h.b hk,h.ok⟩
def join_some{m j k a b}(e:fP j a)(c:eS m a\/a=az)(d:GA m k b)(h:j+k<=5000000):∃r,aR a b=some r/\GA m (j+k) r:=by
 obtain⟨_,r,h1,h2⟩:=xu e d.b h;exact⟨r,h1,h2,BS c d.ok h1⟩
def pQ{m j k a b}(f:fP j a)(h0:a.c≠0)(d:GA m k b)(h:j+k<=5000000):aR a b=some (ju a b):=by
 obtain⟨e,_⟩:=xu f d.b h;unfold aR;rw[if_neg h0,if_neg d.c,if_pos e]
def join_comm{m j k a b}(d:GA m j a)(e:GA m k b)(h:j+k<=5000000):aR a b=aR b a:=by
 rw[pQ d.b d.c e h,pQ e.b e.c d o_];congr 1;unfold ju;grind
def join_assoc{m j k l o a b}(p:fP j o)(q:eS m o\/o=az)(f:GA m k a)(s:GA m l b)(h:j+k+l<=5000000):((aR o a).bind λr=>aR r b)=(aR a b).bind λr=>aR o r:=by
 obtain⟨r,u,n⟩:=join_some f.b (.inl f.ok) s (by omega);have g:=pQ f.b f.c s (by omega);rw[g];rw[u]at g;injection g with g;by_cases h0:o.c=0
 .have h1:aR o a=some a:=if_pos h0;have h2:aR o _=some (ju a b):=if_pos h0;grind
 .have h1:=pQ p h0 f (by omega);obtain⟨v,e,d⟩:=join_some p q f (by omega);rw[h1]at e;injection e with e;rw[h1];show aR (ju o a) b=aR o (ju a b);rw[<-e]at d;rw[g]at n;rw[pQ d.b d.c s o_,pQ p h0 n o_];congr 1;unfold ju;grind
def BU:∀(b l2:List Ag)(o:Ag),cW o (b++l2)=(cW o b).bind λr=>cW r l2
 | [],l2,o=>rfl
 |a::b,l2,o=>by
  show(aR o a).bind (λj=>cW j (b++l2))=((aR o a).bind λj=>cW j b).bind _;cases aR o a with
  |none=>rfl
  |some j=>exact BU b _ j
def K5{m j k o a b} l(g:fP j o)(c:eS m o\/o=az)(d:GA m k a)(f:GA m k b)(h:j+k+k<=5000000):cW o (a::b::l)=cW o (b::a::l):=by
 have e:∀x y:Ag,cW o (x::y::l)=((aR o x).bind λr=>aR r y).bind λr=>cW r l:=λx y=>by
  show(aR o x).bind (λj=>(aR j y).bind λj=>cW j l)=_;grind
 rw[e,e,join_assoc g c d f h,join_assoc g c f d h,join_comm d f o_]
def BV{m k f l2}(q:f.Perm l2):∀(o:Ag)(j:Nat),fP j o->(eS m o\/o=az)->(∀a∈f,GA m k a)->j+k*f.length<=5000000->cW o f=cW o l2:=by
 induction q with
 |nil=>simp
 | @cons a f l2 q s=>
  intro o j e c d g;rw[length_cons,Nat.mul_succ]at g;obtain⟨r,h1,h2⟩:=join_some e c (d a mem_cons_self) o_;show(aR o a).bind _=(aR o a).bind _;rw[h1];exact s r _ h2.b (.inl h2.ok) (λx hx=>d x (mem_cons_of_mem _ hx)) o_
 |swap a b l=>
  intro o j e c d g;rw[length_cons,length_cons,Nat.mul_succ,Nat.mul_succ]at g;exact K5 l e c (d b mem_cons_self) (d a (mem_cons_of_mem _ mem_cons_self)) o_
 | @trans f l2 v h1 h2 p n=>
  intro o j e c d g;rw[p o j e c d g];exact n o j e c (λa u=>d a (h1.mem_iff.2 u)) (by rw[<-h1.length_eq];omega)
def bW(K:LN->Bool)(l:List (LN×Ag)):Option Ag:=cW az ((l.filter λx=>K x.1).map Prod.snd)
structure si(m k n:Nat)(out l:List (LN×Ag)):Prop where
 kK:k+l.length<=n
 ye:out.length<=k
 pW:∀x∈out,GA m k x.2
 Cc:∀x∈l,GA m 1 x.2
 up:out.Pairwise λa b=>aI a.1 b.1<0
 Q8:l.Pairwise λa b=>aI a.1 b.1<=0
 ends:∀x∈out,∀y∈l,aI x.1 y.1<=0
def Jk{α l}{x:α}(h:l.getLast? = some x):l=l.dropLast++[x]:=by
 obtain⟨ys,rfl⟩:=getLast?_eq_some_iff.1 h;simp
def uw(K:LN->Bool) A B:bW K (A++B)=(bW K A).bind λr=>cW r ((B.filter λx=>K x.1).map Prod.snd):=by
 unfold bW;rw[filter_append,map_append,BU]
def yS{m k}(K:LN->Bool) A(h:∀x∈A,GA m k x.2)(n:k*A.length<=5000000):∃r,bW K A=some r/\fP (k*A.length) r/\(eS m r\/r=az):=by
 have c:(A.filter λx=>K x.1).length<=A.length:=length_filter_le _ _;have g:k*(A.filter λx=>K _).length<=k*A.length:=Nat.mul_le_mul_left _ c;obtain⟨r,h1,h2,f⟩:=tG ((A.filter λx=>K x.1).map _) _ 0 qS (.inr rfl) (λa d=>by
  obtain⟨x,hx,rfl⟩:=mem_map.1 d;have:=h x (mem_filter.1 hx).1;exact⟨this.b,this.ok⟩) o_
 refine⟨r,h1,qR h2 o_,f.elim .inl (λe=> .inr e.1)⟩
def Jb{m k n out l}{p:LN×Ag}(Y:n<=64)(h:si m k n out (p::l)):∃o,jB out p=some o/\si m (k+1) n o l/\(∀K,bW K (o++l)=bW K (out++p::l))/\∀key,(∃x∈o,x.1=key)↔((∃x∈out,x.1=key)\/p.1=key):=by
 have B:=h.kK;rw[length_cons]at B;have f:=h.ye;have D:=h.Cc p mem_cons_self;have F:=λx hx=>h.Cc x (mem_cons_of_mem _ hx);obtain⟨z,u⟩:=pairwise_cons.1 h.Q8;unfold jB;cases d:out.getLast? with
 |none=>
  have C:=getLast?_eq_none_iff.1 d;subst C;refine⟨_,rfl,⟨o_,s_,λx hx=>by rw[mem_singleton.1 hx];exact D.more o_,F,pairwise_singleton _ _,u,λx hx y c=>r_⟩,λK=>rfl,λkey=>s_⟩
 |some q=>
  have V:=Jk d;generalize out.dropLast=A at*;subst V;have g:q∈A++[q]:=o_;have v:=h.pW q g;have L:=h.ends q g p mem_cons_self;rw[aE]at f;simp only[length_cons,length_nil]at f;dsimp only;by_cases C:aI q.1 p.1=0
  .rw[if_pos C];have hk:=nW C;obtain⟨j,J,E⟩:=join_some v.b (.inl v.ok) D (by omega);rw[J];have R:∀x∈A,GA m (k+1) _:=λx hx=>(h.pW x (mem_append_left _ hx)).more o_;obtain⟨O,X,W⟩:=pairwise_append.1 h.up;refine⟨A++[(q.1,j)],rfl,⟨o_,o_,λx hx=> ?_,F,?_,u,λx hx y c=> ?_⟩,λK=> ?_,λkey=> ?_⟩
   .grind
   .grind
   .obtain hx|hx:=mem_append.1 hx
    .exact h.ends x (mem_append_left _ hx) y (mem_cons_of_mem _ c)
    grind
   .rw[append_assoc,append_assoc,uw,uw];have T:k*A.length<=64*64:=Nat.mul_le_mul o_ o_;obtain⟨r,N,G,I⟩:=yS K A (λx hx=>h.pW x (mem_append_left _ hx)) o_;rw[N];show cW r _=cW r _;simp only[cons_append,nil_append,filter_cons];rw[<-hk];by_cases hK:K q.1=true
    .rw[if_pos hK,if_pos hK,if_pos hK];simp;have e:=join_assoc G I v D o_;rw[J]at e;show(aR r j).bind _=(aR r q.2).bind λx=>(aR x p.2).bind _;grind
    grind
   .constructor
    .rintro⟨x,hx,rfl⟩;grind
    .rintro(⟨x,hx,rfl⟩|rfl)
     .obtain hx|hx:=mem_append.1 hx
      .grind
      .rw[mem_singleton.1 hx];simp
     .exact⟨_,mem_append_right _ mem_cons_self,hk⟩
  .rw[if_neg C];refine⟨_,rfl,⟨o_,o_,λx hx=> ?_,F,?_,u,λx hx y c=> ?_⟩,λK=> ?_,λkey=> ?_⟩
   .obtain hx|hx:=mem_append.1 hx
    .exact(h.pW x hx).more o_
    .rw[mem_singleton.1 hx];exact D.more o_
   .refine pairwise_append.2 ⟨h.up,pairwise_singleton _ _,λx hx y c=> ?_⟩;rw[mem_singleton.1 c];have h1:=h.ends x hx p mem_cons_self;obtain s|s:=mem_append.1 hx
    .have h2:=(pairwise_append.1 h.up).2.2 x s q mem_cons_self;obtain H|H:=Int.lt_or_eq_of_le h1
     . omega
     .exfalso;have U:=nW H;rw[U,jU]at h2;omega
    grind
   .obtain hx|hx:=mem_append.1 hx
    .exact h.ends x hx y (mem_cons_of_mem _ c)
    grind
   .simp
   .constructor
    .grind
    .rintro(⟨x,hx,rfl⟩|rfl)
     .grind
     grind
def rf{m n}(c:n<=64):∀(l:List (LN×Ag))(k:Nat)(out:List (LN×Ag)),si m k n out l->∃r,dT out l=some r/\si m n n r []/\(∀K,bW K r=bW K (out++l))/\∀key,(∃x∈r,x.1=key)↔((∃x∈out,x.1=key)\/∃x∈l,x.1=key)
 | [],k,out,h=>by
  have ht:=h.kK;simp at ht;refine⟨_,rfl,⟨s_,aF h.ye ht,λx hx=>(h.pW x hx).more ht,λx hx=>r_,h.up,List.Pairwise.nil,λx _ y q=>r_⟩,λK=>o_,λkey=>s_⟩
 |p::l,k,out,h=>by
  obtain⟨o,h1,h2,s,u⟩:=Jb c h;obtain⟨r,f,d,e,g⟩:=rf c l _ o h2;refine⟨r,?_,d,λK=>(e K).trans (s K),λkey=> ?_⟩
  .unfold dT;grind
  .rw[g,u];grind
def Oi(A:OA)(l:List Fa)(c most:Nat)(w:World)(h:bM w w.heap.size A l)(C:l.length<=1000000)(R:most<=1000000)(hk:∀f∈l,f.keys.length<=1000000):Calls prog 32 #[U A l.length c,N most] w (cy (λ_=>True) w):=by
 have B:=J (λr w' z=>cy.mono (P:=λ_=>True) (w:=w) (r:=r) (w':=w') trivial z);have H:=J h;have E:=J hk;generalize cy (λ_=>True) w=Q at*;clear h hk;obtain⟨n,g⟩:=e_ l.length;have F:=J g;rw[g]at C⊢;clear g;go_in;go_wp2;go_loopw [5,6] (λD v wr=>∃(k:Nat)(x:Int),k<=n/\D = I x/\v = N k/\wr=w) (λ_ v _=>n-(intOf v).toNat)
 case atStart=>grind
 .obtain⟨k,x,hk,rfl,rfl,rfl⟩:=hrel;by_cases y:k<n
  .have d:k<l.length:=by rw[F];omega
   obtain⟨b,off,L,z,c0,e⟩:=bM.cells H k d;clear e;generalize(l[k]'d).keys.length=kl at*;generalize(l[k]'d).A=T at*;generalize(l[k]'d).c=O at*;have G:0<=(k:Int):=o_;have p:k<(n:Int):=o_;rw[L];by_cases m:k<=most
   .have s:k<=(most:Int):=o_;go_wp2
    all_goals exact⟨⟨k+1,_,o_,rfl,o_,trivial⟩,o_⟩
   .have s:¬ k<=(most:Int):=o_;go_wp2
    all_goals exact B _ _ bR
  .obtain rfl:k=n:=o_;go_wp2
   all_goals exact B _ _ bR
def ky(a:Ag):Prop:=a.c<=1000000000/\∀i,i<3 -> -1000000000000<=ps a i/\ps a i<=1000000000000
def Rc(A:OA)(l:List Fa)(c:Nat)(w:World)(h:bM w w.heap.size A l)(hn:l.length<=1000000)(hk:∀f∈l,f.keys.length<=1000000):Calls prog 10 #[U A l.length c] w (cy (λr=>r=true->∀f∈l,ky f.ag) w):=by
 have Y:=J (λr w' h z=>cy.mono (P:=λr=>r=true->∀f∈l,ky f.ag) (w:=w) (r:=r) (w':=w') h z);have H:=J h;have Z:=J (λW(u:E w W)=>Oi A l c 1000 W ((h.below u).more u.size) hn o_ hk);generalize cy (λr=>r=true->∀f∈l,ky _) w=Q at*;clear h hk;obtain⟨n,s⟩:=e_ l.length;have Hn:=J s;rw[s]at hn Z⊢;clear s;go_in;go_wp2;go_loopw [8] (λu wr=>∃(k:Nat),k<=n/\u = N k/\(∀(i:Nat)(hi:i<l.length),i<k->ky l[i].ag)/\E w wr) (λu _=>n-(intOf u).toNat)
 case atStart=>exact⟨0,o_,rfl,λi hi h=>o_,bR⟩
 .obtain⟨k,hk,rfl,M,X⟩:=hrel;have D:=J M;have g:=J X;clear M X;by_cases u:k<n
  .have y:k<l.length:=by rw[Hn];omega
   obtain⟨b,off,L,z,c0,c1,c2,c3,V,c5,E,c7,M,O,G⟩:=bM.cells ((H.below g).more g.size) k y;have R:Kp (ky (l[k]'y).ag->∀ i hi,i<k+1->ky _):=(λz i hi u=>by
    obtain h1|rfl:=Nat.lt_succ_iff_lt_or_eq.1 u
    .exact D i hi h1
    . omega)
   generalize(l[k]'y)=f at*;obtain⟨u,d,y,ag⟩:=f;have z:=(ah _ wr).alloc (ae _) (.cells (bC ⟨u,d,y,ag⟩) 89);have q:=J (aa.new wr 89 (bC ⟨u,d,y,ag⟩));have p:=ay g z;clear z;dsimp only[bC]at q p c0 c1 c2 c3 V c5 E c7 M O G R;have z:0<=(k:Int):=o_;have z:k<(n:Int):=o_;have HP:Kp (∀i,i<3->∃x,x=ps _ i/\(wr.alloc _).cell? ⟨_,2+i*3,_⟩=some (I x)):=(λi hi=>by
    match i,hi with
    |0,_=>exact⟨_,rfl,q.cell 2⟩
    |1,_=>exact⟨_,rfl,q.cell 5⟩
    |2,_=>exact⟨_,rfl,q.cell 8⟩)
   generalize b4:wr.alloc _=u at*;have y:C u _ 1 (I _):=q.cell 1;rw[L];by_cases z:1000000000<ag.c
   .go_wp2;exact Y _ _ (λh=>by cases h) p
   .have L:=decide_eq_false z;have a7:=J (show ag.c<=1000000000 by omega);clear z;go_wp2;clear b4 c0 c1 c2 c3 V c5 E c7 M O G;go_loopw [16] (λB y=>∃(j:Nat),j<=3/\B = N j/\(∀i,i<j -> -1000000000000<=ps ag i/\ps ag i<=1000000000000)/\y=u) (λB _=>3-(intOf B).toNat)
    case atStart=>grind
    .obtain⟨j,u,rfl,V,rfl⟩:=hrel;have F:=J V;clear V;by_cases u:j<3
     .obtain⟨x,hx,y⟩:=HP j u;have y:Kp ((-1000000000000<=x/\x<=1000000000000)->∀i,i<j+1 -> -1000000000000<=ps _ i/\ps _ i<=1000000000000):=(λh i hi=>by
       obtain h1|rfl:=Nat.lt_succ_iff_lt_or_eq.1 hi
       .exact F i h1
       omega)
      clear hx;have u:0<=(j:Int):=o_;have u:(j:Int)<3:=o_;by_cases v:1000000000000<x
      .go_wp2;exact Y _ _ (λh=>by cases h) p
      .have u:=decide_eq_false v;by_cases u:x < -1000000000000
       .go_wp2;exact Y _ _ (λh=>by cases h) p
       .have z:=decide_eq_false u;have T:=J (y ⟨o_,o_⟩);clear v u;go_wp2;exact⟨⟨_,o_,o_,T,trivial⟩,o_⟩
     .obtain rfl:j=3:=o_;have u:=J (R ⟨a7,F⟩);go_wp2;exact⟨⟨_,o_,o_,u,p⟩,o_⟩
  .obtain rfl:k=n:=o_;have y:=J (Z _ g);have O:Kp (∀f∈l,ky _):=(λf u=>by
    obtain⟨i,hi,rfl⟩:=getElem_of_mem u;exact D i hi (by have:=Hn.o;omega))
   by_cases m:k<=1000
   .have L:(k:Int)<=1000:=o_;go_wp2_with fail;apply y.mono;rintro e E⟨r,rfl,_,y⟩;have u:=J (Y r E (λ_=>O) (g.trans (y.mono g.size)));go_wp2;exact u
   .have L:¬(k:Int)<=1000:=o_;have u:=J (Y false _ (λh=>r_) g);go_wp2;exact u
def um{s}(n:cJ s){rows ps d}(h1:jk s rows ps)(h2:jk s rows d):ps=d:=by
 obtain⟨l,c,rfl⟩:=h1;obtain⟨r,b,rfl⟩:=h2;unfold aw;apply ext_getElem?;intro i;rw[getElem?_map,getElem?_map];by_cases hi:i<rows.length
 .have e:=gE (by rw[c.1];omega);have f:=gE (by rw[b.1];omega);obtain⟨m,p⟩:=c.2 i _ _ (gE hi) e;obtain⟨g,q⟩:=b.2 i _ _ (gE hi) f;rw[e,f];show some (pl _)=some (pl _);unfold pl;rw[p,q,eE.eq n m g]
 .rw[getElem?_eq_none (by rw[c.1];omega),getElem?_eq_none (by rw[b.1];omega)]
def C0{s}(b:cJ s){r keys}(h:eE s r keys):kO s keys:=by
 refine⟨h.n,λd hd hk h0=> ?_⟩;have ht:d<r.ar.length:=by rw[h.nt];omega
 have h1:=h.at_ d _ _ _ (gE hd) (gE ht) (gE hk);have h2:=(aO h1).1;rw[tg h0]at h2;omega
def G6{s}(d:cJ s){r keys}(h:eE s r keys):eS s.aC.length (dM r.cj):=by
 have f:=h.nv;have e:∀i,pv (r.cj.take r.cj.length) i=pv r.cj i:=o_
 have c:∀i,s.aC.length<=i->pv r.cj i=0:=λi hi=>by
  unfold pv;grind
 unfold dM fW;refine⟨o_,λk hk _=> ?_,λk hk _ _=> ?_,λk hk b=> ?_⟩
 .match k,hk with
  |0,_=>exact Int.le_refl _
  |1,_=>exact Int.le_refl _
  |2,_=>exact Int.le_refl _
 .match k,hk with
  |0,_=>trivial
  |1,_=>trivial
  |2,_=>trivial
 .match k,hk with
  |0,_=>exact⟨(e 0).trans (c 0 b),(e 0).trans (c 0 b),(e 0).trans (c 0 b)⟩
  |1,_=>exact⟨(e 1).trans (c 1 b),(e 1).trans (c 1 b),(e 1).trans (c 1 b)⟩
  |2,_=>exact⟨(e 2).trans (c 2 b),(e 2).trans (c 2 b),(e 2).trans (c 2 b)⟩
def Re{l}(b:∀x∈l,fit x)(h:ky (dM l)):fP 1 (dM l):=by
 refine⟨show 0<=1 by decide,show 1<=(1:Int)*1000000000 by decide,?_,?_,?_,zJ b⟩
 .have:=h.2 0 d_;trivial
 .have:=h.2 1 d_;trivial
 .have:=h.2 2 d_;trivial
def E8{s rows}(m:iC s rows)(d:∀r∈rows,∀x∈r.cj,fit x){ps}(h:jk s rows ps)(p:∀x∈ps,ky x.2):ps.length=rows.length/\∀x∈ps,kO s x.1/\GA s.aC.length 1 x.2:=by
 obtain⟨l,g,rfl⟩:=h;refine⟨by unfold aw;rw[lM];exact g.1,λx hx=> ?_⟩;have e:=p x hx;unfold aw at hx;obtain⟨f,q,rfl⟩:=mem_map.1 hx;obtain⟨i,hi,rfl⟩:=getElem_of_mem q;have c:i<rows.length:=by rw[<-g.1];omega
 obtain⟨n,u⟩:=g.2 i _ _ (gE c) (gE hi);have b:ky l[i].ag:=e;refine⟨C0 m.bO n,?_⟩;show GA s.aC.length 1 l[i].ag;rw[u]at b⊢;exact⟨Re (d _ (gM c)) b,G6 m.bO n⟩
def oS(nd:Nat)(st:St)(j:Nat):Prop:=∃(i:Nat)(n:aQ)(c:Cl),st.nodes[i]? = some n/\n.aj+1<nd/\c∈cR n/\c.child=j
def oS.ext{nd a b j}(h:oS nd a j)(d:Ext a b):oS nd b j:=by
 obtain⟨i,n,c,h1,h2⟩:=h;exact⟨i,n,c,d.node h1,h2⟩
structure oW(nd:Nat)(f:Option Rec)(b st:St)(S:LN):Prop where
 ext:Ext b st
 kW:∀j,b.nodes.length<=j->j<st.nodes.length->j∈S\/oS nd st j
 none:f=none->st=b
def vG(nd:Nat)(g:Rec):Prop:=∀part st r,g part st=some r->Ext st r.1/\∀j,st.nodes.length<=j->j<r.1.nodes.length->j=r.2\/oS nd r.1 j
section
variable{ps:List (LN×Ag)}{nd:Nat}{f:Option Rec}(hf:∀g,f=some g->vG nd g)
include hf
def AI{b:St}{S:LN}{key:Nat}{part:LN}{st:St}{r:St×Cl}(h:fK ps f key part st=some r)(d:oW nd f b st S):oW nd f b r.1 (S++[r.2.child]):=by
 unfold fK at h;split at h
 .injection h with h;subst h;refine⟨d.ext,λj h1 h2=> ?_,λ_=>d.none rfl⟩;rw[d.none rfl]at h2;grind
 .rename_i g;obtain⟨q,s,rfl⟩:=Option.map_eq_some_iff.1 h;obtain⟨m,n⟩:=hf g rfl _ _ q s;refine⟨d.ext.trans m,λj h1 h2=> ?_,λe=>r_⟩;by_cases p:j<st.nodes.length
  .obtain c|c:=d.kW j h1 p
   .grind
   .exact .inr (c.ext m)
  grind
def DX{b:St}:∀(gs:List (Nat×LN))(s r:St×List Cl)(S:LN),iz ps f gs s=some r->oW nd f b s.1 (S++s.2.map Cl.child)->oW nd f b r.1 (S++r.2.map Cl.child)
 | [],s,r,S,h,c=>by injection h with h;grind
 |g::gs,s,r,S,h,c=>by
  unfold iz at h;obtain⟨q,d,h⟩:=Option.bind_eq_some_iff.1 h;have h1:=AI hf d c;apply DX _ _ r S h;grind
def Ci{b:St}{at_:Nat}{part:LN}:∀(ls:List LN)(s r:St×List (List Cl)),j5 ps f at_ part ls s=some r->oW nd f b s.1 (s.2.flatten.map Cl.child)->oW nd f b r.1 (r.2.flatten.map Cl.child)
 | [],s,r,h,c=>by injection h with h;grind
 |l::ls,s,r,h,c=>by
  unfold j5 at h;obtain⟨q,d,h⟩:=Option.bind_eq_some_iff.1 h;have h1:=DX hf _ _ q (s.2.flatten.map _) d (by simpa using c);apply Ci _ _ r h;grind
def CM{at_ most:Nat}{aL:List (List LN)}(n:∀g,f=some g->at_+1<nd):vG nd (fh ps aL most f at_):=by
 intro part st r h;unfold fh at h;split at h
 .injection h with h;subst h;exact⟨Ext.refl _,λj h1 h2=>r_⟩
 .obtain⟨q,z,h⟩:=Option.bind_eq_some_iff.1 h;obtain⟨x,hx,h⟩:=Option.bind_eq_some_iff.1 h;split at h
  .injection h with h;subst h;have h1:=Ci hf _ _ q z ⟨Ext.refl _,λj h1 h2=>absurd h2 o_,λ_=>rfl⟩;have h2:=AI hf hx h1;have v:Ext _ ⟨x.1.nodes++[⟨at_,q.2,x.2⟩],x.1.parts++[(at_,part)]⟩:=⟨_,_,rfl,rfl⟩;refine⟨h2.ext.trans v,λj y d=> ?_⟩;dsimp only at d⊢;rw[aE]at d;simp only[length_cons,length_nil]at d;by_cases p:j=x.1.nodes.length
   .omega
   .obtain s|s:=h2.kW j y o_
    .right;cases m:f with
     |none=>
      have:=h2.none m;grind
     |some g=>
      have b:∃c∈cR ⟨at_,q.2,x.2⟩,c.child=j:=by
       obtain u|u:=mem_append.1 s
       .obtain⟨c,b,e⟩:=mem_map.1 u;exact⟨c,mem_append_left _ b,e⟩
       .exact⟨_,mem_append_right _ mem_cons_self,(mem_singleton.1 u).symm⟩
      obtain⟨c,b,e⟩:=b;exact⟨x.1.nodes.length,_,c,o_,n g m,b,e⟩
    .exact .inr (s.ext v)
  .cases h
end
def Ff{ps aL most nd}:∀{d:Nat},d<nd->vG nd (visit ps aL most nd d)
 |0,h=>CM (f:=none) (λg e=>by cases e) (λg e=>by cases e)
 |d+1,h=>CM (f:=some (visit ps aL most nd d)) (λg e=>by injection e with e;subst e;exact Ff o_) (λg _=>by omega)
def Q'{ps aL most nd d part}{r:St×Nat}(h:visit ps aL most nd d part ⟨[],[]⟩=some r):r.2+1=r.1.nodes.length:=by
 have H:∀ f a,fh ps aL most f a _ ⟨[],_⟩=some r->r.2+1=r.1.nodes.length:=λf a h=>by
  unfold fh at h;have e:fr a part ([])=none:=rfl;dsimp only at h;rw[e]at h;dsimp only at h;obtain⟨q,b,h⟩:=Option.bind_eq_some_iff.1 h;obtain⟨x,hx,h⟩:=Option.bind_eq_some_iff.1 h;grind
 cases d with
 |zero=>exact H _ _ h
 |succ d=>exact H _ _ h
structure fR(s:aN)(fs:List Fa)(st:St):Prop where
 dK:Good (aw fs) (s.af.map dP) s.af.length st
 top:st.parts[st.nodes.length-1]? = some (0,range fs.length)
 pos:0<st.nodes.length
 kW:∀j,j+1<st.nodes.length->oS s.af.length st j
def wY{s fs most e}(m:cJ s)(b:fs≠[])(h:dv s fs most=some e):∃st,st.nodes=e/\fR s fs st:=by
 unfold dv at h;rw[if_neg b]at h;obtain⟨r,d,rfl⟩:=Option.map_eq_some_iff.1 h;have q:=m.n1;have c:(aw fs).length=fs.length:=by unfold aw;rw[lM]
 obtain⟨h1,h2,n⟩:=za (by omega) _ _ r d (Good.nil _ _ _) (by
  have:=DN (ps:=aw fs) r_;grind)
 obtain⟨_,g⟩:=Ff (by omega) _ _ _ d;have ht:=Q' d;refine⟨_,rfl,h1,?_,o_,λj p=> ?_⟩
 .grind
 grind
section
variable{s:aN}{fs:List Fa}{st:St}
def fR.at_(h:fR s fs st){i:Nat}{n:aQ}(c:st.nodes[i]? = some n):∃p,st.parts[i]? = some p/\p.1<s.af.length/\fI (aw fs) p.2/\lF (aw fs) (s.af.map dP) s.af.length st p.1 p.2 n:=by
 have hi:=(aO c).1;have b:=gE (by rw[h.dK.len];omega);obtain⟨h1,h2⟩:=h.dK.part i _ b;exact⟨_,b,h1,h2,h.dK.rep i n _ c b⟩
def fR.sb(h:fR s fs st):qP s.af.length st.nodes:=by
 refine⟨λi n b hd c f=>h.dK.back i n b o_ c f,λn b=> ?_,λj g=>h.kW j g,λn b=> ?_⟩
 .obtain⟨p,d,_,_,e⟩:=h.at_ b;rw[h.top]at d;injection d with d;subst d;exact e.aj
 .obtain⟨i,hi,rfl⟩:=getElem_of_mem b;obtain⟨p,d,h1,_,e⟩:=h.at_ (gE hi);rw[e.aj];omega
def fR.lists(h:fR s fs st)(u:cJ s){i:Nat}{n:aQ}(r:st.nodes[i]? = some n):n.lists≠[]/\n.lists.length<=4/\∀l∈n.lists,l.length<=200:=by
 obtain⟨p,z,h1,h2,x⟩:=h.at_ r;have hd:=gE h1;have y:((s.af.map dP)[p.1]?).getD []=dP (s.af[p.1]'h1):=r_
 have g:=u.af _ h1;have b:=x.lists;rw[y]at b;have c:(dP (s.af[p.1]'h1)).length=(s.af[p.1]'h1).ai.length:=by unfold dP;simp
 have e:=b.1;rw[c]at e;refine⟨λq=>by have:=g.n1;grind,by have:=g.n2;omega,λl f=> ?_⟩;obtain⟨k,hk,rfl⟩:=getElem_of_mem f;obtain⟨lift,m,d⟩:=dE.left b (gE hk);have v:=d.1;rw[<-v];unfold dh;grind
end
section
variable{s:aN}{fs:List Fa}{st:St}
def fR.node(h:fR s fs st){i:Nat}{p:Nat×LN}(b:st.parts[i]? = some p):∃n,st.nodes[i]? = some n/\p.1<s.af.length/\fI (aw fs) p.2/\lF (aw fs) (s.af.map dP) s.af.length st p.1 p.2 n:=by
 have hi:=(aO b).1;have c:=gE (by rw[<-h.dK.len];omega);obtain⟨h1,h2⟩:=h.dK.part i _ b;exact⟨_,c,h1,h2,h.dK.rep i _ _ c b⟩
def KO{d:au}(a:Nat)(hd:s.af[a]? = some d):((s.af.map dP)[a]?).getD []=dP d:=by grind
def KL d k(hk:k<d.ai.length):(dP d)[k]? = some (iw d k):=by
 unfold dP;grind
def fR.row(h:fR s fs st){a i:Nat}{part:LN}(g:st.parts[i]? = some (a,part)){d:au}(hd:s.af[a]? = some d){k:Nat}(hk:k<d.ai.length):∃n l,st.nodes[i]? = some n/\n.aj=a/\n.lists.length=d.ai.length/\n.lists[k]? = some l/\mf (aw fs) (decide (a+1=s.af.length)) st a (dh (eH (aw fs) (iw d k) a) part) l:=by
 obtain⟨n,f,h1,h2,c⟩:=h.node g;have b:=c.lists;dsimp only at b h1;rw[KO a hd]at b;obtain⟨l,m,e⟩:=dE.right b (KL d k hk);refine⟨n,l,f,c.aj,?_,m,e⟩;rw[<-b.1];unfold dP;simp
def jC(fs:List Fa)(i:Nat):LN:=(((aw fs)[i]?).getD ([],az)).1
def C1(h:iE s fs){i:Nat}(hi:i<fs.length):(jC fs i).length=s.af.length/\kO s (jC fs i):=by
 unfold jC aw;rw[getElem?_map,gE hi];have:=h.keys _ (gM hi);exact⟨this.len,this⟩
def BY(h:iE s fs){i a:Nat}(hi:i<fs.length)(b:a<s.af.length):(jC fs i)[a]? = some (mC (aw fs) a i):=by
 obtain⟨h1,h2⟩:=C1 h hi;unfold mC;show(jC fs i)[a]? = some (((jC fs i)[a]?).getD 0);grind
def BZ(f:cJ s)(h:iE s fs){i a:Nat}(hi:i<fs.length){d:au}(hd:s.af[a]? = some d):mC (aw fs) a i<(fin d).length:=by
 obtain⟨c,e⟩:=aO hd;have h0:=BY h hi c;obtain⟨h1,h2⟩:=C1 h hi;obtain⟨hk,g⟩:=aO h0;have b:=pE f hd;subst e;have m:=h2.each a c hk b.n1;rw[Bf b,<-g];omega
def Kb(b:cJ s)(h:iE s fs){i a:Nat}(hi:i<fs.length){d:au}(hd:s.af[a]? = some d)(k:Nat):eH (aw fs) (iw d k) a i=bN d k (mC (aw fs) a i):=by
 unfold eH;rw[tM d k (BZ b h hi hd)];rfl
end
abbrev cL:=LN->Bool
def aT(fs:List Fa)(K:cL):LN:=(range fs.length).filter λi=>K (jC fs i)
def df(d:au)(a t k:Nat)(K:cL):cL:=λkeys=>K keys&&(bN d t ((keys[a]?).getD 0) == k)
def xO{fs K i}:i∈aT fs K↔i<fs.length/\K (jC fs i)=true:=by
 unfold aT;simp
def pY fs:aT fs (λ_=>true)=range fs.length:=filter_eq_self.2 (λ_ _=>rfl)
section
variable{s:aN}{fs:List Fa}{st:St}
def PA(c:cJ s)(b:iE s fs){a:Nat}{d:au}(hd:s.af[a]? = some d)(t k:Nat)(K:cL):gi (eH (aw fs) (iw d t) a) (aT fs K) k=aT fs (df d a t k K):=by
 unfold gi aT;rw[filter_filter];refine filter_congr (λi hi=> ?_);rw[Kb c b (mem_range.1 hi) hd t,Bool.and_comm];rfl
def Bv(c:cJ s)(b:iE s fs){a:Nat}{d:au}(hd:s.af[a]? = some d)(t:Nat)(K:cL):dh (eH (aw fs) (iw d t) a) (aT fs K)=(range 200).filterMap λk=>if aT fs (df d a t k K)=[]then none else some (k,aT fs (df d a t k K)):=by
 unfold dh;simp only[PA c b hd]
def map_take ps(K:cL):∀n,n<=ps.length->((range n).filter λi=>K ((ps[i]?).getD ([],az)).1).map (jT ps)=((ps.take n).filter λx=>K x.1).map Prod.snd
 |0,_=>rfl
 |n+1,c=>by
  have b:n<ps.length:=c;have d:jT ps n=(ps[n]).2:=by unfold jT;rw[gE b];rfl
  have e:((ps[n]?).getD ([],az)).1=(ps[n]).1:=r_
  rw[range_succ,filter_append,map_append,take_succ_eq_append_getElem b,filter_append,map_append,map_take _ K n o_];grind
def Qk fs K:nJ (aw fs) (aT fs K)=bW K (aw fs):=by
 have b:(aw fs).length=fs.length:=by unfold aw;rw[lM]
 have:=map_take (aw fs) K _ (ae _);rw[take_of_length_le o_,b]at this;unfold nJ bW;rw[<-this];rfl
def mem_keys{fs key}:(∃x∈aw fs,x.1=key)↔∃i,i<fs.length/\jC fs i=key:=by
 constructor
 .rintro⟨x,hx,e⟩;obtain⟨i,hi,rfl⟩:=getElem_of_mem hx;have b:i<fs.length:=by unfold aw at hi;rw[lM]at hi;omega
  refine⟨i,b,?_⟩;unfold jC;grind
 .rintro⟨i,hi,e⟩;have b:i<(aw fs).length:=by unfold aw;rw[lM];omega
  refine⟨_,gM b,?_⟩;rw[<-e];unfold jC;rw[gE b];rfl
end
def zE(most:Nat)(g:Rec):Prop:=∀part st r,g part st=some r->st.nodes.length<=most->r.1.nodes.length<=most
def CL{ps f most at_ aL}:zE most (fh ps aL most f at_):=by
 intro part st r h c;unfold fh at h;split at h
 .grind
 .obtain⟨q,d,h⟩:=Option.bind_eq_some_iff.1 h;obtain⟨x,hx,h⟩:=Option.bind_eq_some_iff.1 h;grind
def QZ{ps aL most nd}:∀{d:Nat},zE most (visit ps aL most nd d)
 |0=>CL (f:=none)
 |d+1=>CL (f:=some (visit ps aL most nd d))
def AX{s fs most b}(h:dv s fs most=some b):b.length<=most:=by
 unfold dv at h;split at h
 .grind
 .obtain⟨r,c,rfl⟩:=Option.map_eq_some_iff.1 h;exact QZ _ _ _ c o_
def wX{s most b}(h:dv s [] most=some b):b=[]:=by
 unfold dv at h;grind
structure FD(s:aN)(fs:List Fa)(ns:List aQ):Prop where
 sb:qP s.af.length ns
 small:∀n∈ns,n.lists.length<=4/\∀l∈n.lists,l.length<=1000
def Ix{s fs most m}(g:cJ s)(x:iE s fs)(h:dv s fs most=some m):FD s fs m:=by
 by_cases f:fs=[]
 .subst f;have:=wX h;subst this;refine⟨⟨λi n b=>r_,λn b=>r_,λj q=>r_,λn b=>r_⟩,λn b=>r_⟩
 .obtain⟨st,rfl,d⟩:=wY g f h;have c:=d.pos
  refine⟨d.sb,λn b=> ?_⟩
  .obtain⟨i,hi,rfl⟩:=getElem_of_mem b;obtain⟨_,h2,u⟩:=d.lists g (gE hi);grind
abbrev Hv:=Option Cl×Option Cl
def BA:Option Cl->Ag
 |none=>az
 |some c=>c.ag
def FJ(ps:List (LN×Ag))(l:List Fa):Prop:=(∀K,bW K (aw l)=bW K ps)/\∀key,(∃x∈aw l,x.1=key)↔∃x∈ps,x.1=key
structure eO(s:aN)(rows:List Rw)(l:List Fa):Prop where
 bO:cJ s
 ok:iE s l
 of:∃ps,jk s rows ps/\(∀x∈ps,kO s x.1/\GA s.aC.length 1 x.2)/\ps.length<=64/\FJ ps l
def yG{l}(h:sE l):(aw l).Pairwise λa b=>aI a.1 b.1<0:=by
 have H:∀u v d(g:v<l.length),u<v->aI l[u].keys l[v].keys<0:=by
  intro u v;induction v with
  |zero=>omega
  |succ v p=>
   intro d g m;have h1:=h v g;by_cases f:u=v
   .grind
   .have h2:=p d o_ o_;have r:=sX (Int.le_of_lt h2) (Int.le_of_lt h1);obtain e|e:=Int.lt_or_eq_of_le r
    . omega
    .exfalso;have q:=nW e;rw[<-q,jU]at h1;omega
 unfold aw;rw[pairwise_map];exact pairwise_iff_getElem.2 λi j hi n c=>H i j hi n c
def ux{l}(h:l.Pairwise λa b=>aI a.1 b.1<0){x:LN×Ag}(hx:x∈l):bW (λk=>k == x.1) l=some x.2:=by
 have g:(l.filter λy=>y.1 == x.1)=[x]:=by
  induction l with
  |nil=>cases hx
  |cons y l f=>
   obtain⟨h1,h2⟩:=pairwise_cons.1 h;obtain e|hx:=mem_cons.1 hx
   .subst e;rw[filter_cons_of_pos s_,filter_eq_nil_iff.2];intro z d c;have:=h1 z d;rw[beq_iff_eq.1 c,nX]at this;omega
   .rw[filter_cons_of_neg,f h2 hx];intro c;have:=h1 x hx;rw[beq_iff_eq.1 c,nX]at this;omega
 unfold bW;rw[g];rfl
def Bb{s rows l g}(h:eO s rows l)(h':eO s rows g):aw l=aw g:=by
 obtain⟨ps,h1,h2,J,u,p⟩:=h.of;obtain⟨F,C,H,I,q,z⟩:=h'.of;have e:=um h.bO h1 C;subst e;have p1:=yG h.ok.ja;have p2:=yG h'.ok.ja;have c:∀{a b},a.Pairwise (λx y=>aI x.1 y.1<0)->b.Pairwise (λx y=>aI x.1 y.1<0)->(∀K,bW K a=bW K b)->(∀key,(∃x∈a,x.1=key)->∃x∈b,x.1=key)->∀x∈a,x∈b:=by
  intro a b d v D hk x hx;obtain⟨y,r,e⟩:=hk _ ⟨x,hx,rfl⟩;have B:=ux d hx;have f:=ux v r;rw[e,<-D,B]at f;injection f with f;have:=Prod.ext e.symm f;rw[this];omega
 have nd:∀{a:List (LN×Ag)},a.Pairwise (λx y=>aI x.1 y.1<0)->a.Nodup:=by
  intro a d;rw[nodup_iff_pairwise_ne];refine d.imp λ{x y} m e=> ?_;rw[e,nX]at m;omega
 have G:∀x,x∈aw l↔x∈aw g:=λx=>⟨c p1 p2 (λK=>(u K).trans (q K).symm) (λkey hx=>(z _).2 ((p _).1 hx)) x,c p2 p1 (λK=>(q K).trans (u K).symm) (λkey hx=>(p _).2 ((z _).1 hx)) x⟩;have E:=(perm_ext_iff_of_nodup (nd p1) (nd p2)).2 G;refine E.eq_of_pairwise (λa b d v A n=> ?_) p1 p2;rw[jU]at n;omega
def AW{s l c}(h:aw l=aw c) m:dv s l m=dv s c m:=by
 have e:l.length=c.length:=by
  have:=congrArg length h;unfold aw at this;rw[lM,lM]at this;omega
 have d:l=[]↔c=[]:=r_
 unfold dv;grind
def xr{m k a j}(p:fP j a)(c:eS m a\/a=az):∀(l:List Ag)(x:Ag)(i:Nat),GA m i x->(∀y∈l,GA m k y)->j+i+k*l.length<=5000000->((aR a x).bind λr=>cW r l)=(cW x l).bind λr=>aR a r
 | [],x,i,hx,_,_=>by
  show((aR a x).bind some)=aR a x;simp
 |b::l,x,i,hx,f,v=>by
  rw[length_cons,Nat.mul_succ]at v;obtain⟨g,d,n⟩:=join_some hx.b (.inl hx.ok) (f b mem_cons_self) (by omega);have u:=xr p c l g _ n (λy z=>f y (mem_cons_of_mem _ z)) o_;have s:=join_assoc p c hx (f b mem_cons_self) (by omega);rw[d]at s;show((aR a x).bind λr=>(aR r b).bind λq=>cW q l)=((aR x b).bind λq=>cW q l).bind λr=>aR a r;grind
def K6{m a j}(f:fP j a)(d:eS m a\/a=az) l(e:∀y∈l,GA m 1 y)(g:j+l.length<=5000000):cW a l=(cW az l).bind λr=>aR a r:=by
 cases l with
 |nil=>
  show some a=aR a az;unfold aR;split
  .rename_i h0;obtain h|h:=d
   .have:=h.c;omega
   .rw[h]
  .rfl
 |cons b l=>
  rw[length_cons]at g;have h:=xr f d l b 1 (e b mem_cons_self) (λy n=>e y (mem_cons_of_mem _ n)) o_;show((aR a b).bind λr=>cW r l)=((aR az b).bind λq=>cW q l).bind _;rw[h];rfl
def BN{s rows ps g r l}(z:cJ s)(h:jk s rows ps)(A:ps.length<=64)(c:∀x∈ps,kO s x.1/\GA s.aC.length 1 x.2)(q:g.Perm ps)(C:mg g)(H:dT [] g=some r)(u:l.map pl=r):eO s rows l:=by
 have B:∀x∈g,kO s _/\GA _ 1 _:=λx hx=>c x (q.mem_iff.1 hx);have F:=q.length_eq;obtain⟨I,h1,h2,D,G⟩:=rf A g 0 _ ⟨o_,o_,(λx hx=>r_),(λx hx=>(B x hx).2),List.Pairwise.nil,C,(λx hx=>r_)⟩;rw[H]at h1;injection h1 with h1;subst h1;have d:∀key,(∃x∈r,x.1=key)↔∃x∈ps,x.1=key:=λkey=>by
  rw[G];grind
 have y:aw l=r:=u;refine⟨z,⟨?_,λf p=> ?_,λf p=> ?_,λi hi=> ?_⟩,_,h,c,A,λK=> ?_,by rw[y];omega⟩
 .have:=h2.ye;grind
 .obtain⟨x,hx,e⟩:=(d f.keys).1 ⟨pl f,r_,rfl⟩;grind
 .have:=h2.pW (pl f) r_;exact⟨(this.more A).b,this.ok⟩
 .have v:=h2.up;rw[<-u,pairwise_map]at v;exact pairwise_iff_getElem.1 v i _ o_ hi o_
 .rw[y,D,nil_append];unfold bW;refine BV (m:=s.aC.length) (k:=1) ((q.filter _).map _) _ 0 qS (.inr rfl) (λa E=> ?_) ?_
  .grind
  grind
def Ja{s ps c}(e:ps.length<=64)(b:∀x∈ps,kO s x.1/\GA s.aC.length 1 x.2)(d:c.Perm ps)(f:mg c):∃r,dT [] c=some r:=by
 have g:=d.length_eq;obtain⟨p,h1,_⟩:=rf e c 0 _ ⟨o_,o_,(λx hx=>r_),(λx hx=>(b x (d.mem_iff.1 hx)).2),List.Pairwise.nil,f,(λx hx=>r_)⟩;grind
def under(s:aN)(fs:List Fa)(p:Pos)(d i:Nat):Bool:=decide (p.cU<0)||(((bN ((s.af[d]?).getD ⟨⟨#[]⟩,none,[],0⟩) p.cU.toNat (mC (aw fs) d i):Nat):Int) == p.key)
def Ce d a i:∀n,bN d (a+n) i=dp d a n (bN d a i)
 |0=>rfl
 |n+1=>by
  rw[<-Nat.add_assoc,bN,dp,Ce]
def Cf d{a b}(h:a<=b) i:bN d b i=fu d a b (bN d a i):=by
 unfold fu;rw[<-Ce,Nat.add_sub_cancel' h]
structure Pk where
 f:Nat
 t:Nat
 lo:ByteArray
 hi:ByteArray
 A:OA
 set:List ByteArray
 c:Nat
 g:Bool
 bG:Nat
abbrev tK(x y:ByteArray):Bool:=Op.bytesLess x.toList y.toList
def bE(d:au)(t:Nat):List ByteArray:=((d.ai[t]?).map dU.ar).getD []
def eI(d:au)(t k:Nat):ByteArray:=((bE d t)[k]?).getD .empty
def dY(d:au)(p:Pk)(k:Nat):Bool:=
 if p.f=0 then true
 else if p.f=1 then !tK (eI d p.t k) p.lo && !tK p.hi (eI d p.t k)
 else p.set.any λx=>x.toList == (eI d p.t k).toList
structure gz(d:au)(p:Pk):Prop where
 kind:(p.f=0/\p.t=0)\/(p.f=1/\p.set=[])\/(p.f=2/\eu p.set/\∀x∈p.set,∃i:Nat,(bE d p.t)[i]? = some x)
 t:p.t<d.ai.length
 lo:p.lo.size<=16/\(p.f≠1->p.lo = .empty)
 hi:p.hi.size<=16/\(p.f≠1->p.hi = .empty)
 free:p.f=0->p.set=[]
 bG:p.bG<d.ai.length
 off:p.g=false->p.bG=0
def gj(p:Pk):Option Nat:=if p.f=0 then(if p.g then some p.bG else none)else some (if p.g then min p.t p.bG else p.t)
def bL(d:au)(p:Pk)(t:Nat):LN:=(range (bE d t).length).filter λk=>dY d p (fu d t (max p.t t) k)
def fZ(d:au)(p:Pk)(t k:Nat):LN:=if p.g then [fu d t p.bG k]else []
def lU{d p}(h:gz d p){t}(ht:gj p=some t):t<d.ai.length/\(p.f≠0->t<=p.t)/\(p.g=true->t<=p.bG):=by
 have h1:=h.t;have h2:=h.bG;unfold gj at ht;grind
def eo:List (au×Pk)->Nat->LN->Bool
 | [],_,_=>true
 |(d,p)::L,a,keys=>dY d p (bN d p.t ((keys[a]?).getD 0))&&eo L (a+1) keys
def dO:List (au×Pk)->Nat->LN->LN
 | [],_,_=>[]
 |(d,p)::L,a,keys=>(if p.g then [bN d p.bG ((keys[a]?).getD 0)]else [])++dO L (a+1) keys
def bZ(fs:List Fa):List (au×Pk)->Nat->cL->LN->List (LN×Ag)
 | [],_,K,pre=>match bW K (aw fs)with
  |some g=>[(pre,g)]
  |none=>[]
 |(d,p)::L,a,K,pre=>match gj p with
  |none=>bZ fs L (a+1) K pre
  |some t=>(bL d p t).flatMap λk=>if aT fs (df d a t k K)=[]then []else bZ fs L (a+1) (df d a t k K) (pre++fZ d p t k)
def iB(fs:List Fa)(L:List (au×Pk))(a:Nat)(K:cL)(pre:LN):List (LN×Ag):=((aw fs).filter λx=>K x.1&&eo L a x.1).map λx=>(pre++dO L a x.1,x.2)
structure iQ(m:Nat)(P W:List (LN×Ag)):Prop where
 len:P.length<=W.length
 ga:∀x∈P,GA m 2560 x.2
 gw:∀x∈W,GA m 64 x.2
 sum:∀Q,bW Q P=bW Q W
 keys:∀key,(∃x∈P,x.1=key)↔∃x∈W,x.1=key
def iQ.nil m:iQ m [] []:=⟨o_,λ_ h=>r_,λ_ h=>r_,λ_=>rfl,λ_=>Iff.rfl⟩
def K0{m k a j}(d:fP j a)(c:eS m a\/a=az) l(f:∀y∈l,GA m k y)(e:j+k*l.length<=5000000):cW a l=(cW az l).bind λr=>aR a r:=by
 cases l with
 |nil=>exact K6 d c _ (λ_ h=>r_) o_
 |cons b l=>
  rw[length_cons,Nat.mul_succ]at e;have h:=xr d c l b k (f b mem_cons_self) (λy g=>f y (mem_cons_of_mem _ g)) o_;show((aR a b).bind λr=>cW r l)=((aR az b).bind λq=>cW q l).bind _;rw[h];rfl
def EH{m k} Q{A B}(e:∀x∈A,GA m k x.2)(c:∀x∈B,GA m k x.2)(g:k*A.length+k*B.length<=5000000):bW Q (A++B)=(bW Q A).bind λa=>(bW Q B).bind λb=>aR a b:=by
 rw[uw];obtain⟨r,h1,h2,f⟩:=yS Q A e o_;rw[h1];show cW r _=(bW Q B).bind λb=>aR r b;refine K0 (k:=k) h2 f _ (λy d=> ?_) ?_
 .grind
 .rw[lM];have:=Nat.mul_le_mul_left k (length_filter_le (λx=>Q x.1) B);omega
def iQ.app{m P W f d}(h:iQ m P W)(h':iQ m f d)(g:W.length+d.length<=40):iQ m (P++f) (W++d):=by
 have h1:=h.len;have h2:=h'.len;refine⟨o_,λx hx=>(mem_append.1 hx).elim (h.ga x) (h'.ga x),λx hx=>(mem_append.1 hx).elim (h.gw x) (h'.gw x),λQ=> ?_,λkey=> ?_⟩
 .rw[EH Q h.ga h'.ga o_,EH Q h.gw h'.gw o_,h.sum,h'.sum]
 .constructor
  .rintro⟨x,hx,e⟩;obtain hx|hx:=mem_append.1 hx
   .obtain⟨y,c,b⟩:=(h.keys _).1 ⟨x,hx,e⟩;grind
   .obtain⟨y,c,b⟩:=(h'.keys _).1 ⟨x,hx,e⟩;grind
  .rintro⟨x,hx,e⟩;obtain hx|hx:=mem_append.1 hx
   .obtain⟨y,c,b⟩:=(h.keys _).2 ⟨x,hx,e⟩;grind
   .obtain⟨y,c,b⟩:=(h'.keys _).2 ⟨x,hx,e⟩;grind
def EG{m k} Q{A B}(d:∀x∈A,GA m k x.2)(e:k*A.length<=5000000)(c:A.Perm B):bW Q A=bW Q B:=by
 unfold bW;refine BV (m:=m) (k:=k) ((c.filter _).map _) _ 0 qS (.inr rfl) (λa b=> ?_) ?_
 .grind
 .rw[lM];have:=Nat.mul_le_mul_left k (length_filter_le (λx=>Q x.1) A);omega
def iQ.perm{m P W c}(h:iQ m P W)(b:W.Perm c)(d:64*W.length<=5000000):iQ m P c:=by
 refine⟨by rw[<-b.length_eq];exact h.len,h.ga,λx hx=>h.gw x (b.mem_iff.2 hx),λQ=>(h.sum Q).trans (EG Q h.gw d b),λkey=>(h.keys _).trans ?_⟩;grind
def ym{α}(f:α->Nat):∀(ks:LN)(l:List α),ks.Nodup->(ks.flatMap λk=>l.filter λx=>f x == k).Perm (l.filter λx=>decide (f x∈ks))
 | [],l,_=>by
  simp
 |k::ks,l,h=>by
  obtain⟨h1,h2⟩:=nodup_cons.1 h;have c:=ym f _ l h2;rw[flatMap_cons];apply(List.Perm.append_left _ c).trans;have b:=filter_append_perm (λx=>f x == k) (l.filter λx=>decide (f x∈k::ks));rw[filter_filter,filter_filter]at b;have d:(l.filter λa=>(f a == k)&&decide (f a∈k::ks))=l.filter λx=>f x == k:=filter_congr λx _=>r_
  have g:(l.filter λa=>(!(f a == k))&&decide (f a∈k::ks))=l.filter λx=>decide (f x∈ks):=filter_congr λx _=>r_
  grind
end Tc
namespace Tc
open List Go.ChangeShapes Go.WideShapes Go.ChangeAt Go.RowKit Go.Joins Go.Deep Base
structure Pq where
 f:Int
 t:Int
 lo:ByteArray
 hi:ByteArray
 A:OA
 set:List ByteArray
 c:Nat
 g:Bool
 bG:Int
def qh(p:Pq):LV:=[I p.f,I p.t,T p.lo,T p.hi,U p.A p.set.length p.c,.bool p.g,I p.bG]
abbrev nF(p:Pq):AV:=#[I p.f,I p.t,T p.lo,T p.hi,U p.A p.set.length p.c,.bool p.g,I p.bG]
def Du p:(qh p).length=7:=rfl
structure lC(w:World)(B:Nat)(p:Pq):Prop where
 lo:p.lo.size<=maxLen
 hi:p.hi.size<=maxLen
 n:p.set.length<=maxLen
 set:Row w B p.A (p.set.map .string)
 sz:∀x∈p.set,x.size<=maxLen
 fits:(Lit.int .i64 p.f).wf=true/\(Lit.int .i64 p.t).wf=true/\(Lit.int .i64 p.bG).wf=true
def lC.below{w w' B p}(h:lC w B p)(b:Below B w w'):lC w' B p:=⟨h.lo,h.hi,h.n,h.set.below b,h.sz,h.fits⟩
def lC.more{w B b p}(h:lC w B p)(c:B<=b):lC w b p:=⟨h.lo,h.hi,h.n,h.set.more c,h.sz,h.fits⟩
structure jt(w:World)(B:Nat)(A:OA)(l:List Pq):Prop where
 n:l.length<=maxLen
 row:Row w B A (l.flatMap qh)
 each:∀p∈l,lC w B p
def jt.below{w w' B A l}(h:jt w B A l)(b:Below B w w'):jt w' B A l:=⟨h.n,h.row.below b,λp c=>(h.each p c).below b⟩
def jt.more{w B b A l}(h:jt w B A l)(c:B<=b):jt w b A l:=⟨h.n,h.row.more c,λp d=>(h.each p d).more c⟩
def jt.pick{w B A l}(h:jt w B A l) k(hk:k<l.length) :
 ∃b off,A=some ⟨b,off,none⟩/\b<B/\C w b (off+k*7) (I l[k].f)/\C w b (off+k*7+1) (I l[k].t)/\C w b (off+k*7+2) (T l[k].lo)/\C w b (off+k*7+3) (T l[k].hi)/\C w b (off+k*7+4) (U l[k].A l[k].set.length l[k].c)/\C w b (off+k*7+5) (.bool l[k].g)/\C w b (off+k*7+6) (I l[k].bG):=by
 obtain⟨b,off,e,m,d⟩:=Row.rec Du h.row o_ k hk;exact⟨b,_,e,m,d 0 _ rfl,d 1 _ rfl,d 2 _ rfl,d 3 _ rfl,d 4 _ rfl,d 5 _ rfl,d 6 _ rfl⟩
def nE(p:Pq):Pk:=⟨p.f.toNat,p.t.toNat,p.lo,p.hi,p.A,p.set,p.c,p.g,p.bG.toNat⟩
structure lD(d:au)(p:Pq):Prop where
 f:0<=p.f
 t:0<=p.t
 bG:0<=p.bG
 ok:gz d (nE p)
section
variable{H:Type}{enc:TypeId×Value->H}{W:World}{b0:Nat}{sp:Nat->Bool}{held:Bool}{fuel:Nat}{x:DataW H×List MemPlace}{v:Value}
def Mw(h:DataW.trod enc Tryz.prog W b0 sp held fuel 27 [v]=some x) :
 ∃(A:OA)(l:List Pq)(c:Nat),v = U A l.length c/\l.length<=c/\c<=maxLen/\Row W W.heap.size A (l.flatMap qh)/\∀p∈l,lC W W.heap.size p:=by
 refine tV Du _ o_ Tryz.underlying27 Tryz.underlying58 k_ k_ rfl (λg d=> ?_) h;obtain⟨u0,n0,y0,c0,I⟩:=d 0 _ rfl;obtain⟨N,G,_,F⟩:=DataW.trod_int Tryz.underlying3 I;obtain⟨u1,n1,y1,c1,t1⟩:=d 1 _ rfl;obtain⟨Z,r,_,e⟩:=DataW.trod_int Tryz.underlying3 t1;obtain⟨u2,n2,y2,c2,t2⟩:=d 2 _ rfl;obtain⟨L,E,_,n⟩:=DataW.trod_string Tryz.underlying9 t2;obtain⟨u3,n3,y3,c3,T⟩:=d 3 _ rfl;obtain⟨M,z,_,D⟩:=DataW.trod_string Tryz.underlying9 T;obtain⟨u4,n4,y4,X,J⟩:=d 4 _ rfl;obtain⟨A1,l1,V,rfl,C,q,B,m⟩:=tW Tryz.underlying23 Tryz.underlying9 k_ J;obtain⟨u5,n5,y5,O,t5⟩:=d 5 _ rfl;obtain⟨z5,f,_⟩:=DataW.trod_bool Tryz.underlying4 t5;obtain⟨u6,n6,y6,H,Y⟩:=d 6 _ rfl;obtain⟨R,s,_,y⟩:=DataW.trod_int Tryz.underlying3 Y;injection G with G _
 injection r with r _
 injection E with E _
 injection z with z _
 injection f with f _
 injection s with s _
 subst G r E z f s;refine⟨⟨N,Z,L,M,_,_,V,z5,R⟩,λj u b=> ?_,n,D,o_,B,m,F,e,y⟩
 match j,b with
 |0,b=>injection b with b;grind
 |1,b=>injection b with b;grind
 |2,b=>injection b with b;grind
 |3,b=>injection b with b;grind
 |4,b=>injection b with b;grind
 |5,b=>injection b with b;grind
 |6,b=>injection b with b;grind
 |j+7,b=>trivial
def Mx{base:Nat}{d:DataW H}{p:List MemPlace}(r:Value.okWide Tryz.prog W .any base 29 v)(h:DataW.Trod enc Tryz.prog W 0 (λ_=>true) true 29 v d p):∃(A:OA)(l:List Pq)(c:Nat),v = .agg #[.slice A l.length c]/\l.length<=c/\jt W W.heap.size A l:=by
 obtain⟨cs,rfl,b⟩:=okWide_struct Tryz.underlying29 r;have m:cs.size=1:=b.trans k_;obtain⟨l⟩:=cs;match l,m with
 | [C],_=>
  obtain⟨f,s⟩:=h;obtain⟨u,n,y,e,z⟩:=tf Tryz.underlying29 k_ k_ s 0 _ rfl;simp[Value.cells]at e;subst e;obtain⟨A,l,c,rfl,g,q,B,x⟩:=Mw z;exact⟨A,l,c,rfl,g,o_,B,x⟩
end
end Tc
namespace Tc
open List Go.RowKit Base Go.Proofs.Tryz
structure Sn where
 t:Int
 At:OA
 take:LN
 ct:Nat
 Ai:OA
 dz:LN
 ci:Nat
def oL(s:Sn):LV:=[I s.t,U s.At s.take.length s.ct,U s.Ai s.dz.length s.ci]
abbrev uv(s:Sn):AV:=#[I s.t,U s.At s.take.length s.ct,U s.Ai s.dz.length s.ci]
def PY s:(oL s).length=3:=rfl
structure mP(w:World)(B:Nat)(s:Sn):Prop where
 take:Row w B s.At (an s.take)
 dz:Row w B s.Ai (an s.dz)
def mP.below{w w' B s}(h:mP w B s)(b:Below B w w'):mP w' B s:=⟨h.take.below b,h.dz.below b⟩
def mP.more{w B b s}(h:mP w B s)(c:B<=b):mP w b s:=⟨h.take.more c,h.dz.more c⟩
structure fU(w:World)(B:Nat)(A:OA)(l:List Sn):Prop where
 row:Row w B A (l.flatMap oL)
 each:∀s∈l,mP w B s
def fU.below{w w' B A l}(h:fU w B A l)(b:Below B w w'):fU w' B A l:=⟨h.row.below b,λp c=>(h.each p c).below b⟩
def fU.more{w B b A l}(h:fU w B A l)(c:B<=b):fU w b A l:=⟨h.row.more c,λp d=>(h.each p d).more c⟩
def fU.scan{w B A l}(h:fU w B A l) k(hk:k<l.length) :
 ∃b off,A=some ⟨b,off,none⟩/\b<B/\C w b (off+k*3) (I l[k].t)/\C w b (off+k*3+1) (U l[k].At l[k].take.length l[k].ct)/\C w b (off+k*3+2) (U l[k].Ai l[k].dz.length l[k].ci):=by
 obtain⟨b,off,e,d,c⟩:=Row.rec PY h.row o_ k hk;exact⟨b,_,e,d,c 0 _ rfl,c 1 _ rfl,c 2 _ rfl⟩
def iN(p:Pk):Int:=match gj p with
 |none=> -1
 |some t=>(t:Int)
def nG(d:au)(p:Pk):LN:=match gj p with
 |none=>[]
 |some t=>bL d p t
def ql(d:au)(p:Pk):LN:=match gj p with
 |none=>[]
 |some t=>if p.g then(bL d p t).map (fu d t p.bG)else []
structure jh(d:au)(p:Pk)(s:Sn):Prop where
 t:s.t=iN p
 take:s.take=nG d p
 dz:s.dz=ql d p
def uu{d p t k}(h:k∈bL d p t):k<(bE d t).length:=by
 unfold bL at h;grind
def Ei d p t:(bL d p t).Pairwise (·<·):=by
 unfold bL;exact List.Pairwise.sublist filter_sublist pairwise_lt_range
def EL{d p t}:(bL d p t).length<=(bE d t).length:=by
 have:=length_filter_le (λk=>dY d p (fu d t (max p.t t) k)) (range (bE d t).length);rw[length_range]at this;exact this
def mJ(d:au)(p:Pk)(t j:Nat):LN:=(range j).filter λk=>dY d p (fu d t (max p.t t) k)
def Qy d p t:mJ d p t (bE d t).length=bL d p t:=rfl
def Qz d p t j:mJ d p t (j+1)=if dY d p (fu d t (max p.t t) j)=true then mJ d p t j++[j]else mJ d p t j:=by
 unfold mJ;rw[range_succ,filter_append];grind
def EK d p t j:(mJ d p t j).length<=j:=by
 have:=length_filter_le (λk=>dY d p (fu d t (max p.t t) k)) (range j);rw[length_range]at this;exact this
structure Mv(F0:Nat->Prop)(w w':World)(F:Nat->Prop):Prop where
 ax:aq F0 w w'
 sub:∀k,F k->more F0 w w' k
section
variable{F0 F F1:Nat->Prop}{w w' w1:World}
def Mv.start F w:Mv F w w F:=⟨aq.refl _ _,λk hk=> .inl hk⟩
def Mv.below(h:Mv F0 w w' F)(b:E w' w1):Mv F0 w w1 F:=⟨h.ax.trans (aq.below b),λk hk=>lO o_ b.size (h.sub k hk)⟩
def Mv.trans(h:Mv F0 w w' F)(k:Mv F w' w1 F1):Mv F0 w w1 F1:=
 ⟨⟨k.ax.os.trans h.ax.os,k.ax.tape.trans h.ax.tape,k.ax.output.trans h.ax.output,aF h.ax.size k.ax.size,λi hi b=>(k.ax.block i (bh hi h.ax.size) (λc=>by
  obtain h1|⟨h1,_⟩:=h.sub i c
  .grind
  .omega)).trans (h.ax.block i hi b)⟩,λi hi=>by
  obtain h1|⟨h1,h2⟩:=k.sub i hi
  .exact lO o_ k.ax.size (h.sub i h1)
  .exact .inr ⟨aF h.ax.size h1,h2⟩⟩
def Mv.aH(h:Mv F0 w w' F){g:Nat}(c:w.heap.size<=g)(o:Nat)(b:LV):Mv F0 w (aH w' g o b) F:=
 have k:Kept (λ_=>False) _ _:=rr id b _ o;⟨l9 c _ _ _ h.ax,λi hi=>lO o_ k.size (h.sub i hi)⟩
def Mv.still(h:Mv F0 w w' F){k:Nat}(hk:k<w.heap.size)(b:¬F0 k):w'.heap[k]? = w.heap[k]?:= h.ax.block k hk b
def Mv.off(h:Mv F0 w w' F){k:Nat}(hk:k<w.heap.size)(b:¬F0 k):¬F k:=λc=>by
 obtain h1|⟨h1,_⟩:=h.sub k c
 .grind
 .omega
def Mv.row(h:Mv F0 w w' F){A:OA}{b:LV}(c:Row w w.heap.size A b)(d:∀k,cE A b k->¬F0 k):Row w' w'.heap.size A b/\∀k,cE A b k->¬F k:=
 ⟨(fO c (λk hk=>h.still (Row.bU c hk) (d k hk))).more h.ax.size,λk hk=>h.off (Row.bU c hk) (d k hk)⟩
def Mv.box(h:Mv F0 w w' F){g:Nat}{t:TypeId}{cs:AV}(b:aa w g t cs)(c:¬F0 g):aa w' g t cs/\¬F g:=⟨(h.still b.lt c).trans b,h.off b.lt c⟩
end
variable{s:aN}{fs:List Fa}{m:Nat}
def Bk{α β}{f g:α->List β}{l:List α}(h:∀a∈l,f a=g a):l.flatMap f=l.flatMap g:=by
 induction l with
 |nil=>rfl
 |cons a l c=>grind
def Ba{P W:Nat->List (LN×Ag)}:∀(ks:LN),(∀k∈ks,iQ m (P k) (W k))->(ks.flatMap W).length<=40->iQ m (ks.flatMap P) (ks.flatMap W)
 | [],_,_=>iQ.nil m
 |k::ks,h,b=>by
  rw[flatMap_cons,aE]at b;rw[flatMap_cons,flatMap_cons];exact(h k mem_cons_self).app (Ba _ (λj c=>h j (mem_cons_of_mem _ c)) o_) b
structure il(m:Nat)(fs:List Fa):Prop where
 n:fs.length<=40
 ga:∀x∈aw fs,GA m 64 x.2
def kH fs:(aw fs).length=fs.length:=by unfold aw;rw[lM]
def R7 fs L a K pre:(iB fs L a K pre).length<=fs.length:=by
 unfold iB;rw[lM,<-kH];grind
def R5(h:il m fs){L:List (au×Pk)}{a:Nat}{K:cL}{pre:LN}:∀x∈iB fs L a K pre,GA m 64 x.2:=λx hx=>by
 obtain⟨y,b,rfl⟩:=mem_map.1 hx;exact h.ga y (mem_filter.1 b).1
def MW{K:cL}(h:aT fs K=[]):(aw fs).filter (λx=>K x.1)=[]:=by
 rw[filter_eq_nil_iff];intro x hx hk;obtain⟨i,hi,e⟩:=mem_keys.1 ⟨x,hx,rfl⟩;have:i∈aT _ K:=xO.2 ⟨hi,r_⟩;grind
def rU(h:il m fs){K:cL}(hK:aT fs K≠[]):∃g,bW K (aw fs)=some g/\GA m 2560 g:=by
 obtain⟨g,h1,h2,r⟩:=tG (((aw _).filter λx=>K x.1).map _) _ 0 qS (.inr rfl) (λa d=>by
  obtain⟨x,hx,rfl⟩:=mem_map.1 d;have:=h.ga x (mem_filter.1 hx).1;exact⟨this.b,this.ok⟩) (by
   have:=length_filter_le (λx=>K x.1) (aw fs);have:=h.n;rw[lM];rw[kH]at*;omega)
 refine⟨g,h1,qR h2 ?_,r.elim id λe=> ?_⟩
 .have:=length_filter_le (λx=>K x.1) (aw fs);have:=h.n;rw[lM];rw[kH]at*;omega
 .exfalso;obtain⟨i,hi⟩:=exists_mem_of_ne_nil _ hK;obtain⟨p,q⟩:=xO.1 hi;obtain⟨x,hx,f⟩:=mem_keys.2 ⟨i,p,rfl⟩;have c:x.2∈((aw _).filter λx=>K x.1).map _:=mem_map.2 ⟨x,mem_filter.2 ⟨hx,r_⟩,rfl⟩;grind
def IS(h:il m fs)(a:Nat){K:cL}(pre:LN)(hK:aT fs K≠[]):iQ m (bZ fs [] a K pre) (iB fs [] a K pre):=by
 obtain⟨g,q,n⟩:=rU h hK;have f:bZ fs [] a K pre=[(pre,g)]:=by unfold bZ;rw[q]
 have p:iB fs [] a K pre=((aw fs).filter λx=>K x.1).map λx=>(pre,x.2):=by
  unfold iB eo dO;simp
 have b:((aw fs).filter λx=>K x.1)≠[]:=by
  obtain⟨i,hi⟩:=exists_mem_of_ne_nil _ hK;obtain⟨u,v⟩:=xO.1 hi;obtain⟨x,hx,s⟩:=mem_keys.2 ⟨i,u,rfl⟩;exact ne_nil_of_mem (mem_filter.2 ⟨hx,r_⟩)
 refine⟨?_,λx hx=> ?_,R5 h,λQ=> ?_,λkey=> ?_⟩
 .rw[f,p,lM];exact length_pos_iff.2 b
 .grind
 .rw[f,p];unfold bW at*;by_cases d:Q pre=true
  .rw[show([(pre,g)]).filter (λx=>Q _)=[(pre,g)] by simp[d],filter_map,show((aw _).filter λx=>K _).filter ((λx:LN×Ag=>Q x.1)∘λx:LN×Ag=>(pre,x.2))=_ from filter_eq_self.2 (λx _=>d),map_map];show aR az g=_;have e:(Prod.snd∘λx:LN×Ag=>(pre,x.2))=Prod.snd:=rfl;rw[e,q];rfl
  .rw[show([(pre,g)]).filter (λx=>Q _)=[] by simp[d],filter_map,show((aw _).filter λx=>K _).filter ((λx:LN×Ag=>Q x.1)∘λx:LN×Ag=>(pre,x.2))=_ from filter_eq_nil_iff.2 (λx _=>d)];rfl
 .rw[f,p];constructor
  .rintro⟨x,hx,e⟩;obtain⟨y,r⟩:=exists_mem_of_ne_nil _ b;rw[mem_singleton.1 hx]at e;exact⟨_,mem_map.2 ⟨y,r,rfl⟩,e⟩
  simp
def QA{d p}(hd:da d)(c:gz d p){t}(ht:gj p=some t){k}(hk:k<(fin d).length):bN d t k∈bL d p t↔dY d p (bN d p.t k)=true:=by
 obtain⟨h1,h2,e⟩:=lU c ht;have b:bN d t k<(bE d t).length:=by
  have:=pS hd h1 (by rw[<-tg];omega);unfold bE;rw[gE h1];exact this
 unfold bL;rw[mem_filter,mem_range];by_cases h0:p.f=0
 .have:∀x,dY d p x=true:=λx=>by unfold dY;grind
  grind
 .rw[Nat.max_eq_left o_,<-Cf d o_];grind
def xa(A:cJ s)(C:iE s fs)(h:il m fs):∀(L:List (au×Pk))(a:Nat)(K:cL)(pre:LN),(∀i x,L[i]? = some x->s.af[a+i]? = some x.1/\gz x.1 x.2)->aT fs K≠[]->iQ m (bZ fs L a K pre) (iB fs L a K pre)
 | [],a,K,pre,_,hK=>IS h a pre hK
 |(d,p)::L,a,K,pre,M,hK=>by
  obtain⟨hd,N⟩:=M 0 _ rfl;have J:=pE A hd;have r:∀i x,L[i]? = some x->s.af[a+1+i]? = some x.1/\gz x.1 x.2:=λi x hx=>by
   have:=M (i+1) x o_;grind
  rcases ht:gj p with _|t
  .have h0:p.f=0/\p.g=false:=by
    unfold gj at ht;split at ht
    .grind
    .grind
   have E:bZ fs ((d,p)::L) a K pre=bZ fs L (a+1) K pre:=by rw[bZ];rw[ht]
   have Y:iB fs ((d,p)::L) a K pre=iB fs L (a+1) K pre:=by
    unfold iB;simp only[eo,dO,dY,h0.1,h0.2,if_true,Bool.true_and];rfl
   rw[E,Y];exact xa A C h L _ K _ r hK
  .have E:bZ fs ((d,p)::L) a K pre=(bL d p t).flatMap λk=>if aT fs (df d a t k K)=[]then []else bZ fs L (a+1) (df d a t k K) (pre++fZ d p t k):=by rw[bZ];rw[ht]
   obtain⟨u,Z,T⟩:=lU N ht;have F:(bL d p t).Nodup:=by unfold bL;exact List.Nodup.sublist filter_sublist nodup_range
   have v:∀x∈aw _,((x.1)[a]?).getD 0<(fin d).length:=λx hx=>by
    obtain⟨i,hi,e⟩:=mem_keys.1 ⟨x,hx,rfl⟩;have U:a<s.af.length:=(aO hd).1;have:=BZ A C hi hd;rwa[<-e,BY C hi U,Option.getD_some]
   have y:=ym (λx:LN×Ag=>bN d t ((x.1[a]?).getD 0)) _ ((aw fs).filter λx=>K x.1&&eo L (a+1) x.1) F;have O:(((aw fs).filter λx=>K x.1&&eo L (a+1) x.1).filter λx=>decide (bN d t ((x.1[a]?).getD 0)∈bL d p t))=(aw fs).filter λx=>K x.1&&eo ((d,p)::L) a x.1:=by
    rw[filter_filter];refine filter_congr λx hx=> ?_;have hi:=QA J N ht (v x hx);simp only[eo];by_cases B:bN d t ((x.1[a]?).getD 0)∈bL d p t
    .grind
    .grind
   rw[O]at y;have c:=y.map λx=>(pre++dO ((d,p)::L) a x.1,x.2);have R:(((bL d p t).flatMap λk=>((aw fs).filter λx=>K x.1&&eo L (a+1) x.1).filter λx=>bN d t ((x.1[a]?).getD 0) == k).map λx=>(pre++dO ((d,p)::L) a x.1,x.2))=(bL d p t).flatMap λk=>iB fs L (a+1) (df d a t k K) (pre++fZ d p t k):=by
    rw[map_flatMap];refine Bk λk hk=> ?_;unfold iB;rw[filter_filter];have e:((aw _).filter λx=>(bN d t ((x.1[a]?).getD 0) == k)&&(K x.1&&eo L (a+1) x.1))=(aw fs).filter λx=>df d a t k K x.1&&eo L (a+1) x.1:=filter_congr λx _=>by
     unfold df;grind
    rw[e];refine map_congr_left λx hx=> ?_;obtain⟨V,G⟩:=mem_filter.1 hx;have I:bN d t ((x.1[a]?).getD 0)=k:=r_
    simp only[dO,fZ];by_cases z:p.g=true
    .rw[if_pos z,if_pos z,Cf d (T z),I,append_assoc]
    .grind
   rw[R]at c;have q:=c.length_eq;have H:=R7 fs ((d,p)::L) a K pre;have X:=h.n;have b:((bL d p t).flatMap λk=>iB fs L (a+1) (df d a t k K) (pre++fZ d p t k)).length<=40:=by
    rw[q];exact aF H X
   rw[E];refine iQ.perm (Ba _ (λk hk=> ?_) b) c o_;split
   .rename_i u;have:iB fs L (a+1) (df d a t k K) (pre++fZ d p t k)=[]:=by
     unfold iB;rw[map_eq_nil_iff,filter_eq_nil_iff];intro x hx D;have:=(filter_eq_nil_iff.1 (MW u)) x hx;grind
    rw[this];exact iQ.nil m
   .exact xa A C h L _ _ _ r ‹_›
structure ev(P r:List (LN×Ag)):Prop where
 up:r.Pairwise λa b=>aI a.1 b.1<0
 keys:∀key,(∃x∈r,x.1=key)↔∃x∈P,x.1=key
 sum:∀x∈r,bW (λk=>k == x.1) P=some x.2
def ev.move{P W r}(h:ev P r)(b:∀Q,bW Q P=bW Q W)(hk:∀key,(∃x∈P,x.1=key)↔∃x∈W,x.1=key):ev W r:=
 ⟨h.up,λkey=>(h.keys _).trans (hk _),λx hx=>(b _).symm.trans (h.sum x hx)⟩
def ev.one{P r c}(h:ev P r)(h':ev P c):r=c:=by
 have nd:∀{a:List (LN×Ag)},a.Pairwise (λx y=>aI x.1 y.1<0)->a.Nodup:=by
  intro a n;rw[nodup_iff_pairwise_ne];refine n.imp λ{x y} g e=> ?_;rw[e,nX]at g;omega
 have m:∀{r c},ev P r->ev P c->∀x,x∈r->x∈c:=λh h' x hx=>by
  obtain⟨y,q,e⟩:=(h'.keys _).2 ((h.keys _).1 ⟨x,hx,rfl⟩);have d:=h.sum x hx;rw[<-e,h'.sum y q]at d;grind
 refine((perm_ext_iff_of_nodup (nd h.up) (nd h'.up)).2 λx=>⟨m h h' x,m h' h x⟩).eq_of_pairwise (λa b n s p f=> ?_) h.up h'.up;rw[jU]at f;omega
def Jc{m W d r}(s:W.length<=40)(c:∀x∈W,GA m 1 x.2)(b:d.Perm W)(p:mg d)(g:dT [] d=some r):ev W r:=by
 obtain⟨u,h1,h2,q,f⟩:=rf (n:=64) d_ d 0 _ ⟨by rw[b.length_eq];omega,o_,λ_ h=>r_,λx hx=>c x (b.mem_iff.1 hx),.nil,p,λ_ h=>r_⟩;rw[g]at h1;injection h1 with h1;subst h1;refine⟨h2.up,λkey=> ?_,λx hx=> ?_⟩
 .rw[f];grind
 .rw[<-EG _ (λx hx=>c x (b.mem_iff.1 hx)) (by rw[b.length_eq];omega) b,<-ux h2.up hx,q];rfl
def Qw{m P}(b:∀x∈P,GA m 2560 x.2)(f:P.length<=60){key a}(d:GA m 2560 a):∃bJ r,bW (λk=>k == key) P=some bJ/\aR bJ a=some r/\bW (λk=>k == key) (P++[(key,a)])=some r:=by
 obtain⟨bJ,h1,h2,e⟩:=yS (λk=>k == key) P b o_;obtain⟨r,c,_⟩:=join_some h2 e d o_;refine⟨_,r,h1,c,?_⟩;rw[uw,h1];show cW bJ (([(key,a)].filter λx=>x.1 == key).map Prod.snd)=_;rw[show([(key,a)]).filter (λx=>x.1 == key)=[(key,a)] by simp];show(aR bJ a).bind some=_;rw[c];rfl
def Qv{P key b a}(h:b≠key):bW (λk=>k == b) (P++[(key,a)])=bW (λk=>k == b) P:=by
 unfold bW;grind
def Qu{P key}(h:¬ ∃x∈P,x.1=key):bW (λk=>k == key) P=some az:=by
 unfold bW;rw[filter_eq_nil_iff.2 λx hx b=>h ⟨x,hx,beq_iff_eq.1 b⟩];rfl
abbrev pF(gs n c:Nat)(r st:Int):AV:=#[U (some ⟨gs,0,none⟩) n c,Z,I 0,I r,I st,.bool false]
def IH{w:World}{d gs n c:Nat}{r st:Int}{b:List ByteArray}(m:aa w d 170 (pF gs n c r st))(p:aa w gs 9 (b.map Value.string).toArray)(O:b.length=n)(L:n<=4096){i:Nat}{x:ByteArray}(hx:b[i]? = some x) :
 Calls prog 158 #[Y d 0,N i] w λe w'=>e = .returned (.tuple #[T x,I 0])/\∃f,aa w' d 170 (pF gs n c f st)/\aq (·=d) w w':=by
 have hi:=(aO hx).1;have y:=J (Dv.rP d _ n c _ 0 r _ w m o_ o_ i o_ o_);have g:gs≠d:=λe=>by
  subst e;have h1:=p.symm.trans m;grind
 have q:w.cell? ⟨gs,i,none⟩=some (.string x):=by rw[p.cell];simp[hx]
 obtain⟨u,C⟩:=Dv.aa.dL m;obtain⟨f,z⟩:=e_ (IntKind.i64.wrap (r+1));have s:Kp (aa (w.setCell (M d 3) _) d _ (pF _ n c f _)):=m.set 3 _;have v:Kp (aq (·=d) w (w.setCell (M d 3) (I f))):=.set _ _ _ rfl;have D:(w.setCell _ (I f)).cell? _=some (T x):=(bF (Below.heap_setCell w (M d 3) _ _ g)).trans q;have G:0<=(i:Int):=o_;have F:i<(n:Int):=o_;clear p m hx g;go_in;go_wp2_with fail;apply y.mono;rintro e w'⟨rfl,rfl⟩;go_upto_region 5 with fail;generalize w.setCell _ _=E at*;clear u C q;obtain⟨u,_⟩:=Dv.aa.dL s;go_wp2;go_loop [7] (λA=>A = I (-1)) (λ_=>0)
 case atStart=>rfl
 .obtain rfl:=hrel;go_wp2;go_ret2;exact⟨rfl,⟨f,s⟩,v⟩
def tO a(h:gg a):iG ⟨#[a]⟩:=⟨(show 1<=1 by decide),(show 1<=12 by decide),λi hi=>by
 match i,hi with
 |0,_=>exact h⟩
def CA a b c(h:gg a)(h1:gg b)(h2:gg c):iG ⟨#[a,b,c]⟩:=⟨(show 1<=3 by decide),(show 3<=12 by decide),λi hi=>by
 match i,hi with
 |0,_=>exact h
 |1,_=>exact h1
 |2,_=>exact h2⟩
def rn a:ma ⟨#[a]⟩:=⟨(show 1<=1 by decide),(show 1<=16 by decide)⟩
def xH a b:Op.bytesLess (⟨#[a]⟩:ByteArray).toList (⟨#[b]⟩:ByteArray).toList=Op.bytesLess [a] [b]:=by
 simp
def DU a b(h:Op.bytesLess [a] [b]=true):eu [⟨#[a]⟩,⟨#[b]⟩]:=by
 refine⟨λs c=> ?_,λi hi=> ?_⟩
 .obtain rfl|c:=mem_cons.1 c
  .exact rn a
  .rw[mem_singleton.1 c];exact rn b
 .match i,hi with
  |0,_=>exact(xH a b).trans h
def OW a b c(h:Op.bytesLess [a] [b]=true)(h1:Op.bytesLess [b] [c]=true):eu [⟨#[a]⟩,⟨#[b]⟩,⟨#[c]⟩]:=by
 refine⟨λs d=> ?_,λi hi=> ?_⟩
 .obtain rfl|d:=mem_cons.1 d
  .exact rn a
  .obtain rfl|d:=mem_cons.1 d
   .exact rn b
   .rw[mem_singleton.1 d];exact rn c
 .match i,hi with
  |0,_=>exact(xH a b).trans h
  |1,_=>exact(xH b c).trans h1
def Ae{a b:ByteArray}(h:a.size≠b.size\/a.data[0]? ≠ b.data[0]?):a≠b:=r_
def EV t(h:t.up=[]):jQ t 0:=by
 refine⟨λ_=>h,λh0=>absurd h0 d_,d_,λn b=> ?_,λi hi=> ?_⟩
 .grind
 .omega
def qf B:cJ (ed B):=by
 refine⟨(show 1<=2 by decide),(show 2<=16 by decide),λk hk=> ?_,λi k hk hi=> ?_,(show 1<=1 by decide),(show 1<=3 by decide),λk hk=> ?_,λi k hk hi=> ?_⟩
 .match k,hk with
  |0,_=>
   refine⟨tO _ (by unfold gg;decide),(show 1<=1 by decide),(show 1<=4 by decide),λk hk=> ?_,λi k hk hi=> ?_⟩
   .match k,hk with
    |0,_=>exact⟨tO _ (by unfold gg;decide),(show 1<=2 by decide),(show 2<=200 by decide),DU _ _ d_,EV _ rfl⟩
   .match i,k,hk,hi with
    |i,0,_,hi=>omega
  |1,_=>
   refine⟨tO _ (by unfold gg;decide),(show 1<=2 by decide),(show 2<=4 by decide),λk hk=> ?_,λi k hk hi=> ?_⟩
   .match k,hk with
    |0,_=>
     refine⟨CA _ _ _ (by unfold gg;decide) (by unfold gg;decide) (by unfold gg;decide),(show 1<=3 by decide),(show 3<=200 by decide),OW _ _ _ d_ d_,?_⟩;show jQ _ (2:Int);refine⟨λh=>absurd h d_,λ_=>rfl,d_,λn hn=> ?_,λi hi=> ?_⟩
     .revert n
      show∀n∈([0,0,1]:List Int),0<=n/\n<2;decide
     .show(i:Int)∈([0,0,1]:List Int);grind
    |1,_=>exact⟨CA _ _ _ (by unfold gg;decide) (by unfold gg;decide) (by unfold gg;decide),(show 1<=2 by decide),(show 2<=200 by decide),DU _ _ d_,EV _ rfl⟩
   .match i,k,hk,hi with
    |0,1,_,_=>exact Ae (.inr (show(#[108,111,119])[0]? ≠ (#[116,111,112])[0]? by decide))
    |i,0,_,hi=>omega
    |i+1,1,_,hi=>omega
 .match i,k,hk,hi with
  |0,1,_,_=>exact Ae (.inr (show(#[100])[0]? ≠ (#[101])[0]? by decide))
  |i,0,_,hi=>omega
  |i+1,1,_,hi=>omega
 .match k,hk with
  |0,_=>exact tO _ (by unfold gg;decide)
 .match i,k,hk,hi with
  |i,0,_,hi=>omega
def lH(v:Int):Ag:=⟨1,v,v,v,0,0,0,0,0,0⟩
def ub:List (LN×Ag):=[([0,0],lH 3),([1,1],lH (-4)),([0,2],lH 5)]
def rL:List (LN×Ag):=[([0,0],lH 3),([0,2],lH 5),([1,1],lH (-4))]
def qe B{x y}{p q v:Nat}{r} i j(ht:r.ar=[⟨#[x]⟩,⟨#[y]⟩])(c:r.cj.length=1)(h1:([⟨#[97]⟩,⟨#[98]⟩]:List ByteArray)[i]? = some ⟨#[x]⟩)(h2:([⟨#[120]⟩,⟨#[121]⟩,⟨#[122]⟩]:List ByteArray)[j]? = some ⟨#[y]⟩):eE (ed B) r [i,j]:=by
 refine⟨rfl,by rw[ht];rfl,c,λa d t k hd b hk=> ?_⟩;rw[ht]at b;match a with
 |0=>injection hd with hd;injection b with b;injection hk with hk;subst hd b hk;exact h1
 |1=>injection hd with hd;injection b with b;injection hk with hk;subst hd b hk;exact h2
 |a+2=>cases hk
def Dq B:iC (ed B) (ka B):=by
 refine⟨qf B,(show 3<=300 by decide),λr b=> ?_⟩;obtain rfl|b:=mem_cons.1 b
 .exact⟨_,qe B (p:=0) (q:=0) (v:=0) 0 0 rfl rfl rfl rfl⟩
 .obtain rfl|b:=mem_cons.1 b
  .exact⟨_,qe B (p:=0) (q:=0) (v:=0) 1 1 rfl rfl rfl rfl⟩
  .obtain rfl|b:=mem_cons.1 b
   .exact⟨_,qe B (p:=0) (q:=0) (v:=0) 0 2 rfl rfl rfl rfl⟩
   .cases b
def ud B:jk (ed B) (ka B) ub:=by
 refine⟨[⟨none,_,0,lH 3⟩,⟨none,_,0,lH _⟩,⟨none,_,0,lH 5⟩],⟨rfl,λi r f b c=> ?_⟩,rfl⟩;match i with
 |0=>injection b with b;injection c with c;subst b c;exact⟨qe B (p:=0) (q:=0) (v:=0) 0 0 rfl rfl rfl rfl,rfl⟩
 |1=>injection b with b;injection c with c;subst b c;exact⟨qe B (p:=0) (q:=0) (v:=0) 1 1 rfl rfl rfl rfl,rfl⟩
 |2=>injection b with b;injection c with c;subst b c;exact⟨qe B (p:=0) (q:=0) (v:=0) 0 2 rfl rfl rfl rfl,rfl⟩
 |i+3=>cases b
def Nv:dT [] rL=some rL:=k_
end Tc
end Go.Proofs.YtibjlpkpljnicaaGreatDoor
