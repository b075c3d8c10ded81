/- Parts of a proof. -/
import Derived.Test.YtibjlpkpljnicaaGreatDoorL25
set_option maxRecDepth 100000
set_option maxHeartbeats 8000000
set_option linter.all false
namespace Go.Proofs.YtibjlpkpljnicaaGreatDoor
namespace Tc
open List Go.RowKit Base Go.Proofs.Tryz
def Fc(b:Bc)(c:b.Ok):∀(d:Nat),d<b.X.length->vu b (b.X.length-1-d) (visit b.ps b.aL b.most b.X.length d)
 |0,h=>CO b c _ (by omega) none (I1 b c _ (by omega)) (show b.X.length-1-0+1=b.X.length by omega) trivial
 |d+1,h=>by
  have e:b.X.length-1-(d+1)+1=b.X.length-1-d:=o_;have f:=Fc b c d o_;refine CO b c _ o_ _ (I0 b c _ o_ _ r_) ⟨o_,?_⟩ ?_
  .rw[e];exact za o_
  .unfold mM;dsimp only;rw[e];exact Fe o_
end Tc
namespace Tc
open List Go.RowKit Base Go.Maps Go.WideMaps Go.Proofs.Tryz
structure se(s:aN)(fs:List Fa)(most:Nat):Prop where
 bO:cJ s
 cfg:lv (aw fs) (s.af.map dP) (s.af.map aW) s.aC.length
 facts:∀xs:List Fa,xs.map Fa.keys=s.af.map aW->∀f∈fs,uP xs s.aC.length f
 shape:∀xs:List Fa,xs.map Fa.keys=s.af.map aW->vU xs s.aC.length
 ja:sE fs
 fit:∀f∈fs,cB f.ag
 most:most<=131072
def dv(s:aN)(fs:List Fa)(most:Nat):Option (List aQ):=
 if fs=[]then some []else(visit (aw fs) (s.af.map dP) most s.af.length (s.af.length-1) (range fs.length) ⟨[],[]⟩).map λr=>r.1.nodes
def oV(B:Nat)(A:OA)(ys:List Fa)(c:OA)(b:List Nd):Prop:=(∀k,cz A ys k->B<=k)/\(∀k,cE c (b.flatMap cO) k->B<=k)/\∀n∈b,∀k,mE n k->B<=k
def oV.nil{B A ys}(h:∀k,cz A ys k->B<=k):oV B A ys none []:=⟨h,λk hk=>absurd rfl hk.1,λn b=>r_⟩
def sf(s:aN)(fs:List Fa)(most:Nat)(w:World)(e:Ending)(w':World):Prop:=
 (∀f,dv s fs most=some f->∃(ga:Nat)(A d:OA)(c g:Nat)(ys:List Fa)(b:List Nd),e = .returned (.tuple #[Y ga 0,I 0])/\aa w' ga 217 (eV A ys.length c s.aC.length d b.length g most) /\
   cG w' w'.heap.size A ys/\ys.map Fa.keys=s.af.map aW/\gX w' w'.heap.size d b/\b.map aK=f/\E w w'/\w.heap.size<=ga/\oV w.heap.size A ys d b) /\
 (dv s fs most=none->e = .returned (.tuple #[.pointer none,I 7])/\E w w')
def DN{ps}(h:ps≠[]):fI ps (range ps.length):=
 ⟨λe=>h (length_eq_zero_iff.1 r_),λi hi=>mem_range.1 hi,nodup_range⟩
def GG s most Af cf fs w(h:cQ w w.heap.size s)(hf:bM w w.heap.size Af fs)(m:se s fs most) :
 Calls prog 34 #[.agg (aG s),N most,U Af fs.length cf] w (sf s fs most w):=by
 have u:=@run_makeMap prog;obtain⟨i0,n8,n9,m5,r1⟩:=info_parts iK;have hn:=m.cfg.rF;have L:(aw fs).length=fs.length:=by unfold aw;rw[lM]
 rw[L]at hn;have HQ:Kp (∀ ga A y c z ys M w',dv s fs most=some (M.map aK)->aa _ _ _ _->cG _ _ A ys->ys.map _=s.af.map _->gX _ _ y M->E w _->w.heap.size<=ga->oV _ A _ y M->sf s fs most w _ w'):=λga A y c z ys M w' h0 h1 h2 h3 G h5 h6 D=>
  ⟨λO u=>⟨_,A,y,c,z,_,M,rfl,h1,h2,h3,G,r_,h5,h6,D⟩,λu=>r_⟩
 have HN:Kp (∀w',dv s fs most=none->E w _->sf s fs most w _ w'):=λw' h0 h1=>⟨λO u=>r_,λ_=>⟨rfl,h1⟩⟩;obtain⟨u,Hf,Ho⟩:=j3_ h hf m;have y:=(ah _ w).alloc (ae _) (.cells (aG s) 25);have D:=J (aa.new w 25 (aG s));have O:=J (yL s _ ((h.below y).more o_) m.bO);have G:=J (λW u=>PH s W ((h.below u).more u.size) m.bO);have HL:=J (λW u=>KM s W ((h.below u).more u.size) m.bO);have V:=J (λA c xs W hx hk u=>IV A _ c cf _ _ _ W hx ((hf.below u).more u.size) (m.shape _ hk).n2 o_ (m.shape _ hk).m1 (m.shape _ hk).m2 (m.facts xs hk) m.ja);have HA:=J (λA c xs W hx hk=>Ls A c _ _ _ W hx (m.shape xs hk) m.most);have Z:=J y;clear h hf m y L;generalize u:sf s _ _ w=Q at*;clear u;unfold aG at O G HL D Z⊢;generalize m9:w.alloc _=u at*;obtain⟨u,y,_,_⟩:=D.two;obtain⟨n,z⟩:=e_ fs.length;have M:=J z;rw[z]at V hn⊢;clear z;have q1:¬ 4000<(n:Int):=o_;have o7:=decide_eq_false q1;go_in;go_wp2_with fail;apply O.mono;rintro e w1⟨z,rfl,rfl,z⟩;have L:=bu D z;have e9:=ay Z z;clear z u y m9 O;obtain⟨u,y,_,_⟩:=L.two;have j2:=J (G _ e9);go_wp2_with fail;apply j2.mono;rintro e D⟨A,c,xs,rfl,O,j3,z⟩;have f3:=bu L z;have n3:=ay e9 z;have Z:=J j3;have i3:=J O.at_;clear z u y G j2 O j3 L;have z:=(ah _ D).alloc (ae _) (.cells #[U A xs.length c,I s.aC.length] 43);have G:=J (aa.new D 43 #[U A xs.length c,I s.aC.length]);have O:=bu f3 z;have i6:=ay n3 z;have a1:=J ((i3.below z).more z.size);generalize q5:D.alloc _=L at*;obtain⟨x0,x1,_,_⟩:=G.two;have D:=J (V A c _ L a1 Z i6);go_wp2_with fail;apply D.mono;rintro e w4⟨rfl,L⟩;clear q5;have i2:=bu O L;have f1:=bu G L;have b9:=ay i6 L;have b3:=J ((a1.below L).more L.size);clear z L x0 x1 O G V D a1 i3 f3;obtain⟨x0,x1,_,_⟩:=f1.two;have f6:=J (HA A c _ _ b3 Z);go_wp2_with fail;apply f6.mono;rintro e w5⟨ga,L,ca,ys,rfl,V,z,G,D,f8,g8⟩;have q7:=bu i2 D;have O:=ay b9 D;obtain⟨d6,a5,b7⟩:=j3_ z.at_ (G.trans Z) V;have e3:Kp _:=aF b9.size f8;have m0:=J g8;have f2:Kp (∀k,cz L _ k->w.heap.size<=k):=λk hk=>aF b9.size (by
  obtain⟨off,e,a6⟩|⟨f,hf,off,e,a6⟩:=hk
  .subst e;exact(z.1.lt k rfl).1
  .exact z.2.2 f hf k _ e a6)
 clear V z G D f8 g8 x0 x1 HA f6 f1 b3 i2;by_cases a8:n=0
 .have z:=length_eq_zero_iff.1 (by rw[M];omega)
  have v:=J (HQ _ L _ _ 0 _ [] _ (by unfold dv;grind) b7 d6 a5 ⟨.inl rfl,λx hx=>r_⟩ O e3 (oV.nil f2));go_wp2;exact v
 .have D:((n:Int) == 0)=false:=o_
  obtain⟨u,y,_,_⟩:=q7.two;have V:=J (HL _ O);go_wp2_with fail;apply V.mono;rintro e q⟨Al,cl,rs,rfl,Z,G,z⟩;obtain⟨b6,g5,a4⟩:=j3_ Z G z;have b8:=ay O z;clear Z G z u y HL V;have l4:=J (((ah _ q).alloc (ae _) (.map #[] 0)).alloc s_ (.cells #[U Af n cf,U Al rs.length cl,Y ga 0,.map (some q.heap.size),I 0] 143));have k5:=J ((World.ownsMap_made q prog 9 (plainElem (H:=Unit) prog 3)).alloc (.cells #[U Af n cf,U Al rs.length cl,Y ga 0,.map (some q.heap.size),I 0] 143));have p5:Kp (aa ((q.alloc (.map #[] 0)).alloc _) (q.heap.size+1) 143 #[U Af n cf,U Al rs.length cl,Y ga 0,.map (some q.heap.size),I 0]):=aa.lay s_;have u:((q.alloc (.map #[] 0)).alloc (.cells #[U Af n cf,U Al rs.length cl,Y ga 0,.map (some q.heap.size),I 0] 143)).heap.size=q.heap.size+2:=s_;generalize z:(q.alloc _).alloc _=y at*;go_wp2;clear z;have d4:=J u;clear u q1 o7 D;go_loopw [14,54] (λD z wr=>∃(k:Nat)(u:OA)(V:Nat),k<=n/\z = I k/\D = U u k V/\wr.ownsRow y.heap.size 3 1 (U u k V) k (an (range k))/\E y wr) (λ_ z _=>n-(intOf z).toNat)
  case atStart=>exact⟨0,_,0,o_,rfl,rfl,cK _ _ _ _,bR⟩
  .obtain⟨k,u,V,hk,rfl,rfl,p,z⟩:=hrel;have D:=J p;have G:=J z;clear p z;by_cases z:k<n
   .have z:k<1048576*64:=o_;have Hs:=J G.size;go_wp2_with(at_builtin;apply iP rfl _ _ _ rfl _ 3 _ _ 8 underlying84 n8 n9 m5 r1 rfl _ _ rfl (U u k V) k _ rfl D rfl z d_ Hs;intro z z z Z;obtain⟨A6,c6,h6⟩:=bY z;subst h6;have c9:=J z;have p4:=J (Z.below G D o_ Hs);clear z Z);exact⟨⟨_,_,_,o_,o_,rfl,by rw[range_succ];unfold an at*;rw[map_append];exact c9,p4⟩,o_⟩
   .obtain rfl:k=n:=o_;have c3:fs≠[]:=λe=>a8 (by rw[<-M,e];rfl);have R:Kp (E q _):=l4.trans (G.mono (by rw[d4];omega));have c4:=J (b8.trans (R.mono b8.size));have b2:Kp (E _ _):=a4.trans (R.mono a4.size);have h5:=b7.lt;have n6:=a4.size;have h8:=d4.o;have Z:=G.size;have m7:=e3.o;obtain⟨b,O⟩:∃b:Bc,b=⟨y.heap.size,q.heap.size+1,ga,q.heap.size,Af,fs,cf,Al,rs,cl,L,ys,ca,s.aC.length,most⟩:=⟨_,rfl⟩;have d7:b.Ok:=by
     subst O;refine⟨?_,Ho.fit,?_,?_,?_,?_,?_,?_,?_⟩
     .show lv (aw fs) (rs.map λr=>r.fs.map Fa.keys) (ys.map Fa.keys) s.aC.length;rw[g5,a5];exact Ho.cfg
     .have:=Ho.most;dsimp only;omega
     all_goals(dsimp only;omega)
    have p:∀j,b.own j->j<y.heap.size/\w.heap.size<=j:=by
     subst O;intro j d;unfold Bc.own at d;dsimp only at d;omega
    have a0:=J p;have z:Start b b.own none 0 [] ⟨[],[]⟩ 0 u (range k) wr:=by
     have p6:b.Ro wr:=by
      subst O;refine⟨(Hf.below c4).more o_,(b6.at_.below R).more o_,(d6.below b2).more o_,λj d m=> ?_,λj d m=> ?_,λj d m=> ?_⟩
      .have:=Hf.bU d;unfold Bc.own at m;dsimp only at m;omega
      .have h1:=b6.o3 d;have h2:=b6.at_.bU d;unfold Bc.own at m;dsimp only at m;omega
      .have h1:=m0 j d;have h2:=d6.bU d;unfold Bc.own at m;dsimp only at m;omega
     refine⟨p6,?_,dF D,λj d m=> ?_,?_,.inl rfl,λ_=>Good.nil _ _ _⟩
     .refine⟨?_,λj d=> .inr d,λj d=>d,λj d=>bh (p j d).1 Z,?_,?_,?_,(λj d=>by cases d),(λx hx=>r_),rfl,o_,rfl,?_⟩
      .grind
      .subst O;show aa wr (q.heap.size+1) _ #[U Af fs.length cf,U Al rs.length cl,Y ga 0,.map (some q.heap.size),I 0];rw[M];exact p5.under G
      .subst O;exact b7.under b2
      .exact ep.nil _ _
      .subst O;exact mc.same ⟨_,k5,nN.nil⟩ (G.block _ o_)
     .obtain⟨a6,off,e⟩:=d;have h1:=eB.own D (ae _) j _ e a6;have h2:=(p j m).1;omega
     .subst O;have:=DN (ps:=aw _) (by unfold aw;simpa using c3);rw[show(aw _).length=k by unfold aw;rw[lM];exact M]at this;exact this
    have g3:b.X.length=s.af.length:=by
     subst O;show(ys.map Fa.keys).length=_;rw[a5,lM]
    have m4:=d7.cfg.n1;have HV:=Fc b d7 (b.X.length-1) o_;rw[Nat.sub_self]at HV;have G:=J (HV _ _ 0 _ _ 0 u V _ _ z);have g4:=J (show dv s _ _=(visit b.ps b.aL b.most b.X.length (b.X.length-1) _ _).map λr=>r.1.nodes by
     unfold dv;rw[if_neg c3,M,g3];subst O;show _=(visit (aw _) (rs.map λr=>r.fs.map Fa.keys) most _ _ _ _).map _;rw[g5])
    have T:=J z;have i7:b.gb=q.heap.size+1:=r_
    rw[i7,length_range]at G;have D:=J O;generalize visit _ _ _ _ _=V at*;clear HV z d7 m4 g3 O p c3 h5 n6 h8 Z m7;go_wp2_with fail;apply G.mono;rintro e u⟨i,f4,p0,M,z,z,rfl,F,Z,k2,O,O⟩;have g:=J F;have g0:=J (c4.trans (F.ax.toBelow (λj d=>(a0 j d).2) c4.size));have x4:C u (q.heap.size+1) 4 (N z):=by
     have:=F.dy.fm.cell 4;rw[i7]at this;exact this
    clear F G;obtain rfl|rfl:=O
    .have O:=J (show dv s _ _=some (M.map _) by
      rw[g4,g.dy.plain];rcases z:V _ _ with _|r
      .grind
      grind)
     have o4:=J (show cG u _ L ys by
      have:=((T.ro.ax g.ax T.dy.line T.dy.fF).shape).more g.dy.line;rw[D]at this;omega)
     have G:∀j,b.B<=j\/b.own j->w.heap.size<=j:=λj d=>by
      obtain d|d:=d
      .have h1:b.B=y.heap.size:=by rw[D]
       have h2:=d4.o;have h3:=b8.size;omega
      .exact(a0 j d).2
     have y:Kp (oV _ L _ f4 M):=⟨f2,λj d=>G j (g.dy.fF j (g.dy.mw j (by obtain⟨_,off,e⟩:=d;rw[e];rfl))),λn hn j d=>G j (g.dy.fF j (g.dy.lJ n hn j d))⟩;clear G;have v:=J (HQ _ L _ _ _ _ M u O (by have:=g.dy.nT;rw[D]at this;omega) o4 a5 g.dy.nodes.at_ g0 e3 y);go_wp2;exact v
    .have O:=J (show dv s _ _=none by
      rw[g4];rcases z:V _ _ with _|r
      .rfl
      grind)
     have v:=J (HN _ O g0.drew);go_upto_region 24 with fail;apply wp_region_noPanic;refine br (t:=99) (S:=(λw'=>C w' _ 4 (I 7))) k_ x4 (λy=> ?_);apply tD 0 1 2 3 y;apply tB 4 5 y;refine bQ k_ ?_ _;try clear y
     apply NoPanic.normal;go_wp2;exact v
end Tc
namespace Tc
open List Go.RowKit Base Go.Proofs.Tryz
structure fP(k:Nat)(a:Ag):Prop where
 c0:0<=a.c
 c1:a.c<=(k:Int)*1000000000
 s0 : -((k:Int)*1000000000000)<=a.s0/\a.s0<=(k:Int)*1000000000000
 s1 : -((k:Int)*1000000000000)<=a.s1/\a.s1<=(k:Int)*1000000000000
 s2 : -((k:Int)*1000000000000)<=a.s2/\a.s2<=(k:Int)*1000000000000
 fit:cB a
def qS:fP 0 az:=by
 refine⟨?_,?_,?_,?_,?_,re⟩<;>simp[az]
def qR{j k:Nat}{a:Ag}(h:fP j a)(hk:j<=k):fP k a:=by
 obtain⟨h0,h1,⟨h2,p⟩,⟨f,g⟩,⟨n,c⟩,b⟩:=h;have e:j<=(k:Int):=o_;exact⟨h0,o_,⟨o_,o_⟩,⟨o_,o_⟩,⟨o_,o_⟩,b⟩
def xu{j k a b}(m:fP j a)(n:fP k b)(H:j+k<=5000000):nK a b/\∃r,aR a b=some r/\fP (j+k) r:=by
 have p:(j+k:Nat)*1000000000=j*1000000000+(k:Int)*1000000000:=o_
 have d:(j+k:Nat)*1000000000000=j*1000000000000+(k:Int)*1000000000000:=o_
 have e:=qR n (Nat.le_add_left k j);have g:=qR m (Nat.le_add_right j k);obtain⟨h0,h1,⟨h2,G⟩,⟨I,B⟩,⟨F,x⟩,u⟩:=m;obtain⟨J,C,⟨y,z⟩,⟨D,L⟩,⟨A,E⟩,s⟩:=n;have q:((j+k:Nat):Int)*1000000000<=5000000*1000000000:=o_;have v:((j+k:Nat):Int)*1000000000000<=5000000*1000000000000:=o_;rw[p]at q;rw[d]at v;have f:nK a b:=by
  refine⟨⟨?_,?_⟩,⟨?_,?_⟩,⟨?_,?_⟩,⟨?_,?_⟩⟩<;>omega
 refine⟨f,?_⟩;unfold aR;rw[if_pos f];split
 .grind
 .split
  .grind
  .refine⟨_,rfl,⟨?_,?_,⟨?_,?_⟩,⟨?_,?_⟩,⟨?_,?_⟩,rq u s (by unfold aR;grind)⟩⟩
   .show 0<=a.c+b.c;omega
   .show a.c+b.c<=_;rw[p];omega
   .show _<=a.s0+b.s0;rw[d];omega
   .show a.s0+b.s0<=_;rw[d];omega
   .show _<=a.s1+b.s1;rw[d];omega
   .show a.s1+b.s1<=_;rw[d];omega
   .show _<=a.s2+b.s2;rw[d];omega
   .show a.s2+b.s2<=_;rw[d];omega
def BS{m a b r}(d:eS m a\/a=az)(f:eS m b)(h:aR a b=some r):eS m r:=by
 unfold aR at h;split at h
 .grind
 .rename_i h0;split at h
  .rename_i h1;have:=f.c;omega
  .split at h
   .injection h with h;subst h;obtain d|d:=d
    .have g:2<=(ju a b).c:=by show 2<=a.c+b.c;have:=d.c;have:=f.c;omega
     refine⟨o_,λk hk e=> ?_,λk hk e h=>o_,λk hk e=> ?_⟩
     .have h1:=d.le k hk e;have h2:=f.le k hk e;match k,hk with
      |0,_=>show min a.n0 b.n0<=max a.x0 b.x0;simp only[pn,px]at h1 h2;omega
      |1,_=>show min a.n1 b.n1<=max a.x1 b.x1;simp only[pn,px]at h1 h2;omega
      |2,_=>show min a.n2 b.n2<=max a.x2 b.x2;simp only[pn,px]at h1 h2;omega
     .have h1:=d.none k hk e;have h2:=f.none k hk e;match k,hk with
      |0,_=>simp only[pn,px,ps]at h1 h2;exact⟨show a.s0+b.s0=0 by omega,show min _ _=0 by omega,show max _ _=0 by omega⟩
      |1,_=>simp only[pn,px,ps]at h1 h2;exact⟨show a.s1+b.s1=0 by omega,show min _ _=0 by omega,show max _ _=0 by omega⟩
      |2,_=>simp only[pn,px,ps]at h1 h2;exact⟨show a.s2+b.s2=0 by omega,show min _ _=0 by omega,show max _ _=0 by omega⟩
    .subst d;trivial
   .cases h
def tG{m k}:∀(l:List Ag)(o:Ag)(j:Nat),fP j o->(eS m o\/o=az)->(∀a∈l,fP k a/\eS m a)->j+k*l.length<=5000000->∃r,cW o l=some r/\fP (j+k*l.length) r/\(eS m r\/(r=az/\l=[]))
 | [],o,j,h,d,_,_=>⟨o,rfl,by omega,d.elim .inl (λe=> .inr ⟨e,rfl⟩)⟩
 |a::l,o,j,h,d,g,s=>by
  rw[length_cons]at s⊢;have e:k*(l.length+1)=k*l.length+k:=o_;obtain⟨_,r,n,u⟩:=xu h (g a mem_cons_self).1 o_;have b:=BS d (g a mem_cons_self).2 n;obtain⟨q,h2,f,c⟩:=tG l r _ u (.inl b) (λx hx=>g x (mem_cons_of_mem _ hx)) o_;refine⟨q,?_,r_,?_⟩
  .unfold cW;grind
  .obtain c|⟨c,p⟩:=c
   .grind
   .subst p;injection h2 with h2;grind
structure iE(s:aN)(fs:List Fa):Prop where
 len:fs.length<=64
 keys:∀f∈fs,kO s f.keys
 ag:∀f∈fs,fP 64 f.ag/\eS s.aC.length f.ag
 ja:sE fs
def nI d:(aW d).length=d.ai.length:=by unfold aW;rw[lM]
def qm d j(h:j<(aW d).length):(aW d)[j]=(d.ai[j]'(by rw[<-nI];omega)).ar.length:=by simp[aW]
def Ep{d j y}(h:(aW d)[j]? = some y):∃b:j<d.ai.length,y=(d.ai[j]'b).ar.length:=by
 obtain⟨h1,h2⟩:=aO h;exact⟨by rw[<-nI];omega,by rw[<-h2,qm]⟩
def Er{d}(h:da d):zH (aW d):=by
 have f:=nI d;refine⟨by rw[f];exact h.n1,by rw[f];exact h.n2,λj g=> ?_,λj g=> ?_⟩
 .have h1:=h.ai j (by rw[<-f];exact g);rw[qm];exact⟨h1.n1,h1.n2⟩
 .have b:j+1<d.ai.length:=o_
  obtain⟨e,n⟩:=sa h b;rw[qm,qm,<-e];have ht:=(h.ai j o_).tree;have m:dJ d j=((d.ai[j+1]'b).ar.length):=by unfold dJ;rw[gE]
  have c:=ov (range (d.ai[j+1]'b).ar.length) ((d.ai[j]'o_).up.map Int.toNat) nodup_range (λi hi=>by
   refine mem_map.2 ⟨_,ht.all i r_,s_⟩)
  grind
def xJ{d k l}(h:(dP d)[k]? = some l):k<d.ai.length/\l=iw d k:=by
 unfold dP at h;grind
def Cp{d k q z}(h:(iw d k)[q]? = some z):q<(fin d).length/\z=bN d k q:=by
 unfold iw at h;grind
def tM d k{q}(h:q<(fin d).length):(iw d k)[q]? = some (bN d k q):=by
 unfold iw;grind
def pE{s}(b:cJ s){a:Nat}{d}(h:s.af[a]? = some d):da d:=by
 obtain⟨h1,h2⟩:=aO h;rw[<-h2];exact b.af a h1
def Bf{d}(h:da d):(fin d).length=(d.ai[0]'h.n1).ar.length:=by rw[tg]
def AE{s}(b:cJ s){fs}(h:iE s fs){most}(Y:most<=131072):se s fs most:=by
 have I:(s.af.map aW).length=s.af.length:=o_
 have A:(aw fs).length=fs.length:=by unfold aw;rw[lM]
 have key:∀xs:List _,xs.map Fa.keys=s.af.map aW->xs.length=s.af.length/\∀ i h1(h2:i<s.af.length),xs[i].keys=aW s.af[i]:=λxs hx=>by
  have h0:=congrArg length hx;rw[lM,lM]at h0;refine⟨h0,λi h1 h2=> ?_⟩;have n:(xs.map Fa.keys)[i]? = (s.af.map aW)[i]?:= r_
  grind
 refine⟨b,?_,λxs hx f B=> ?_,λxs hx=> ?_,h.ja,λf B=>(h.ag f B).1.fit,Y⟩
 .refine⟨by rw[I];exact b.n1,by rw[I];exact b.n2,o_,b.m1,b.m2,by rw[A];have:=h.len;omega,?_,?_,?_,?_,?_,?_⟩
  .intro a ls x h1 h2;rw[getElem?_map]at h1 h2;obtain⟨d,hd,rfl⟩:=Option.map_eq_some_iff.1 h1;rw[hd]at h2;injection h2 with h2;subst h2;have c:=pE b hd;have e:(dP d).length=d.ai.length:=by unfold dP;simp
   rw[e,nI];exact⟨rfl,c.n1,c.n2⟩
  .intro a x h2 y U;rw[getElem?_map]at h2;obtain⟨d,hd,rfl⟩:=Option.map_eq_some_iff.1 h2;obtain⟨j,u,rfl⟩:=getElem_of_mem U;exact((Er (pE b hd)).each j u).2
  .intro a ls x k l y u h1 h2 n M G;rw[getElem?_map]at h1 h2;obtain⟨d,hd,rfl⟩:=Option.map_eq_some_iff.1 h1;rw[hd]at h2;injection h2 with h2;subst h2;have c:=pE b hd;obtain⟨hk,rfl⟩:=xJ n;obtain⟨E,rfl⟩:=Ep M;obtain⟨J,rfl⟩:=Ep G;have u:=Bf c;have X:=(c.ai 0 J).n2;refine⟨by unfold iw;grind,λq F=>⟨_,tM d k o_,pS c E F⟩⟩
  .intro i p v;unfold aw at v;rw[getElem?_map]at v;obtain⟨f,B,rfl⟩:=Option.map_eq_some_iff.1 v;have hk:=h.keys f (mem_of_getElem? B);refine⟨by rw[I];exact hk.len,λa q x F hx=> ?_⟩;rw[getElem?_map]at hx;obtain⟨d,hd,rfl⟩:=Option.map_eq_some_iff.1 hx;obtain⟨N,D⟩:=aO hd;obtain⟨O,L⟩:=aO F;have c:=pE b hd;have h1:=hk.each a N O (by rw[D];exact c.n1);refine⟨(d.ai[0]'c.n1).ar.length,by rw[gE (by rw[nI];exact c.n1),qm],?_⟩;have C:f.keys[a]=q:=L;grind
  .intro a ls k l u q u z h1 h2 n M G;rw[getElem?_map]at h1;obtain⟨d,hd,rfl⟩:=Option.map_eq_some_iff.1 h1;obtain⟨hk,rfl⟩:=xJ h2;obtain⟨E,rfl⟩:=xJ n;obtain⟨F,e⟩:=Cp M;obtain⟨H,W⟩:=Cp G;rw[tM d _ F,tM d _ H];unfold bN;grind
  .intro part v;have T:part.length<=fs.length:=by
    have:=ov _ _ v.nd (λi hi=>mem_range.2 (v.lt i hi));rw[length_range,A]at this;omega
   have V:=h.len;obtain⟨r,h1,h2,n⟩:=tG (part.map (jT _)) _ 0 qS (.inr rfl) (λa Z=>by
    obtain⟨i,hi,rfl⟩:=mem_map.1 Z;have g:i<fs.length:=by have:=v.lt i hi;rw[A]at this;omega
    rw[wB (gE g)];exact h.ag _ (gM g)) o_
   refine⟨r,h1,n.resolve_right (λ⟨_,e⟩=>v.ne (map_eq_nil_iff.1 e))⟩
 .obtain⟨h0,h1⟩:=key _ hx;have hk:=h.keys f B;refine⟨by rw[h0];exact hk.len,λi hi g=> ?_,(h.ag f B).2⟩;have u:i<s.af.length:=o_
  have c:=b.af i u;have e:=h1 i g u;refine⟨by rw[e,nI];exact c.n1,?_⟩;have h2:=hk.each i u hi c.n1;have n:(xs[i].keys)[0]? = some ((s.af[i]'u).ai[0]'c.n1).ar.length:=by rw[e,gE (by rw[nI];exact c.n1),qm]
  grind
 .obtain⟨h0,h1⟩:=key _ hx;refine⟨by rw[h0];exact b.n1,by rw[h0];exact b.n2,b.m1,b.m2,λx R=> ?_⟩;obtain⟨i,hi,rfl⟩:=getElem_of_mem R;rw[h1 i hi (by rw[<-h0];exact hi)];exact Er (b.af i o_)
structure GA(m k:Nat)(a:Ag):Prop where
 b:fP k a
 ok:eS m a
def GA.c{m k a}(h:GA m k a):a.c≠0:=by have:=h.ok.c;omega
def GA.more{m j k a}(h:GA m j a)(hk:j<=k):GA m k a:=⟨qR h.b hk,h.ok⟩
def join_some{m j k a b}(e:fP j a)(c:eS m a\/a=az)(d:GA m k b)(h:j+k<=5000000):∃r,aR a b=some r/\GA m (j+k) r:=by
 obtain⟨_,r,h1,h2⟩:=xu e d.b h;exact⟨r,h1,h2,BS c d.ok h1⟩
def pQ{m j k a b}(f:fP j a)(h0:a.c≠0)(d:GA m k b)(h:j+k<=5000000):aR a b=some (ju a b):=by
 obtain⟨e,_⟩:=xu f d.b h;unfold aR;rw[if_neg h0,if_neg d.c,if_pos e]
def join_comm{m j k a b}(d:GA m j a)(e:GA m k b)(h:j+k<=5000000):aR a b=aR b a:=by
 rw[pQ d.b d.c e h,pQ e.b e.c d o_];congr 1;unfold ju;grind
def join_assoc{m j k l o a b}(p:fP j o)(q:eS m o\/o=az)(f:GA m k a)(s:GA m l b)(h:j+k+l<=5000000):((aR o a).bind λr=>aR r b)=(aR a b).bind λr=>aR o r:=by
 obtain⟨r,u,n⟩:=join_some f.b (.inl f.ok) s (by omega);have g:=pQ f.b f.c s (by omega);rw[g];rw[u]at g;injection g with g;by_cases h0:o.c=0
 .have h1:aR o a=some a:=if_pos h0;have h2:aR o _=some (ju a b):=if_pos h0;grind
 .have h1:=pQ p h0 f (by omega);obtain⟨v,e,d⟩:=join_some p q f (by omega);rw[h1]at e;injection e with e;rw[h1];show aR (ju o a) b=aR o (ju a b);rw[<-e]at d;rw[g]at n;rw[pQ d.b d.c s o_,pQ p h0 n o_];congr 1;unfold ju;grind
def BU:∀(b l2:List Ag)(o:Ag),cW o (b++l2)=(cW o b).bind λr=>cW r l2
 | [],l2,o=>rfl
 |a::b,l2,o=>by
  show(aR o a).bind (λj=>cW j (b++l2))=((aR o a).bind λj=>cW j b).bind _;cases aR o a with
  |none=>rfl
  |some j=>exact BU b _ j
def K5{m j k o a b} l(g:fP j o)(c:eS m o\/o=az)(d:GA m k a)(f:GA m k b)(h:j+k+k<=5000000):cW o (a::b::l)=cW o (b::a::l):=by
 have e:∀x y:Ag,cW o (x::y::l)=((aR o x).bind λr=>aR r y).bind λr=>cW r l:=λx y=>by
  show(aR o x).bind (λj=>(aR j y).bind λj=>cW j l)=_;grind
 rw[e,e,join_assoc g c d f h,join_assoc g c f d h,join_comm d f o_]
def BV{m k f l2}(q:f.Perm l2):∀(o:Ag)(j:Nat),fP j o->(eS m o\/o=az)->(∀a∈f,GA m k a)->j+k*f.length<=5000000->cW o f=cW o l2:=by
 induction q with
 |nil=>simp
 | @cons a f l2 q s=>
  intro o j e c d g;rw[length_cons,Nat.mul_succ]at g;obtain⟨r,h1,h2⟩:=join_some e c (d a mem_cons_self) o_;show(aR o a).bind _=(aR o a).bind _;rw[h1];exact s r _ h2.b (.inl h2.ok) (λx hx=>d x (mem_cons_of_mem _ hx)) o_
 |swap a b l=>
  intro o j e c d g;rw[length_cons,length_cons,Nat.mul_succ,Nat.mul_succ]at g;exact K5 l e c (d b mem_cons_self) (d a (mem_cons_of_mem _ mem_cons_self)) o_
 | @trans f l2 v h1 h2 p n=>
  intro o j e c d g;rw[p o j e c d g];exact n o j e c (λa u=>d a (h1.mem_iff.2 u)) (by rw[<-h1.length_eq];omega)
def bW(K:LN->Bool)(l:List (LN×Ag)):Option Ag:=cW az ((l.filter λx=>K x.1).map Prod.snd)
structure si(m k n:Nat)(out l:List (LN×Ag)):Prop where
 kK:k+l.length<=n
 ye:out.length<=k
 pW:∀x∈out,GA m k x.2
 Cc:∀x∈l,GA m 1 x.2
 up:out.Pairwise λa b=>aI a.1 b.1<0
 Q8:l.Pairwise λa b=>aI a.1 b.1<=0
 ends:∀x∈out,∀y∈l,aI x.1 y.1<=0
def Jk{α l}{x:α}(h:l.getLast? = some x):l=l.dropLast++[x]:=by
 obtain⟨ys,rfl⟩:=getLast?_eq_some_iff.1 h;simp
def uw(K:LN->Bool) A B:bW K (A++B)=(bW K A).bind λr=>cW r ((B.filter λx=>K x.1).map Prod.snd):=by
 unfold bW;rw[filter_append,map_append,BU]
def yS{m k}(K:LN->Bool) A(h:∀x∈A,GA m k x.2)(n:k*A.length<=5000000):∃r,bW K A=some r/\fP (k*A.length) r/\(eS m r\/r=az):=by
 have c:(A.filter λx=>K x.1).length<=A.length:=length_filter_le _ _;have g:k*(A.filter λx=>K _).length<=k*A.length:=Nat.mul_le_mul_left _ c;obtain⟨r,h1,h2,f⟩:=tG ((A.filter λx=>K x.1).map _) _ 0 qS (.inr rfl) (λa d=>by
  obtain⟨x,hx,rfl⟩:=mem_map.1 d;have:=h x (mem_filter.1 hx).1;exact⟨this.b,this.ok⟩) o_
 refine⟨r,h1,qR h2 o_,f.elim .inl (λe=> .inr e.1)⟩
def Jb{m k n out l}{p:LN×Ag}(Y:n<=64)(h:si m k n out (p::l)):∃o,jB out p=some o/\si m (k+1) n o l/\(∀K,bW K (o++l)=bW K (out++p::l))/\∀key,(∃x∈o,x.1=key)↔((∃x∈out,x.1=key)\/p.1=key):=by
 have B:=h.kK;rw[length_cons]at B;have f:=h.ye;have D:=h.Cc p mem_cons_self;have F:=λx hx=>h.Cc x (mem_cons_of_mem _ hx);obtain⟨z,u⟩:=pairwise_cons.1 h.Q8;unfold jB;cases d:out.getLast? with
 |none=>
  have C:=getLast?_eq_none_iff.1 d;subst C;refine⟨_,rfl,⟨o_,s_,λx hx=>by rw[mem_singleton.1 hx];exact D.more o_,F,pairwise_singleton _ _,u,λx hx y c=>r_⟩,λK=>rfl,λkey=>s_⟩
 |some q=>
  have V:=Jk d;generalize out.dropLast=A at*;subst V;have g:q∈A++[q]:=o_;have v:=h.pW q g;have L:=h.ends q g p mem_cons_self;rw[aE]at f;simp only[length_cons,length_nil]at f;dsimp only;by_cases C:aI q.1 p.1=0
  .rw[if_pos C];have hk:=nW C;obtain⟨j,J,E⟩:=join_some v.b (.inl v.ok) D (by omega);rw[J];have R:∀x∈A,GA m (k+1) _:=λx hx=>(h.pW x (mem_append_left _ hx)).more o_;obtain⟨O,X,W⟩:=pairwise_append.1 h.up;refine⟨A++[(q.1,j)],rfl,⟨o_,o_,λx hx=> ?_,F,?_,u,λx hx y c=> ?_⟩,λK=> ?_,λkey=> ?_⟩
   .grind
   .grind
   .obtain hx|hx:=mem_append.1 hx
    .exact h.ends x (mem_append_left _ hx) y (mem_cons_of_mem _ c)
    grind
   .rw[append_assoc,append_assoc,uw,uw];have T:k*A.length<=64*64:=Nat.mul_le_mul o_ o_;obtain⟨r,N,G,I⟩:=yS K A (λx hx=>h.pW x (mem_append_left _ hx)) o_;rw[N];show cW r _=cW r _;simp only[cons_append,nil_append,filter_cons];rw[<-hk];by_cases hK:K q.1=true
    .rw[if_pos hK,if_pos hK,if_pos hK];simp;have e:=join_assoc G I v D o_;rw[J]at e;show(aR r j).bind _=(aR r q.2).bind λx=>(aR x p.2).bind _;grind
    grind
   .constructor
    .rintro⟨x,hx,rfl⟩;grind
    .rintro(⟨x,hx,rfl⟩|rfl)
     .obtain hx|hx:=mem_append.1 hx
      .grind
      .rw[mem_singleton.1 hx];simp
     .exact⟨_,mem_append_right _ mem_cons_self,hk⟩
  .rw[if_neg C];refine⟨_,rfl,⟨o_,o_,λx hx=> ?_,F,?_,u,λx hx y c=> ?_⟩,λK=> ?_,λkey=> ?_⟩
   .obtain hx|hx:=mem_append.1 hx
    .exact(h.pW x hx).more o_
    .rw[mem_singleton.1 hx];exact D.more o_
   .refine pairwise_append.2 ⟨h.up,pairwise_singleton _ _,λx hx y c=> ?_⟩;rw[mem_singleton.1 c];have h1:=h.ends x hx p mem_cons_self;obtain s|s:=mem_append.1 hx
    .have h2:=(pairwise_append.1 h.up).2.2 x s q mem_cons_self;obtain H|H:=Int.lt_or_eq_of_le h1
     . omega
     .exfalso;have U:=nW H;rw[U,jU]at h2;omega
    grind
   .obtain hx|hx:=mem_append.1 hx
    .exact h.ends x hx y (mem_cons_of_mem _ c)
    grind
   .simp
   .constructor
    .grind
    .rintro(⟨x,hx,rfl⟩|rfl)
     .grind
     grind
def rf{m n}(c:n<=64):∀(l:List (LN×Ag))(k:Nat)(out:List (LN×Ag)),si m k n out l->∃r,dT out l=some r/\si m n n r []/\(∀K,bW K r=bW K (out++l))/\∀key,(∃x∈r,x.1=key)↔((∃x∈out,x.1=key)\/∃x∈l,x.1=key)
 | [],k,out,h=>by
  have ht:=h.kK;simp at ht;refine⟨_,rfl,⟨s_,aF h.ye ht,λx hx=>(h.pW x hx).more ht,λx hx=>r_,h.up,List.Pairwise.nil,λx _ y q=>r_⟩,λK=>o_,λkey=>s_⟩
 |p::l,k,out,h=>by
  obtain⟨o,h1,h2,s,u⟩:=Jb c h;obtain⟨r,f,d,e,g⟩:=rf c l _ o h2;refine⟨r,?_,d,λK=>(e K).trans (s K),λkey=> ?_⟩
  .unfold dT;grind
  .rw[g,u];grind
def Oi(A:OA)(l:List Fa)(c most:Nat)(w:World)(h:bM w w.heap.size A l)(C:l.length<=1000000)(R:most<=1000000)(hk:∀f∈l,f.keys.length<=1000000):Calls prog 32 #[U A l.length c,N most] w (cy (λ_=>True) w):=by
 have B:=J (λr w' z=>cy.mono (P:=λ_=>True) (w:=w) (r:=r) (w':=w') trivial z);have H:=J h;have E:=J hk;generalize cy (λ_=>True) w=Q at*;clear h hk;obtain⟨n,g⟩:=e_ l.length;have F:=J g;rw[g]at C⊢;clear g;go_in;go_wp2;go_loopw [5,6] (λD v wr=>∃(k:Nat)(x:Int),k<=n/\D = I x/\v = N k/\wr=w) (λ_ v _=>n-(intOf v).toNat)
 case atStart=>grind
 .obtain⟨k,x,hk,rfl,rfl,rfl⟩:=hrel;by_cases y:k<n
  .have d:k<l.length:=by rw[F];omega
   obtain⟨b,off,L,z,c0,e⟩:=bM.cells H k d;clear e;generalize(l[k]'d).keys.length=kl at*;generalize(l[k]'d).A=T at*;generalize(l[k]'d).c=O at*;have G:0<=(k:Int):=o_;have p:k<(n:Int):=o_;rw[L];by_cases m:k<=most
   .have s:k<=(most:Int):=o_;go_wp2
    all_goals exact⟨⟨k+1,_,o_,rfl,o_,trivial⟩,o_⟩
   .have s:¬ k<=(most:Int):=o_;go_wp2
    all_goals exact B _ _ bR
  .obtain rfl:k=n:=o_;go_wp2
   all_goals exact B _ _ bR
def ky(a:Ag):Prop:=a.c<=1000000000/\∀i,i<3 -> -1000000000000<=ps a i/\ps a i<=1000000000000
def Rc(A:OA)(l:List Fa)(c:Nat)(w:World)(h:bM w w.heap.size A l)(hn:l.length<=1000000)(hk:∀f∈l,f.keys.length<=1000000):Calls prog 10 #[U A l.length c] w (cy (λr=>r=true->∀f∈l,ky f.ag) w):=by
 have Y:=J (λr w' h z=>cy.mono (P:=λr=>r=true->∀f∈l,ky f.ag) (w:=w) (r:=r) (w':=w') h z);have H:=J h;have Z:=J (λW(u:E w W)=>Oi A l c 1000 W ((h.below u).more u.size) hn o_ hk);generalize cy (λr=>r=true->∀f∈l,ky _) w=Q at*;clear h hk;obtain⟨n,s⟩:=e_ l.length;have Hn:=J s;rw[s]at hn Z⊢;clear s;go_in;go_wp2;go_loopw [8] (λu wr=>∃(k:Nat),k<=n/\u = N k/\(∀(i:Nat)(hi:i<l.length),i<k->ky l[i].ag)/\E w wr) (λu _=>n-(intOf u).toNat)
 case atStart=>exact⟨0,o_,rfl,λi hi h=>o_,bR⟩
 .obtain⟨k,hk,rfl,M,X⟩:=hrel;have D:=J M;have g:=J X;clear M X;by_cases u:k<n
  .have y:k<l.length:=by rw[Hn];omega
   obtain⟨b,off,L,z,c0,c1,c2,c3,V,c5,E,c7,M,O,G⟩:=bM.cells ((H.below g).more g.size) k y;have R:Kp (ky (l[k]'y).ag->∀ i hi,i<k+1->ky _):=(λz i hi u=>by
    obtain h1|rfl:=Nat.lt_succ_iff_lt_or_eq.1 u
    .exact D i hi h1
    . omega)
   generalize(l[k]'y)=f at*;obtain⟨u,d,y,ag⟩:=f;have z:=(ah _ wr).alloc (ae _) (.cells (bC ⟨u,d,y,ag⟩) 89);have q:=J (aa.new wr 89 (bC ⟨u,d,y,ag⟩));have p:=ay g z;clear z;dsimp only[bC]at q p c0 c1 c2 c3 V c5 E c7 M O G R;have z:0<=(k:Int):=o_;have z:k<(n:Int):=o_;have HP:Kp (∀i,i<3->∃x,x=ps _ i/\(wr.alloc _).cell? ⟨_,2+i*3,_⟩=some (I x)):=(λi hi=>by
    match i,hi with
    |0,_=>exact⟨_,rfl,q.cell 2⟩
    |1,_=>exact⟨_,rfl,q.cell 5⟩
    |2,_=>exact⟨_,rfl,q.cell 8⟩)
   generalize b4:wr.alloc _=u at*;have y:C u _ 1 (I _):=q.cell 1;rw[L];by_cases z:1000000000<ag.c
   .go_wp2;exact Y _ _ (λh=>by cases h) p
   .have L:=decide_eq_false z;have a7:=J (show ag.c<=1000000000 by omega);clear z;go_wp2;clear b4 c0 c1 c2 c3 V c5 E c7 M O G;go_loopw [16] (λB y=>∃(j:Nat),j<=3/\B = N j/\(∀i,i<j -> -1000000000000<=ps ag i/\ps ag i<=1000000000000)/\y=u) (λB _=>3-(intOf B).toNat)
    case atStart=>grind
    .obtain⟨j,u,rfl,V,rfl⟩:=hrel;have F:=J V;clear V;by_cases u:j<3
     .obtain⟨x,hx,y⟩:=HP j u;have y:Kp ((-1000000000000<=x/\x<=1000000000000)->∀i,i<j+1 -> -1000000000000<=ps _ i/\ps _ i<=1000000000000):=(λh i hi=>by
       obtain h1|rfl:=Nat.lt_succ_iff_lt_or_eq.1 hi
       .exact F i h1
       omega)
      clear hx;have u:0<=(j:Int):=o_;have u:(j:Int)<3:=o_;by_cases v:1000000000000<x
      .go_wp2;exact Y _ _ (λh=>by cases h) p
      .have u:=decide_eq_false v;by_cases u:x < -1000000000000
       .go_wp2;exact Y _ _ (λh=>by cases h) p
       .have z:=decide_eq_false u;have T:=J (y ⟨o_,o_⟩);clear v u;go_wp2;exact⟨⟨_,o_,o_,T,trivial⟩,o_⟩
     .obtain rfl:j=3:=o_;have u:=J (R ⟨a7,F⟩);go_wp2;exact⟨⟨_,o_,o_,u,p⟩,o_⟩
  .obtain rfl:k=n:=o_;have y:=J (Z _ g);have O:Kp (∀f∈l,ky _):=(λf u=>by
    obtain⟨i,hi,rfl⟩:=getElem_of_mem u;exact D i hi (by have:=Hn.o;omega))
   by_cases m:k<=1000
   .have L:(k:Int)<=1000:=o_;go_wp2_with fail;apply y.mono;rintro e E⟨r,rfl,_,y⟩;have u:=J (Y r E (λ_=>O) (g.trans (y.mono g.size)));go_wp2;exact u
   .have L:¬(k:Int)<=1000:=o_;have u:=J (Y false _ (λh=>r_) g);go_wp2;exact u
end Tc
end Go.Proofs.YtibjlpkpljnicaaGreatDoor
