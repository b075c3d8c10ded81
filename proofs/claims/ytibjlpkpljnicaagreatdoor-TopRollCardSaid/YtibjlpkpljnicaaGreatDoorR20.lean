/- Parts. -/
import Derived.Test.YtibjlpkpljnicaaGreatDoorR07
set_option maxRecDepth 100000
set_option maxHeartbeats 8000000
set_option linter.all false
namespace Go.Proofs.YtibjlpkpljnicaaGreatDoor
namespace Tc
open List Go.RowKit Base Go.Proofs.Tryz
section
variable{P:Program}{ops:Array Oper}{Q:Exit->Act->World->Prop}{md:Region.Mode}{S:World->Prop}{t:Nat}
def Ri{i j:Nat}{o o':Oper}{c:Nat}{b:Array Bool}{a:Act}{w:World}(m:Region.ready md ops b=[i,j])(n:ops[i]? = some o)(f:ops[j]? = some o')(q:i≠t)(p:j≠t)
 (h:∀d:Act->World->Prop,Shut (∀a w,S w->(S w->dI P md ops Q S t c (b.setIfInBounds i true) a w)->d a w)->if Region.wanted o (yielded ops a.tmps)=true then Oper.wp P o a w d Q else d (a.put o.dst undef) w)
 (h':∀d:Act->World->Prop,Shut (∀a w,S w->(S w->dI P md ops Q S t c (b.setIfInBounds j true) a w)->d a w)->if Region.wanted o' (yielded ops a.tmps)=true then Oper.wp P o' a w d Q else d (a.put o'.dst undef) w) :
 dI P md ops Q S t (c+1) b a w:=by
 refine⟨λh0=>r_,λk hk=> ?_⟩;rw[m]at hk;obtain rfl|hk:=mem_cons.1 hk
 .exact wpOp_step n (λd hK=>h d (λa w e g=>hK a w ⟨λ_=>e,g e⟩))
 .obtain rfl:k=j:=r_
  exact wpOp_step f (λd hK=>h' d (λa w e g=>hK a w ⟨λ_=>e,g e⟩))
end
def J4(P R:List Fa)(s:Fa)(a:Ag):((((((((((((P++s::R).flatMap aV).set (P.length*11+1) (I a.c)).set (P.length*11+2) (I a.s0)).set (P.length*11+3) (I a.n0)).set (P.length*11+4) (I a.x0)).set (P.length*11+5) (I a.s1)).set (P.length*11+6) (I a.n1)).set (P.length*11+7) (I a.x1)).set (P.length*11+8) (I a.s2)).set (P.length*11+9) (I a.n2)).set (P.length*11+10) (I a.x2))=(P++(⟨s.A,s.keys,s.c,a⟩:Fa)::R).flatMap aV:=by
 have b:=iX kC P;rw[flatMap_append,flatMap_append,flatMap_cons,flatMap_cons,<-b];simp
abbrev jo(w:World)(g o:Nat)(a:Ag):World:=((((((((((w.setCell (M g (o+1)) (I a.c)).setCell (M g (o+2)) (I a.s0)).setCell (M g (o+3)) (I a.n0)).setCell (M g (o+4)) (I a.x0)).setCell (M g (o+5)) (I a.s1)).setCell (M g (o+6)) (I a.n1)).setCell (M g (o+7)) (I a.x1)).setCell (M g (o+8)) (I a.s2)).setCell (M g (o+9)) (I a.n2)).setCell (M g (o+10)) (I a.x2))
def MO{w:World}{B:Nat}{e:TypeId}{g n c:Nat}{P R:List Fa}{s:Fa}(h:w.ownsRow B e 11 (U (some ⟨g,0,none⟩) n c) n ((P++s::R).flatMap aV))(a:Ag) :
 (jo w g (P.length*11) a).ownsRow B e 11 (U (some ⟨g,0,none⟩) n c) n ((P++(⟨s.A,s.keys,s.c,a⟩:Fa)::R).flatMap aV):=by
 have b:=iX kC (P++s::R);simp only[aE,length_cons]at b;rw[<-J4];refine dG (dG (dG (dG (dG (dG (dG (dG (dG (dG h ?_ _) ?_ _) ?_ _) ?_ _) ?_ _) ?_ _) ?_ _) ?_ _) ?_ _) ?_ _
 all_goals((try simp only[length_set]);omega)
def PB{w:World}{g o k:Nat}{a:Ag}(hk:k≠g):(jo w g o a).heap[k]? = w.heap[k]?:= by
 unfold jo;repeat rw[Below.heap_setCell _ _ _ k hk]
def Ah{B:Nat}{x w:World}{g o:Nat}(a:Ag)(h:Below B x w)(b:B<=g):Below B x (jo w g o a):=
 ((((((((((h.setCell b _).setCell b _).setCell b _).setCell b _).setCell b _).setCell b _).setCell b _).setCell b _).setCell b _).setCell b _)
def PC(w:World)(g o:Nat)(a:Ag):(jo w g o a).heap.size=w.heap.size:=by simp
def bP.jo{w:World}{g o n c:Nat}{f:Fa}{a:Ag}(h:bP w (U (some ⟨g,0,none⟩) n c) f):bP (jo w g o a) (U (some ⟨g,0,none⟩) n c) f:=by
 refine⟨?_,h.2⟩;rw[PC];obtain h1|⟨b,off,e,q,p⟩:=h.1
 .exact .inl h1
 .by_cases h0:an f.keys=[]
  .exact .inl h0
  .refine .inr ⟨b,_,e,q,λi v m=> ?_⟩;have:=p i v m;rw[<-this];exact bF (PB (λd=>h.2 b _ e h0 (by subst d;rfl)))
def bj.jo{w:World}{B g n c:Nat}{P R:List Fa}{s:Fa}(h:bj w B (U (some ⟨g,0,none⟩) n c) (P++s::R))(a:Ag) :
 bj (Tc.jo w g (P.length*11) a) B (U (some ⟨g,0,none⟩) n c) (P++(⟨s.A,s.keys,s.c,a⟩:Fa)::R):=by
 obtain⟨h1,h2⟩:=h;obtain⟨m,p,e⟩:=cI h1;have b:n=(P++s::R).length:=r_
 have d:(P++⟨s.A,s.keys,s.c,a⟩::R).length=(P++s::R).length:=s_;refine⟨?_,λx hx=> ?_⟩
 .rw[d];rw[<-b]at h1⊢;exact MO h1 a
 .obtain hx|hx:=mem_append.1 hx
  .exact(h2 x (mem_append_left _ hx)).jo
  .obtain rfl|hx:=mem_cons.1 hx
   .exact bP.jo (h2 s (mem_append_right _ mem_cons_self))
   .exact(h2 x (mem_append_right _ (mem_cons_of_mem _ hx))).jo
def jB(out:List (LN×Ag))(p:LN×Ag):Option (List (LN×Ag)):=
 match out.getLast? with
 |none=>some [p]
 |some q=>if aI q.1 p.1=0 then(aR q.2 p.2).map λj=>out.dropLast++[(q.1,j)]else some (out++[p])
def dT:List (LN×Ag)->List (LN×Ag)->Option (List (LN×Ag))
 |out,[]=>some out
 |out,p::ps=>(jB out p).bind λo=>dT o ps
def rq{a b j:Ag}(e:cB a)(c:cB b)(h:aR a b=some j):cB j:=by
 unfold aR at h;split at h
 .grind
 .split at h
  .grind
  .split at h
   .rename_i d;injection h with h;subst h;obtain⟨s0,s1,s2,f⟩:=d;unfold cB ju at*;grind
   .cases h
def eh{w w':World}{g o:Nat}{u q m d r n f p s b:Value}(C:w'.heap[g]? = w.heap[g]?)
 (h:w.cell? ⟨g,o+1,none⟩=some u/\w.cell? ⟨g,o+2,none⟩=some q/\w.cell? ⟨g,o+3,none⟩=some m/\w.cell? ⟨g,o+4,none⟩=some d/\w.cell? ⟨g,o+5,none⟩=some r/\w.cell? ⟨g,o+6,none⟩=some n/\w.cell? ⟨g,o+7,none⟩=some f/\w.cell? ⟨g,o+8,none⟩=some p/\w.cell? ⟨g,o+9,none⟩=some s/\w.cell? ⟨g,o+10,none⟩=some b):w'.cell? ⟨g,o+1,none⟩=some u/\w'.cell? ⟨g,o+2,none⟩=some q/\w'.cell? ⟨g,o+3,none⟩=some m/\w'.cell? ⟨g,o+4,none⟩=some d/\w'.cell? ⟨g,o+5,none⟩=some r/\w'.cell? ⟨g,o+6,none⟩=some n/\w'.cell? ⟨g,o+7,none⟩=some f/\w'.cell? ⟨g,o+8,none⟩=some p/\w'.cell? ⟨g,o+9,none⟩=some s/\w'.cell? ⟨g,o+10,none⟩=some b:=by
 obtain⟨h1,h2,x,A,z,v,B,D,y,c⟩:=h;have e:∀i,w'.cell? _=w.cell? ⟨g,i,none⟩:=λi=>bF C;grind
def uB{w:World}{g k:Nat}{m d e n c r p f q b:Value}(hk:k≠g):((((((((((w.setCell (M g 0) m).setCell (M g 1) d).setCell (M g 2) e).setCell (M g 3) n).setCell (M g 4) c).setCell (M g 5) r).setCell (M g 6) p).setCell (M g 7) f).setCell (M g 8) q).setCell (M g 9) b).heap[k]? = w.heap[k]?:= by
 repeat rw[Below.heap_setCell _ _ _ k hk]
def xe(P:List (LN×Ag))(q p:LN×Ag):jB (P++[q]) p=if aI q.1 p.1=0 then(aR q.2 p.2).map λj=>P++[(q.1,j)]else some (P++[q]++[p]):=by
 unfold jB;simp
def gV(ps:List (LN×Ag))(w:World)(e:Ending)(w':World):Prop:=
 match dT [] ps with
 |none=>e = .returned (.tuple #[Z,I 12])/\E w w'
 |some b=>∃(v:Value)(l:List Fa),e = .returned (.tuple #[v,I 0])/\l.map pl=b/\bj w' w.heap.size v l/\eC w.heap.size l/\E w w'
def gV.no{ps:List (LN×Ag)}{w w':World}(h:dT [] ps=none)(b:E w w'):gV ps w (.returned (.tuple #[Z,I 12])) w':=by
 unfold gV;grind
def gV.yes{ps b:List (LN×Ag)}{w w':World}{v:Value}{l:List Fa}(h:dT [] ps=some b)(h1:l.map pl=b)(h2:bj w' w.heap.size v l)(c:eC w.heap.size l)(d:E w w'):gV ps w (.returned (.tuple #[v,I 0])) w':=by
 unfold gV;grind
def J7(A:OA)(l:List Fa)(c:Nat)(w:World)(hn:l.length<=1000000)(hk:∀f∈l,f.keys.length<=1000000)(l0:∀f∈l,cB f.ag)(hr:bM w w.heap.size A l) :
 Calls prog 59 #[U A l.length c] w (gV (l.map pl) w):=by
 have n8:Kp (dT _ _=none->∀w',E w _->gV (l.map pl) w _ w'):=λh w' hb=>gV.no h hb;have q4:Kp (∀v l' w',dT _ _=some _->bj _ _ v _->eC _ l'->E w _->gV (l.map pl) w _ w'):=λv l' w' h h2 h3 hb=>gV.yes h rfl h2 h3 hb;have Hk:=J hk;have HC:=J pH;have l7:=J te;have HJ:=J xt;obtain⟨i0,k9,q5,q7,m0⟩:=info_parts mA;generalize hQ:gV _ w=Q at*;clear hQ;obtain⟨n,hN⟩:=e_ l.length;rw[hN]at hn⊢;go_in;go_wp2;go_loopw [4,12] (λv4 j3 wr=>∃(k:Nat)(out:List Fa)(A':OA)(Y:Nat),k<=n/\j3 = I k/\v4 = U A' out.length Y/\out.length<=k/\dT [] (l.map pl)=dT (out.map pl) ((l.drop k).map pl)/\(∀f∈out,cB f.ag)/\(∀f∈out,f.keys.length<=1000000)/\bj wr w.heap.size (U A' out.length Y) out/\E w wr) (λ_ j3 _=>n-(intOf j3).toNat)
 case atStart=>exact⟨0,[],_,0,o_,rfl,rfl,o_,rfl,(λf hf=>r_),(λf hf=>r_),⟨cK _ _ _ _,(λf hf=>r_)⟩,bR⟩
 .obtain⟨k,out,A',Y,hk,rfl,rfl,s4,k1,q9,o1,i6,q1⟩:=hrel;have e6:=J q9;have b7:=J o1;have e5:=J i6;have b9:=J q1;clear q9 o1 i6 q1;by_cases r7:k<n
  .have X:k<l.length:=o_
   have q8:=((J hr).below b9).more b9.size;obtain⟨b,off,rfl,hb,c0,c1,c2,c3,c4,c5,c6,c7,c8,c9,r5⟩:=q8.cells k X;have hf:=q8.keys _ (gM X);have s8:Kp (∀b off,(l[k]'X).A=some ⟨b,off,none⟩->an (l[k]'X).keys≠[]->b<w.heap.size):=(λb off e k3=>by
    rcases(J hr).keys _ (gM X)with h|⟨b',u5,e',w7,_⟩
    .grind
    grind)
   have m7:=J (show(l.drop k).map _=pl _::(l.drop (k+1)).map _ by rw[drop_eq_getElem_cons X];rfl);have r8:=Hk _ (gM X);have h6:=J ((J l0) _ (gM X));generalize(l[k]'X)=f at*;have g4:=(ah _ wr).alloc (ae _) (.cells (bC f) 89);have f6:=J (aa.new wr 89 (bC f));have f2:=ay b9 g4;have d1:=J (e5.below g4);have Hf:=J ((hf.below g4).more g4.size);have v3:0<=(k:Int):=o_;have v7:k<(n:Int):=o_;go_upto_region 5 with fail;clear c0 c1 c2 c3 c4 c5 c6 c7 c8 c9 r5;generalize w9:wr.heap.size=L at*;generalize wr.alloc _=H at*;obtain⟨a0,a1,a2,a3,a4,a5,a6,a7,a8,a9,b3⟩:=aa.dk f6;have b2:Kp (bP H _ f):=⟨Hf,λb off e k3 ho=>by have h1:=(d1.1.lt b ho).1;have h2:=s8 b _ e k3;omega⟩;have B:=J d1.1;have b0:=J d1.2;have g5:Kp (∀o:List _,jB _ _=some _->dT _ _=dT (o.map pl) ((l.drop (k+1)).map _)):=(λo h=>by rw[k1,m7,dT,h];rfl);have n5:Kp (jB _ _=none->dT _ _=none):=(λh=>by rw[k1,m7,dT,h];rfl);have k2:=J r8;obtain⟨m,hm⟩:=e_ out.length;have Hm:=J hm;rw[hm]at s4 b2 B b0 e5⊢;have q2:m+1<1048576*64:=o_;clear hm;by_cases h0:out=[]
   .have n6:m=0:=by have:=Hm.o;rw[h0]at this;exact this.symm
    have d0:=J (show jB (out.map pl) _=some ((out++[f]).map pl) by rw[h0];rfl);have s6:((m:Int) == 0)=true:=o_
    clear n6 h0;go_wp2;apply wp_region_noPanic;refine br (t:=99) (S:=(λ_=>True)) k_ trivial (λd=> ?_);apply eR 0 1 2 d;apply sk 3 d;apply sk 4 d;apply sk 5 d;apply sk 6 d;apply sk 7 d;apply sk 8 d;apply sk 9 d;apply sk 10 d;apply tk 11 d;refine bQ k_ ?_ _;try clear d
    apply NoPanic.normal;have f5:Kp (H.drew.ownsRow _ _ _ _ m _):=B;have q6:Kp (∀x∈out,bP H.drew _ x):=λx hx=>b0 x hx;have k4:Kp (bP H.drew _ f):=b2;have e9:=J f2.drew;have dD:=aa.dk (show aa H.drew L _ _ from f6);generalize H.drew=wx at*;go_wp2_with(at_builtin;apply je rfl _ _ _ rfl _ 89 _ _ _ _ underlying34 k9 q5 q7 m0 rfl d_ _ _ rfl (kV _) (U _ m Y) m _ rfl f5 rfl q2 d_ e9.size;intro v5 w5 D y;obtain⟨A5,c5,h5⟩:=cI D;subst h5;have d3:=J D;have i8:=J (y.ew e9 f5 o_ e9.size);have f7:Kp _:=(λx hx=>by(obtain hx|hx:=mem_append.1 hx;exact(q6 x hx).app y;rw[mem_singleton.1 hx];exact k4.app y));clear D y);refine⟨⟨_,_,_,_,o_,o_,by rw[aE,Hm];rfl,by rw[aE,Hm];simp;omega,g5 _ d0,?_,?_,⟨?_,?_⟩,i8⟩,o_⟩
    .intro x hx;obtain hx|hx:=mem_append.1 hx
     .exact e6 x hx
     .rw[mem_singleton.1 hx];exact h6
    .intro x hx;obtain hx|hx:=mem_append.1 hx
     .exact b7 x hx
     .rw[mem_singleton.1 hx];omega
    .rw[aE,Hm,flatMap_append];exact d3
    .rw[aE,Hm];exact f7
   .obtain⟨P,p,rfl⟩:∃P p,out=P++[p]:=⟨_,_,(dropLast_concat_getLast h0).symm⟩;clear h0;obtain⟨g,rfl,o2,u8⟩:=e5.addr s_;have s3:=(b0 p s_).1;have f8:Kp (Calls _ _ _ _ _):=l7 p f H.drew (b7 p s_) k2 s3 Hf;have n9:=xe (P.map pl) (pl p) (pl f);have k5:=(B.lt g rfl).2;have q0:=f6.lt;have o7:m=P.length+1:=by rw[<-Hm];simp
    have t9:Kp (bj H _ _ _):=⟨by rw[Hm];exact B,b0⟩;obtain⟨p0,p1,p2,p3,p4,p5,p6,p7,p8,p9,F⟩:=bj.fw (w:=H.drew) t9;obtain⟨q,hq⟩:=e_ P.length;rw[hq]at p0 p1 p2 p3 p4 p5 p6 p7 p8 p9 F o7;have Hq:=J hq;subst o7;have x4:IntKind.i64.wrap _=q:=IntWalk.i64_in _ o_;have v6:0<=(q:Int):=o_;have y0:q<(q:Int)+1:=o_;have u4:(((q:Int)+1) == 0)=false:=o_;by_cases hV:aI p.keys f.keys=0
    .have t7:(aI _ _ == 0)=true:=o_
     have h9:=J (show jB ((P++[p]).map _) _=(aR p.ag f.ag).map λj=>P.map _++[(p.keys,j)] by rw[map_append];exact n9.trans (if_pos hV));generalize aI _ _=V at*;go_wp2;apply wp_region_noPanic;refine br (t:=99) (S:=(λw'=>(cF w' g _ p)/\(eG w' L f))) k_ ⟨⟨p0,p1,p2,p3,p4,p5,p6,p7,p8,p9,F⟩,⟨a0,a1,a2,a3,a4,a5,a6,a7,a8,a9,b3⟩⟩ (λd=> ?_);apply tD 0 1 2 3 d;apply tD 4 5 6 7 d;apply tk 8 d;refine oT 9 λK hK=>?_;go_simp;apply f8.mono;rintro e u⟨rfl,(O:Kp _)⟩;refine oK hK ?_ λr=>?_
     .have e1:∀i,u.cell? _=H.drew.cell? (M g i):=λi=>bF (by rw[O];exact(Below.heap_alloc _ _ _ o_).trans (Below.heap_alloc _ _ _ k5));have e2:∀i,u.cell? _=H.drew.cell? (M L i):=λi=>bF (by rw[O];exact(Below.heap_alloc _ _ _ o_).trans (Below.heap_alloc _ _ _ q0));(try dsimp only[cA,gZ]);(try dsimp only[cF,eG]);(try dsimp only[cC,hJ,cN,iI]);simp only[C,e1,e2];omega
     replace d:=r;apply tB 10 11 d;refine bQ k_ ?_ _;try clear d
     apply NoPanic.normal;have T:=(show Below H.drew.heap.size _ u by rw[O];exact(bR.alloc o_ _).alloc s_ _);have N:Kp (u.ownsRow _ _ _ _ _ _):=bS (w:=H.drew) B T;have d7:Kp _:=λx hx=>bP.below (w:=H.drew) (b0 x hx) T;have W:=J (aa.under (w:=H.drew) f6 T);have z:=J (f2.drew.trans (T.mono o_));obtain⟨a0,a1,a2,a3,a4,a5,a6,a7,a8,a9,b3⟩:=aa.dk W;go_wp2;have O:Kp (bj u _ _ _):=⟨by have:=N.o;rw[show(P++[p]).length=q+1 by rw[<-Hq];simp];omega,d7⟩;have b4:=(N.lt g rfl).2;have b5:=W.lt;obtain⟨p0,p1,p2,p3,p4,p5,p6,p7,p8,p9,F⟩:=bj.fw O;rw[Hq]at p0 p1 p2 p3 p4 p5 p6 p7 p8 p9 F;have m4:Kp (∀w,Calls _ _ _ w (R_ _ w)):=λw=>HJ _ _ w (e6 p s_) h6;have k8:=J (λj(h:aR _ _=some j)=>rq (e6 p s_) h6 h);generalize aR _ f.ag=o at*;apply wp_region_noPanic;refine br (t:=99) (S:=(λw'=>(w'.cell? _=some _/\w'.cell? _=some _/\w'.cell? _=some _/\w'.cell? _=some _/\w'.cell? _=some _/\w'.cell? _=some _/\w'.cell? _=some _/\w'.cell? _=some _/\w'.cell? _=some _/\w'.cell? _=some _)/\(w'.cell? _=some _/\w'.cell? _=some _/\w'.cell? _=some _/\w'.cell? _=some _/\w'.cell? _=some _/\w'.cell? _=some _/\w'.cell? _=some _/\w'.cell? _=some _/\w'.cell? _=some _/\w'.cell? _=some _))) k_ ⟨⟨p1,p2,p3,p4,p5,p6,p7,p8,p9,F⟩,⟨a1,a2,a3,a4,a5,a6,a7,a8,a9,b3⟩⟩ (λd=> ?_);apply tD 0 1 2 3 d;apply tD 4 5 6 7 d;refine Ri (i:=8) (j:=12) (o:= ?os8) (o':= ?os12) k_ ?as8 ?as12 d_ d_ (λK hK=> ?bs8) (λK hK=> ?bs12)
     case as8=>rfl
     case as12=>rfl
     .go_simp;apply(m4 _).mono;rintro e w3⟨rfl,(G:Kp _)⟩;refine oK hK ?_ λr=>?_
      .exact⟨eh (G.block g b4) d.1,eh (G.block L b5) d.2⟩
      replace d:=r;have i5:=bh b4 G.size;have i7:=bh b5 G.size;apply eR 9 10 11 d;refine oT 12 λK hK=>?_;go_simp;refine oK hK ?_ λr=>?_
      .exact⟨eh (Below.heap_alloc _ _ _ i5) d.1,eh (Below.heap_alloc _ _ _ i7) d.2⟩
      replace d:=r;have hx:_/\_:=⟨eh (G.block g b4) ⟨p1,p2,p3,p4,p5,p6,p7,p8,p9,F⟩,eh (G.block L b5) ⟨a1,a2,a3,a4,a5,a6,a7,a8,a9,b3⟩⟩;refine oT 13 λK hK=>?_;go_simp;refine oK hK ?_ λr=>?_
      .exact⟨eh (Below.heap_alloc _ _ _ i5) hx.1,eh (Below.heap_alloc _ _ _ i7) hx.2⟩
      replace d:=r;apply tk 14 d;refine bQ k_ ?_ _;try clear d
      apply NoPanic.normal;have f9:=(ah _ w3).alloc (ae _) (.cells (aA (o.getD az)) 78);have i9:=J (aa.new w3 78 (aA (o.getD az)));have b6:=J ((bj.below (w:=u.drew) O G).below f9);have b1:=J (z.drew.trans ((G.mono o_).trans (f9.mono o_)));generalize w3.heap.size=g8 at*;generalize w3.alloc (.cells (aA _) _)=w4 at*;obtain _|jj:=o
      .have k0:=J (n8 (n5 h9) _ b1);simp;go_wp2;exact k0
      .have d0:=J (show jB _ _=some ((P++[(⟨p.A,p.keys,p.c,jj⟩:Fa)]).map _) by rw[h9,map_append];rfl);have f4:=J (bj.jo b6 jj);have b8:=J (Ah (o:=P.length*11) jj b1 o2);rw[Hq]at f4 b8;obtain⟨p0,p1,p2,p3,p4,p5,p6,p7,p8,p9,F⟩:=bj.fw b6;rw[Hq]at p0 p1 p2 p3 p4 p5 p6 p7 p8 p9 F;have zD:=b6.pL q;have jD:=(aa.cr (show aa _ _ _ (aA jj)from i9)).1;simp;go_wp2;refine⟨⟨_,_,_,Y,o_,o_,by rw[aE,Hq];rfl,o_,g5 _ d0,?_,?_,?_,b8⟩,o_⟩
       .intro x hx;obtain hx|hx:=mem_append.1 hx
        .exact e6 x (mem_append_left _ hx)
        .rw[mem_singleton.1 hx];exact k8 _ rfl
       .intro x hx;obtain hx|hx:=mem_append.1 hx
        .exact b7 x (mem_append_left _ hx)
        .rw[mem_singleton.1 hx];exact b7 p (mem_append_right _ mem_cons_self)
       .have:=f4.o;rw[show(P++[(⟨_,_,_,_⟩:Fa)]).length=q+1 by rw[<-Hq];simp];omega
     .go_simp;refine oK hK ?_ λr=>?_
      .exact⟨eh (Below.heap_alloc _ _ _ b4) d.1,eh (Below.heap_alloc _ _ _ b5) d.2⟩
      replace d:=r;have x3:u.drew.heap.size=u.heap.size:=rfl;have t8:=(ah _ u.drew).alloc (ae _) (.cells (aA az) 78);have t0:=J (aa.new u.drew 78 (aA az));have k6:g<(u.drew.alloc (.cells (aA az) 78)).heap.size:=o_;have q3:L<(u.drew.alloc (.cells (aA az) 78)).heap.size:=o_;refine oT 8 λK hK=>?_;go_simp;apply(m4 _).mono;rintro e w3⟨rfl,t3⟩;have G:Kp (Below (u.drew.alloc (.cells (aA az) 78)).heap.size (u.drew.alloc (.cells (aA az) 78)) _):=t3;refine oK hK ?_ λr=>?_
      .exact⟨eh (G.block g k6) d.1,eh (G.block L q3) d.2⟩
      replace d:=r;have n3:=J (t0.under G);have m9:=J ((J t8).trans (G.mono s_));have hx:=d;have m5:g≠u.drew.heap.size:=o_;have n7:L≠u.drew.heap.size:=o_;obtain⟨yD,fD⟩:=aa.cr n3;have hy:u.drew.heap.size=u.heap.size:=rfl;rw[hy]at yD fD;apply eR 9 10 11 d;refine oT 13 λK hK=>?_;go_simp;refine oK hK ?_ λr=>?_
      .exact⟨eh (uB m5) hx.1,eh (uB n7) hx.2⟩
      replace d:=r;apply tk 14 d;refine bQ k_ ?_ _;try clear d
      apply NoPanic.normal;have f9:=Below.kJ (I (o.getD az).c) (I (o.getD az).s0) (I (o.getD az).n0) (I (o.getD az).x0) (I (o.getD az).s1) (I (o.getD az).n1) (I (o.getD az).x1) (I (o.getD az).s2) (I (o.getD az).n2) (I (o.getD az).x2) m9 (ae _);have i9:Kp (aa _ u.heap.size _ (aA (o.getD az))):=aa.kJ _ _ _ _ _ _ _ _ _ _ n3;have b6:=J (bj.below (w:=u.drew) O f9);have b1:=J (z.drew.trans (f9.mono o_));have hy:u.drew.heap.size=u.heap.size:=rfl;rw[hy]at b6 b1;generalize r9:u.heap.size=g8 at*;generalize((((((((((w3.setCell (M g8 0) _).setCell _ _).setCell _ _).setCell _ _).setCell _ _).setCell _ _).setCell _ _).setCell _ _).setCell _ _).setCell _ _)=w4 at*;clear N d7 W z O b4 b5 p0 p1 p2 p3 p4 p5 p6 p7 p8 p9 F a0 a1 a2 a3 a4 a5 a6 a7 a8 a9 b3;obtain _|jj:=o
      .have k0:=J (n8 (n5 h9) _ b1);simp;go_wp2;exact k0
      .have d0:=J (show jB _ _=some ((P++[(⟨p.A,p.keys,p.c,jj⟩:Fa)]).map _) by rw[h9,map_append];rfl);have f4:=J (bj.jo b6 jj);have b8:=J (Ah (o:=P.length*11) jj b1 o2);rw[Hq]at f4 b8;obtain⟨p0,p1,p2,p3,p4,p5,p6,p7,p8,p9,F⟩:=bj.fw b6;rw[Hq]at p0 p1 p2 p3 p4 p5 p6 p7 p8 p9 F;have zD:=b6.pL q;have jD:=(aa.cr (show aa _ _ _ (aA jj)from i9)).1;simp;go_wp2;refine⟨⟨_,_,_,Y,o_,o_,by rw[aE,Hq];rfl,o_,g5 _ d0,?_,?_,?_,b8⟩,o_⟩
       .intro x hx;obtain hx|hx:=mem_append.1 hx
        .exact e6 x (mem_append_left _ hx)
        .rw[mem_singleton.1 hx];exact k8 _ rfl
       .intro x hx;obtain hx|hx:=mem_append.1 hx
        .exact b7 x (mem_append_left _ hx)
        .rw[mem_singleton.1 hx];exact b7 p (mem_append_right _ mem_cons_self)
       .have:=f4.o;rw[show(P++[(⟨_,_,_,_⟩:Fa)]).length=q+1 by rw[<-Hq];simp];omega
    .have t7:(aI _ _ == 0)=false:=o_
     have d0:=J (show jB ((P++[p]).map _) _=some ((P++[p]++[f]).map _) by rw[map_append,map_append,map_append];exact n9.trans (if_neg hV));generalize aI _ _=V at*;go_wp2;apply wp_region_noPanic;refine br (t:=99) (S:=(λw'=>(cF w' g _ p)/\(eG w' L f))) k_ ⟨⟨p0,p1,p2,p3,p4,p5,p6,p7,p8,p9,F⟩,⟨a0,a1,a2,a3,a4,a5,a6,a7,a8,a9,b3⟩⟩ (λd=> ?_);apply tD 0 1 2 3 d;apply tD 4 5 6 7 d;apply tk 8 d;refine oT 9 λK hK=>?_;go_simp;apply f8.mono;rintro e u⟨rfl,(O:Kp _)⟩;refine oK hK ?_ λr=>?_
     .have e1:∀i,u.cell? _=H.drew.cell? (M g i):=λi=>bF (by rw[O];exact(Below.heap_alloc _ _ _ o_).trans (Below.heap_alloc _ _ _ k5));have e2:∀i,u.cell? _=H.drew.cell? (M L i):=λi=>bF (by rw[O];exact(Below.heap_alloc _ _ _ o_).trans (Below.heap_alloc _ _ _ q0));(try dsimp only[cA,gZ]);(try dsimp only[cF,eG]);(try dsimp only[cC,hJ,cN,iI]);simp only[C,e1,e2];omega
     replace d:=r;apply tB 10 11 d;refine bQ k_ ?_ _;try clear d
     apply NoPanic.normal;have T:=(show Below H.drew.heap.size _ u by rw[O];exact(bR.alloc o_ _).alloc s_ _);have N:Kp (u.ownsRow _ _ _ _ _ _):=bS (w:=H.drew) B T;have d7:Kp _:=λx hx=>bP.below (w:=H.drew) (b0 x hx) T;have f1:Kp (bP u _ f):=bP.below (w:=H.drew) b2 T;have W:=J (aa.under (w:=H.drew) f6 T);have z:=J (f2.drew.trans (T.mono o_));go_wp2_with(at_builtin;refine je rfl _ _ _ rfl _ 89 _ _ _ _ underlying34 k9 q5 q7 m0 rfl d_ u (bC f) rfl (kV _) (U _ _ Y) _ _ rfl N rfl q2 d_ z.size ?_;intro v5 w5 D y;obtain⟨A5,c5,h5⟩:=cI D;subst h5;have d3:=J D;have i8:=J (y.ew z N o_ z.size);have f7:Kp _:=(λx hx=>by(obtain hx|hx:=mem_append.1 hx;exact(d7 x hx).app y;rw[mem_singleton.1 hx];exact f1.app y));clear D y);refine⟨⟨_,_,A5,c5,o_,o_,o_,o_,g5 _ d0,?_,?_,⟨?_,?_⟩,i8⟩,o_⟩
     .intro x hx;obtain hx|hx:=mem_append.1 hx
      .exact e6 x hx
      .rw[mem_singleton.1 hx];exact h6
     .intro x hx;obtain hx|hx:=mem_append.1 hx
      .exact b7 x hx
      .rw[mem_singleton.1 hx];omega
     .rw[aE,Hm,flatMap_append];exact d3
     .rw[aE,Hm];exact f7
  .obtain rfl:k=n:=o_;have k7:=J (show dT _ _=some _ by rw[k1,drop_of_length_le o_];rfl);have f8:=J (HC _ _ Y _ o_ b7 e5.jW);obtain⟨m,hm⟩:=e_ out.length;rw[hm]at f8⊢;go_wp2_with fail;apply f8.mono;rintro e w2⟨v2,l2,rfl,l4,f0,o4,t5⟩;have Hq:=J (q4 _ _ _ (by rw[l4];exact k7) ⟨dZ f0.1 b9.size,f0.2⟩ (λf hf b off h1 h2=>aF b9.size (o4 f hf b _ h1 h2)) (b9.trans (t5.mono b9.size)));go_wp2;exact Hq
end Tc
namespace Tc
open List Go.RowKit Base Go.Maps Go.WideMaps Go.Proofs.Tryz
structure eM(w:World)(gr gw:Nat)(ws:List Int):Prop where
 box:aa w gr 271 #[U (some ⟨gw,0,none⟩) 4 4,I 249]
 words:aa w gw 284 (ws.map (.int .u64)).toArray
 len:ws.length=4
 fits:∀x∈ws,0<=x/\x<18446744073709551616
 ne:gr≠gw
abbrev mu:List Int:=[0,0,0,0]
def eM.under{w w' gr gw c}(h:eM w gr gw c)(b:E w w'):eM w' gr gw c:=⟨h.box.under b,h.words.under b,h.len,h.fits,h.ne⟩
def eM.word{w gr gw b}(h:eM w gr gw b){q}(d:q<4):∃x,b[q]? = some x/\C w gw q (.int .u64 x)/\0<=x/\x<18446744073709551616:=by
 have c:q<b.length:=by rw[h.len];omega
 have h1:=h.words.cell q;rw[getElem?_toArray,getElem?_map,gE c]at h1;exact⟨_,gE c,h1,h.fits _ (gM c)⟩
def Mr w:Calls prog 169 #[.int .u64 0] w λe w'=>e = .returned (I 0)/\w=w':=by
 have c:bits .and .u64 0 6148914691236517205=0:=d_;have d:bits .and .u64 0 3689348814741910323=0:=d_;have b:bits .and .u64 0 1085102592571150095=0:=d_;have f:bits .and .i64 0 127=0:=d_;go_in;go_wp2;go_ret;simp
def mK{w gr gw i b}(h:eM w gr gw b)(hi:i<249):Calls prog 229 #[Y gr 0,N i] w λe w'=>e = .returned (.bool true)/\w=w':=by
 obtain⟨c0,c1,_,_⟩:=h.box.two;have h1:0<=(i:Int):=o_;have h2:(i:Int)<249:=o_;clear h hi;go_in;go_wp2;go_ret;simp
def F4{w gr gw i}(h:eM w gr gw mu)(hi:i<249):Calls prog 170 #[Y gr 0,N i] w λe w'=>e = .returned (.bool false)/\w=w':=by
 have d:=J (mK h hi);obtain⟨c0,c1,_,_⟩:=h.box.two;obtain⟨q,p⟩:∃q:Nat,i / 64=(q:Int):=⟨_,o_⟩;obtain⟨r,v⟩:∃r:Nat,i % 64=(r:Int):=⟨_,o_⟩;have b:q<4:=o_;have c2:C w gw q (.int .u64 0):=by
  obtain⟨x,h1,h2,_⟩:=h.word b;have hx:x=0:=r_
  rw[hx]at h2;omega
 have s:bits .and .u64 0 1=0:=d_;have u:0<=(q:Int):=o_;have m:(q:Int)<4:=o_;have f:(0:Int) / 2 ^ r=0:=o_;clear h hi;go_in;go_wp2_with fail;apply d.mono;rintro e w'⟨rfl,rfl⟩;go_wp2;go_ret;simp
def DO{w gr gw}(h:eM w gr gw mu):Calls prog 91 #[Y gr 0] w λe w'=>e = .returned (I 249)/\w=w':=by
 have f:=J Mr;obtain⟨c0,c1,_,_⟩:=h.box.two;have g:Kp (∀q,q<4->C w gw q (.int .u64 0)):=λq d=>by
  obtain⟨x,h1,h2,_⟩:=h.word d;grind
 clear h;go_in;go_wp2;go_loopw [3,17] (λp b wr=>∃k:Nat,k<=4/\b = N k/\p = I 249/\w=wr) (λ_ b _=>4-(intOf b).toNat)
 case atStart=>grind
 .obtain⟨k,hk,rfl,rfl,rfl⟩:=hrel;by_cases c:k<4
  .have c2:=g k c;have n:0<=(k:Int):=o_;have m:(k:Int)<4:=o_;go_wp2_with fail;apply(f _).mono;rintro e w'⟨rfl,rfl⟩;go_wp2;exact⟨⟨k+1,o_,o_,rfl,trivial⟩,o_⟩
  .obtain rfl:k=4:=o_;go_wp2;go_ret;simp
def L0{l x}(h:x∉l):(jZ l).atKey (.int .i64 x) (.lit (.int .i64 0)) = .lit (.int .i64 0):=by
 refine atKey_of_not_has ?_ _;unfold jZ;rw[has_setOf _ _ _ (Cm _)];unfold lits;rw[any_map];refine Bool.eq_false_iff.2 λc=> ?_;obtain⟨y,d,e⟩:=any_eq_true.1 c;by_cases b:y=x
 .grind
 .rw[Function.comp,sameKey_ne o_]at e;cases e
structure zx(l:LN):Prop where
 nd:l.Nodup
 lt:∀x∈l,x<249
def Ot{w gr gw A c l}(h:eM w gr gw mu)(J:Row w w.heap.size A (an l))(L:zx l)(hn:l.length<=249) :
 Calls prog 164 #[.pointer (some ⟨gr,0,none⟩),.slice A l.length c,.bool false] w λe w'=>e = .returned (.int .i64 0)/\Below w.heap.size w w':=by
 obtain⟨M,y,T⟩:=j3_ h J L;obtain⟨c0,c1,_,_⟩:=h.box.two;have V:=@run_makeMap prog;generalize O:l.length=n at*;have X:=kp O;clear h J L O;go_in;go_wp2;go_loopw [22] (λu wr=>∃k:Nat,k<=n/\u = .int .i64 (k:Nat)/\wr.ownsMap prog 3 (plainElem prog 3) w.heap.size k (jZ ((l.take k).map Int.ofNat))/\Below w.heap.size w wr) (λu wr=>n-(intOf u).toNat)
 case atStart=>exact⟨0,o_,rfl,World.ownsMap_made _ _ _ _,bR.alloc o_ _⟩
 .clear c0 c1;obtain⟨k,hk,rfl,m,x⟩:=hrel;have f:=kp x;clear x;by_cases F:k<n
  .have g:k<l.length:=by rw[X];omega
   obtain⟨b,off,rfl,C,x0⟩:=Row.at_ ((y.o.below f)) (by unfold an;rw[lM];exact g);have hx:(an l)[k]'(by unfold an;rw[lM];exact g) = .int .i64 (l[k]:Nat):=by unfold an;rw[getElem_map]
   rw[hx]at x0;have D:=kp (T.o.lt _ (gM g));have q:((l[k]):Int)∉(l.take k).map Int.ofNat:=λZ=>by
    obtain⟨y,Y,e⟩:=mem_map.1 Z;have W:y=l[k]:=r_
    subst W;obtain⟨j,u,R⟩:=getElem_of_mem Y;rw[getElem_take]at R;rw[length_take]at u;exact pairwise_iff_getElem.1 (nodup_iff_pairwise_ne.1 T.o.nd) j k o_ g o_ R
   obtain⟨cv,N,d,_⟩:=m.lookup_int lL underlying276 underlying3 (nM _) (keyOf_int_mk underlying3 (show(Lit.int _ (l[k]:Nat)).wf=true from WalkArith.wf_i64 (by have:=D.o;omega)));rw[L0 q]at d;have I:cv=0:=r_
   subst I;have H:=kp (show jZ ((l.take _).map Int.ofNat)=(jZ _).put (.int _ (l[k]:Nat)) _ by rw[take_succ_eq_append_getElem,map_append];exact Cs _ _);have U:=kp (λw'(C:Below _ w w')=>mK (M.o.under C) D);have u:=kp (λw'(C:Below _ w w')=>F4 (M.o.under C) D);have E:Kp ((Lit.int _ (l[k]:Nat)).wf=true):=WalkArith.wf_i64 (by have:=D.o;omega);clear q hx d C;generalize l[k]=z at*;clear g;have G:=kp (show k<maxLen by unfold maxLen;omega);have B:=kp m;clear m;go_wp2_with fail;apply(U _ f).mono;rintro e w'⟨rfl,rfl⟩;go_wp2_with fail;apply(u _ f).mono;rintro e w'⟨rfl,rfl⟩;go_wp2_with(at_mapUpdate;apply wpList_mapUpdate_own _ rfl _ _ _ _ rfl 3 3 lL underlying276 _ _ k _ rfl B G (.int _ _) (.int _ 1) _ rfl rfl (keyOf_int_mk underlying3 E) _ _ (plainElem_int underlying3 d_);intro u p r;have s:=kp p;have v:=kp r;clear p r);refine⟨⟨k+1,o_,o_,?_,f.o.grown v f.o.size (λj e=>r_)⟩,o_⟩;rw[H];exact s
  .obtain rfl:k=n:=o_
   go_wp2;go_ret;trivial
end Tc
end Go.Proofs.YtibjlpkpljnicaaGreatDoor
