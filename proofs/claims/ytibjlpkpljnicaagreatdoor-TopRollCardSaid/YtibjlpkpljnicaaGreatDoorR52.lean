/- Parts. -/
import Derived.Test.YtibjlpkpljnicaaGreatDoorR40
set_option maxRecDepth 100000
set_option maxHeartbeats 8000000
set_option linter.all false
namespace Go.Proofs.YtibjlpkpljnicaaGreatDoor
namespace Tc
open List Go.RowKit Base
def a8C{w:World}{B g n c:Nat}{l:List Gp}(h:w.ownsRow B 80 11 (.slice (some ⟨g,0,none⟩) n c) n (l.flatMap mV))(k:Nat)(hk:k<l.length):w.cell? ⟨g,k*11,none⟩=some (.slice l[k].A l[k].names.length l[k].c)/\w.cell? ⟨g,k*11+1,none⟩=some (.int .i64 l[k].ag.c)/\w.cell? ⟨g,k*11+2,none⟩=some (.int .i64 l[k].ag.s0)/\w.cell? ⟨g,k*11+3,none⟩=some (.int .i64 l[k].ag.n0)/\w.cell? ⟨g,k*11+4,none⟩=some (.int .i64 l[k].ag.x0)/\w.cell? ⟨g,k*11+5,none⟩=some (.int .i64 l[k].ag.s1)/\w.cell? ⟨g,k*11+6,none⟩=some (.int .i64 l[k].ag.n1)/\w.cell? ⟨g,k*11+7,none⟩=some (.int .i64 l[k].ag.x1)/\w.cell? ⟨g,k*11+8,none⟩=some (.int .i64 l[k].ag.s2)/\w.cell? ⟨g,k*11+9,none⟩=some (.int .i64 l[k].ag.n2)/\w.cell? ⟨g,k*11+10,none⟩=some (.int .i64 l[k].ag.x2):=by
 obtain⟨b,off,e,p,d⟩:=Row.rec Jn (dF h) o_ k hk;injection e with e;injection e with m f _;subst m f;simp at d;exact⟨d 0 _ rfl,d 1 _ rfl,d 2 _ rfl,d 3 _ rfl,d 4 _ rfl,d 5 _ rfl,d 6 _ rfl,d 7 _ rfl,d 8 _ rfl,d 9 _ rfl,d _ _ rfl⟩
def adB{w:World}{B g n c:Nat}{l:List Gp}(h:w.ownsRow B 80 11 (.slice (some ⟨g,0,none⟩) n c) n (l.flatMap mV))(i:Nat):w.frozen? ⟨g,i,none⟩=false:=by
 obtain⟨h0,_⟩|⟨d,cap,cur,e,_,b,_⟩:=h.2
 .grind
 .injection e with e;injection e with e;injection e with e;subst e;exact aa.free b i
def WE.set{w:World}{B g c:Nat}{X Y:List Gp}{y z:Gp}(h:WE w B (some ⟨g,0,none⟩) c (X++y::Y))(f:jM w B (.slice (some ⟨g,0,none⟩) (X++y::Y).length c) z):WE (aH w g (X.length*11) (mV z)) B (some ⟨g,0,none⟩) c (X++z::Y):=by
 have d:(X++z::Y).length=(X++y::Y).length:=s_
 have h1:=adC (mV z) _ (X.length*11) w h.own (by rw[a2f,Jn];simp;omega);rw[Jn,aaW,take_left,show X.length*11+11=(X.length+1)*11 by omega,a7B,show X++y::Y=(X++[y])++Y by simp,show X.length+1=(X++[y]).length by simp,drop_left]at h1;refine⟨r_,λx hx=> ?_⟩;have b:∀x,jM w B (.slice (some ⟨g,0,none⟩) _ c) x->jM (aH w g (X.length*11) (mV z)) B (.slice _ (X++z::Y).length c) x:=λx hx=>by
  rw[d];refine⟨?_,λk hk=> ?_⟩
  .rw[nH];exact fO hx.row λk hk=>ee (λe=>(hx.off k hk).2.2 (by rw[e];rfl)) _ _ _
  .rw[nH];exact hx.off k hk
 obtain hx|hx:=mem_append.1 hx
 .exact b x (h.each x (mem_append_left _ hx))
 .obtain rfl|hx:=mem_cons.1 hx
  .grind
  .exact b x (h.each x (mem_append_right _ (mem_cons_of_mem _ hx)))
def adE(A:OA)(l:List Gp)(c:Nat)(g:Gp)(B:Nat)(w:World)(ho:WE w B A c l)(hg:jM w B (.slice A l.length c) g)(hB:B<=w.heap.size)(hn:l.length<=100)(UP:∀x∈l,x.names.length=g.names.length)(VH:g.names.length<=1000)(X1:∀x∈l,x.names=g.names->cB x.ag/\nK x.ag g.ag)(q2:cB g.ag) :
 Calls Tryz.prog 51 #[.slice A l.length c,.agg (YA g)] w (a2T B A c l g w):=by
 have TX:=kp (show∀X y Y w',l=X++y::Y->y.names=g.names->WE _ B A c _->aq (λk=>(Value.slice A _ c).ownBlock=some k) w _->a2T B A c l g w (.returned (.slice A l.length c)) w' fromλX y Y w' h1 h2 h3 h4=>⟨A,c,_,r_,h3,h4,.inl ⟨X,y,Y,h1,h2,rfl⟩⟩);have Xc:=kp (show∀X Y A' c' w',(∀x∈l,x.names≠g.names)->l=X++Y->(∀x∈X,Xz _ _=true)->(∀y,Y.head? = some y->Xz _ _=false)->WE _ B A' _ _->aq (λk=>(Value.slice A _ c).ownBlock=some k) w _->a2T B A c l g w (.returned (.slice A' (l.length+1) c')) w' fromλX Y A' c' w' h0 h1 h2 h3 h4 h5=>⟨_,c',_,r_,h4,h5,.inr ⟨h0,X,Y,h1,h2,h3,rfl⟩⟩);have Ho:=kp (show∀W,Below _ w W->WE W B A c l fromλW u=>ho.below u);have Hg:=kp (show∀W,Below _ w W->jM W B _ g fromλW u=>hg.below u);have y9:=kp (λx hx W u=>agl x g W (((ho.below u).each x hx).row) ((hg.below u).row) r_);have y4:=kp (λx hx W u=>agk x g W (((ho.below u).each x hx).row) ((hg.below u).row) r_ (UP x hx));have V:=kp (λx hx e W=>Oa _ _ W (X1 x hx e).1 q2 (X1 x hx e).2);have HB:=kp hB;have Tr:=kp (λx hx k hk=>((ho.each x hx).off k hk).2.1);have g9:=kp hg;clear ho hg UP VH X1 q2 hB;obtain⟨n,D⟩:∃n,l.length=n:=⟨_,rfl⟩;rw[D]at hn TX Xc Hg g9⊢;have HN:=kp D;clear D;generalize a2T B A c l g w=Q at*;obtain⟨i0,S8,Sa,S9,Sb⟩:=info_parts BJ;have G:=kp ((ah _ w).alloc (ae _) (.cells #[.slice g.A g.names.length g.c,.int .i64 g.ag.c,.int .i64 g.ag.s0,.int .i64 g.ag.n0,.int .i64 g.ag.x0,.int .i64 g.ag.s1,.int .i64 g.ag.n1,.int .i64 g.ag.x1,.int .i64 g.ag.s2,.int .i64 g.ag.n2,.int .i64 g.ag.x2] 80));have YW:=kp (aa.new w 80 #[.slice g.A g.names.length g.c,.int .i64 g.ag.c,.int .i64 g.ag.s0,.int .i64 g.ag.n0,.int .i64 g.ag.x0,.int .i64 g.ag.s1,.int .i64 g.ag.n1,.int .i64 g.ag.x1,.int .i64 g.ag.s2,.int .i64 g.ag.n2,.int .i64 g.ag.x2]);unfold YA;go_enter Tryz.func51,Tryz.ntmps51;go_wp2;obtain⟨L,D⟩:∃L,w.alloc (.cells #[.slice g.A g.names.length g.c,.int .i64 g.ag.c,.int .i64 g.ag.s0,.int .i64 g.ag.n0,.int .i64 g.ag.x0,.int .i64 g.ag.s1,.int .i64 g.ag.n1,.int .i64 g.ag.x1,.int .i64 g.ag.s2,.int .i64 g.ag.n2,.int .i64 g.ag.x2] 80)=L:=⟨_,rfl⟩;rw[D]at G YW⊢;clear D;go_loopw [13] (λD wr=>∃k:Nat,k<=n/\D = .int .i64 (k:Nat)/\Kp (∀i x,i<k->l[i]? = some x->x.names≠g.names)/\Below L.heap.size L wr) (λD _=>n-(intOf D).toNat)
 case atStart=>exact⟨0,o_,rfl,kp (λi x h=>o_),bR⟩
 case round=>
  obtain⟨k,hk,rfl,RI,hb⟩:=hrel;obtain⟨wo,rfl⟩:∃wo,wo=wr:=⟨_,rfl⟩;have Hb:=kp hb;have D:=ay G hb;clear hb;by_cases eK:k<n
  .have G:k<l.length:=by rw[HN];omega
   obtain⟨f,rfl,O⟩:=a8B (Ho _ D).own o_;have UX:=a8C (Ho _ D).own k G;have O:=kp (gM G);have k8:=kp (show l=l.take k++(l[k]'G)::l.drop (k+1)from o_);have s3:=kp (gE G);have r4:=kp (y9 _ O);have y0:=kp (V _ O);generalize(l[k]'G)=x at*;obtain⟨p0,p1,p2,Z,O,p5,T,p7,R,U,V⟩:=UX;obtain⟨d0,d1,d2,d3,d4,d5,d6,d7,d8,d9,TC⟩:=aa.dk (YW.o.under Hb);have D7:0<=(k:Int):=o_
   have E1:k<(n:Int):=o_
   have Hd:=kp (show Below wo.heap.size wo _ from bR.drew);have VR:=kp (D.o.drew);clear G;by_cases hx:x.names=g.names;rotate_left
   .have hV:=decide_eq_false hx;have Su:=kp (show∀i y,i<k+1->l[i]? = some y->y.names≠g.names fromλi y hi hy=>by
     by_cases e:i=k
     .subst e;rw[s3]at hy;grind
     .exact RI.out i y o_ hy)
    clear hx;go_upto_region 4 with fail;refine wp_region_noPanic ?_;refine br (t:=99) (S:=(λw'=>(w'.cell? _=some _/\w'.cell? _=some _/\w'.cell? _=some _/\w'.cell? _=some _/\w'.cell? _=some _/\w'.cell? _=some _/\w'.cell? _=some _/\w'.cell? _=some _/\w'.cell? _=some _/\w'.cell? _=some _/\w'.cell? _=some _)/\(w'.cell? _=some _/\w'.cell? _=some _/\w'.cell? _=some _/\w'.cell? _=some _/\w'.cell? _=some _/\w'.cell? _=some _/\w'.cell? _=some _/\w'.cell? _=some _/\w'.cell? _=some _/\w'.cell? _=some _/\w'.cell? _=some _))) k_ ⟨⟨p0,p1,p2,Z,O,p5,T,p7,R,U,V⟩,⟨d0,d1,d2,d3,d4,d5,d6,d7,d8,d9,TC⟩⟩ (λb=> ?_);generalize wo.drew=wd at*;refine tD 0 1 2 3 b ?_;refine tk 4 b ?_;refine oT 5 (λK hK=> ?_);go_simp;refine(r4 _ VR).mono ?_;rintro e r⟨rfl,d⟩;rw[hV];try go_simp
    refine oK hK ?_ (λm=> ?_)
    .exact⟨⟨al d b.1.1,al d b.1.2.1,al d b.1.2.2.1,al d b.1.2.2.2.1,al d b.1.2.2.2.2.1,al d b.1.2.2.2.2.2.1,al d b.1.2.2.2.2.2.2.1,al d b.1.2.2.2.2.2.2.2.1,al d b.1.2.2.2.2.2.2.2.2.1,al d b.1.2.2.2.2.2.2.2.2.2.1,al d b.1.2.2.2.2.2.2.2.2.2.2⟩,⟨al d b.2.1,al d b.2.2.1,al d b.2.2.2.1,al d b.2.2.2.2.1,al d b.2.2.2.2.2.1,al d b.2.2.2.2.2.2.1,al d b.2.2.2.2.2.2.2.1,al d b.2.2.2.2.2.2.2.2.1,al d b.2.2.2.2.2.2.2.2.2.1,al d b.2.2.2.2.2.2.2.2.2.2.1,al d b.2.2.2.2.2.2.2.2.2.2.2⟩⟩
    clear hK K b;have b:=m;clear m;refine bQ k_ ?_ _;try clear b
    refine NoPanic.normal ?_;have UE:=kp (Hb.o.trans ((Hd.o.trans (d.mono Hd.o.size)).mono Hb.o.size));clear p0 p1 p2 Z O p5 T p7 R U V d0 d1 d2 d3 d4 d5 d6 d7 d8 d9 TC d;go_wp2;exact⟨⟨_,o_,o_,Su,UE⟩,o_⟩
   .have hV:=decide_eq_true hx;have r3:=kp (y0 hx);have j2:=kp (show∀W,Below _ w W->W.cell? ⟨f,k*11,none⟩=some (.slice x.A x.names.length x.c)/\W.cell? ⟨f,k*11+1,none⟩=some (.int .i64 x.ag.c)/\W.cell? ⟨f,k*11+2,none⟩=some (.int .i64 x.ag.s0)/\W.cell? ⟨f,k*11+3,none⟩=some (.int .i64 x.ag.n0)/\W.cell? ⟨f,k*11+4,none⟩=some (.int .i64 x.ag.x0)/\W.cell? ⟨f,k*11+5,none⟩=some (.int .i64 x.ag.s1)/\W.cell? ⟨f,k*11+6,none⟩=some (.int .i64 x.ag.n1)/\W.cell? ⟨f,k*11+7,none⟩=some (.int .i64 x.ag.x1)/\W.cell? ⟨f,k*11+8,none⟩=some (.int .i64 x.ag.s2)/\W.cell? ⟨f,k*11+9,none⟩=some (.int .i64 x.ag.n2)/\W.cell? ⟨f,k*11+10,none⟩=some (.int .i64 x.ag.x2)fromλW u=>by
     have G:k<l.length:=by rw[HN];omega
     have h:=a8C (Ho W u).own k G;have e:l[k]=x:=by
      have:=s3.o;rw[gE G]at this;grind
     grind)
    have q9:=kp (show∀G,Below _ w G->Q _ _ fromλG h4=>by
     have e:(l.take k).length=k:=by rw[length_take,HN];omega
     have h5:=WE.set (by rw[<-k8];exact Ho G h4) (z:=⟨g.A,g.names,g.c,(aR x.ag g.ag).getD az⟩) (by
      rw[<-k8,HN];exact⟨(Hg G h4).row,(Hg G h4).off⟩)
     rw[e]at h5;exact TX _ x _ _ k8 hx h5 (yY (p:=λk=>(Value.slice _ n c).ownBlock=some k) rfl _ _ _ (aq.below h4)))
    generalize(aR _ _).getD _=j at*;clear hx;go_upto_region 4 with fail;refine wp_region_noPanic ?_;refine br (t:=99) (S:=(λw'=>(w'.cell? _=some _/\w'.cell? _=some _/\w'.cell? _=some _/\w'.cell? _=some _/\w'.cell? _=some _/\w'.cell? _=some _/\w'.cell? _=some _/\w'.cell? _=some _/\w'.cell? _=some _/\w'.cell? _=some _/\w'.cell? _=some _)/\(w'.cell? _=some _/\w'.cell? _=some _/\w'.cell? _=some _/\w'.cell? _=some _/\w'.cell? _=some _/\w'.cell? _=some _/\w'.cell? _=some _/\w'.cell? _=some _/\w'.cell? _=some _/\w'.cell? _=some _/\w'.cell? _=some _))) k_ ⟨⟨p0,p1,p2,Z,O,p5,T,p7,R,U,V⟩,⟨d0,d1,d2,d3,d4,d5,d6,d7,d8,d9,TC⟩⟩ (λb=> ?_);generalize wo.drew=wd at*;refine tD 0 1 2 3 b ?_;refine tk 4 b ?_;refine oT 5 (λK hK=> ?_);go_simp;refine(r4 _ VR).mono ?_;rintro e r⟨rfl,d⟩;rw[hV];try go_simp
    refine oK hK ?_ (λm=> ?_)
    .exact⟨⟨al d b.1.1,al d b.1.2.1,al d b.1.2.2.1,al d b.1.2.2.2.1,al d b.1.2.2.2.2.1,al d b.1.2.2.2.2.2.1,al d b.1.2.2.2.2.2.2.1,al d b.1.2.2.2.2.2.2.2.1,al d b.1.2.2.2.2.2.2.2.2.1,al d b.1.2.2.2.2.2.2.2.2.2.1,al d b.1.2.2.2.2.2.2.2.2.2.2⟩,⟨al d b.2.1,al d b.2.2.1,al d b.2.2.2.1,al d b.2.2.2.2.1,al d b.2.2.2.2.2.1,al d b.2.2.2.2.2.2.1,al d b.2.2.2.2.2.2.2.1,al d b.2.2.2.2.2.2.2.2.1,al d b.2.2.2.2.2.2.2.2.2.1,al d b.2.2.2.2.2.2.2.2.2.2.1,al d b.2.2.2.2.2.2.2.2.2.2.2⟩⟩
    clear hK K b;have b:=m;clear m;refine bQ k_ ?_ _;try clear b
    refine NoPanic.normal ?_;have E:=ay Hd d;clear p0 p1 p2 Z O p5 T p7 R U V d0 d1 d2 d3 d4 d5 d6 d7 d8 d9 TC d;have u:=kp (D.o.trans (E.o.mono D.o.size));obtain⟨p0,p1,p2,Z,O,p5,T,p7,R,U,V⟩:=j2 r u;obtain⟨d0,d1,d2,d3,d4,d5,d6,d7,d8,d9,TC⟩:=aa.dk (YW.o.under (Hb.o.trans (E.o.mono Hb.o.size)));have b7:=((Ho r u).own.lt f rfl).2;have VV:=(YW.o.under (Hb.o.trans (E.o.mono Hb.o.size))).lt;go_wp2;refine wp_region_noPanic ?_;refine br (t:=99) (S:=(λw'=>(w'.cell? _=some _/\w'.cell? _=some _/\w'.cell? _=some _/\w'.cell? _=some _/\w'.cell? _=some _/\w'.cell? _=some _/\w'.cell? _=some _/\w'.cell? _=some _/\w'.cell? _=some _/\w'.cell? _=some _)/\(w'.cell? _=some _/\w'.cell? _=some _/\w'.cell? _=some _/\w'.cell? _=some _/\w'.cell? _=some _/\w'.cell? _=some _/\w'.cell? _=some _/\w'.cell? _=some _/\w'.cell? _=some _/\w'.cell? _=some _))) k_ ⟨⟨p1,p2,Z,O,p5,T,p7,R,U,V⟩,⟨d1,d2,d3,d4,d5,d6,d7,d8,d9,TC⟩⟩ (λb=> ?_);refine tD 0 1 2 3 b ?_;refine eR 4 5 6 b ?_;refine Ri (i:=7) (j:=11) (o:= ?os7) (o':= ?os11) k_ ?as7 ?as11 d_ d_ (λK hK=> ?bs7) (λK hK=> ?bs11)
    case as7=>(simp only[getElem?_toArray,getElem?_cons_succ,getElem?_cons_zero];rfl)
    case as11=>(simp only[getElem?_toArray,getElem?_cons_succ,getElem?_cons_zero];rfl)
    case bs7=>
     go_simp;refine(r3 _).mono ?_;rintro e w3⟨rfl,RM⟩;have u:=kp RM;clear RM;refine oK hK ?_ λm=>?_
     .exact⟨eh (u.o.block f b7) b.1,eh (u.o.block _ VV) b.2⟩
     replace b:=m;clear hK K m;have i2:=bh b7 u.o.size;have L:=bh VV u.o.size;refine eR 8 9 10 b ?_;refine oT 11 λK hK=>?_;go_simp;refine oK hK ?_ λm=>?_
     .exact⟨eh (Below.heap_alloc _ _ _ i2) b.1,eh (Below.heap_alloc _ _ _ L) b.2⟩
     replace b:=m;clear hK K m;have hx:_/\_:=⟨eh (u.o.block f b7) ⟨p1,p2,Z,O,p5,T,p7,R,U,V⟩,eh (u.o.block _ VV) ⟨d1,d2,d3,d4,d5,d6,d7,d8,d9,TC⟩⟩;refine oT 12 λK hK=>?_;go_simp;refine oK hK ?_ λm=>?_
     .exact⟨eh (Below.heap_alloc _ _ _ i2) hx.1,eh (Below.heap_alloc _ _ _ L) hx.2⟩
     replace b:=m;clear hK K m;refine tk 13 b ?_;refine bQ k_ ?_ _;try clear b
     refine NoPanic.normal ?_;have RV:=(ah _ w3).alloc (ae _) (.cells #[.int .i64 j.c,.int .i64 j.s0,.int .i64 j.n0,.int .i64 j.x0,.int .i64 j.s1,.int .i64 j.n1,.int .i64 j.x1,.int .i64 j.s2,.int .i64 j.n2,.int .i64 j.x2] 78);have YU:=kp (aa.new w3 78 #[.int .i64 j.c,.int .i64 j.s0,.int .i64 j.n0,.int .i64 j.x0,.int .i64 j.s1,.int .i64 j.n1,.int .i64 j.x1,.int .i64 j.s2,.int .i64 j.n2,.int .i64 j.x2]);have N:=kp (((ah r.heap.size r).drew.trans u).trans (RV.mono (u.o.size)));clear RV u i2 L hx;generalize w3.heap.size=L at*;generalize w3.alloc _=G at*;clear b7 VV p0 p1 p2 Z O p5 T p7 R U V d0 d1 d2 d3 d4 d5 d6 d7 d8 d9 TC;have e5:=kp (YW.o.under (Hb.o.trans ((E.o.trans (N.o.mono E.o.size)).mono Hb.o.size)));have WJ:=kp (D.o.trans ((E.o.trans (N.o.mono E.o.size)).mono D.o.size));have Xo:G.cell? _=some (.slice _ _ _):=e5.o.cell 0;have jD:=(aa.cr (YU)).1;have v:=kp (adB (Ho G WJ).own);have YT:=v (k*11);have Wm:=v (k*11+1);have Y6:=v (k*11+2);have WT:=v (k*11+3);have z2:=v (k*11+4);have w5:=v (k*11+5);have v0:=v (k*11+6);have y1:=v (k*11+7);have y2:=v (k*11+8);have x4:=v (k*11+9);have x3:=v (k*11+10);obtain⟨p0,p1,p2,Z,O,p5,T,p7,R,U,V⟩:=j2 G WJ;have Hf:=kp (q9 G WJ);simp only[aH,Nat.add_assoc,Nat.reduceAdd]at Hf;clear e5 YU v;go_wp2;exact Hf
    case bs11=>
     go_simp;refine oK hK ?_ λm=>?_
     .exact⟨eh (Below.heap_alloc _ _ _ b7) b.1,eh (Below.heap_alloc _ _ _ VV) b.2⟩
     replace b:=m;clear hK K m;have Sh:r.drew.heap.size=r.heap.size:=rfl;have VD:=kp ((ah _ r.drew).alloc (ae _) (.cells (aA az) 78));have U6:=kp (aa.new r.drew 78 (aA az));have o1:f<(r.drew.alloc (.cells (aA az) 78)).heap.size:=o_
     have n5:w.heap.size<(r.drew.alloc (.cells (aA az) 78)).heap.size:=o_
     refine oT 7 λK hK=>?_;go_simp;refine(r3 _).mono ?_;rintro e w3⟨rfl,RM⟩;have u:=kp (show Below (r.drew.alloc (.cells (aA az) 78)).heap.size (r.drew.alloc (.cells (aA az) 78)) _ from RM);clear RM;refine oK hK ?_ λm=>?_
     .exact⟨eh (u.o.block f o1) b.1,eh (u.o.block _ n5) b.2⟩
     replace b:=m;clear hK K m;have SA:=kp (U6.o.under u);have q7:=kp (VD.o.trans (u.o.mono s_));have hx:=b;have n6:f≠r.drew.heap.size:=o_
     have n3:w.heap.size≠r.drew.heap.size:=o_
     obtain⟨yD,fD⟩:=aa.cr SA;rw[Sh]at yD fD;refine eR 8 9 10 b ?_;refine oT 12 λK hK=>?_;go_simp;refine oK hK ?_ λm=>?_
     .exact⟨eh (uB n6) hx.1,eh (uB n3) hx.2⟩
     replace b:=m;clear hK K m;refine tk 13 b ?_;refine bQ k_ ?_ _;try clear b
     refine NoPanic.normal ?_;have RV:=Below.kJ (.int .i64 j.c) (.int .i64 j.s0) (.int .i64 j.n0) (.int .i64 j.x0) (.int .i64 j.s1) (.int .i64 j.n1) (.int .i64 j.x1) (.int .i64 j.s2) (.int .i64 j.n2) (.int .i64 j.x2) q7 (ae _);have YU:=kp (show aa _ r.heap.size _ _ from aa.kJ (.int .i64 j.c) (.int .i64 j.s0) (.int .i64 j.n0) (.int .i64 j.x0) (.int .i64 j.s1) (.int .i64 j.n1) (.int .i64 j.x1) (.int .i64 j.s2) (.int .i64 j.n2) (.int .i64 j.x2) SA);have N:=kp ((ah r.heap.size r).drew.trans RV);clear RV u o1 n5 VD U6 SA q7 hx n6 n3 yD fD;rw[Sh]at N;clear Sh;generalize t3:r.heap.size=L at YU N⊢;generalize((((((((((w3.setCell _ _).setCell _ _).setCell _ _).setCell _ _).setCell _ _).setCell _ _).setCell _ _).setCell _ _).setCell _ _).setCell _ _)=G at*;rw[<-t3]at N;clear t3 b7 VV p0 p1 p2 Z O p5 T p7 R U V d0 d1 d2 d3 d4 d5 d6 d7 d8 d9 TC;have e5:=kp (YW.o.under (Hb.o.trans ((E.o.trans (N.o.mono E.o.size)).mono Hb.o.size)));have WJ:=kp (D.o.trans ((E.o.trans (N.o.mono E.o.size)).mono D.o.size));have Xo:G.cell? _=some (.slice _ _ _):=e5.o.cell 0;have jD:=(aa.cr (YU)).1;have v:=kp (adB (Ho G WJ).own);have YT:=v (k*11);have Wm:=v (k*11+1);have Y6:=v (k*11+2);have WT:=v (k*11+3);have z2:=v (k*11+4);have w5:=v (k*11+5);have v0:=v (k*11+6);have y1:=v (k*11+7);have y2:=v (k*11+8);have x4:=v (k*11+9);have x3:=v (k*11+10);obtain⟨p0,p1,p2,Z,O,p5,T,p7,R,U,V⟩:=j2 G WJ;have Hf:=kp (q9 G WJ);simp only[aH,Nat.add_assoc,Nat.reduceAdd]at Hf;clear e5 YU v;go_wp2;exact Hf
  .have u:k=n:=o_
   subst k;have V0:=kp (λx hx=>by
    obtain⟨i,hi⟩:=getElem?_of_mem hx;exact RI.out i x (by rw[<-HN];grind) hi)
   have Hr:=kp (show∀W,Below _ _ W->Row W _ A _ fromλW hb=>(Ho W (D.o.trans (hb.mono D.o.size))).at_.row);have r9:=kp (a7C l);have s7:=kp (show(l.flatMap _).length=n*11 from by rw[a2f,HN]);have Ta:=kp (a5F wo 80 11);have u:=kp ((ah _ wo).alloc (ae _) (.cells #[] 80));go_upto_region 10 with(at_builtin;refine nL rfl _ _ _ rfl _ 80 _ _ _ _ Tryz.underlying47 S8 Sa S9 Sb rfl d_ (wo.alloc (.cells _ 80)) (.slice _ 0 0) 0 _ rfl Ta A n c _ _ rfl s7 (Hr _ u) r9 o_ d_ o_ ?_;intro G G L o2;obtain⟨I,M,h7⟩:=cI L;subst h7;have Wj:=kp L;have SX:=kp (o2.ew u Ta o_ o_);clear L o2);have L:=kp (show G.ownsRow wo.heap.size 80 11 (.slice I n M) n (l.flatMap mV)from by have h:=Wj.o;grind);simp only[Nat.zero_add]at*;have o4:=(tY L).1;have w2:=kp (YW.o.under (Hb.o.trans (SX.o.mono Hb.o.size)));have u6:=kp (D.o.trans (SX.o.mono D.o.size));clear Wj Ta u Hr r9 s7;go_wp2;go_loopw [9] (λv9 wx=>∃X Y:List Gp,v9 = .int .i64 (X.length:Nat)/\Kp (l=X++Y)/\Kp (∀x∈X,Xz x.names g.names=true)/\Below G.heap.size G wx) (λv9 _=>n+1-(intOf v9).toNat)
   case atStart=>exact⟨[],l,rfl,kp s_,kp (λx hx=>r_),bR⟩
   case round=>
    obtain⟨X,Y,rfl,F,hX,u⟩:=hrel;obtain⟨wx,rfl⟩:∃wx,wx=wr:=⟨_,rfl⟩;have S0:=kp u;have Yg:=ay u6 u;have j1:=bu w2 u;have c5:=kp (bS L u);have r2:=kp (λj h=>(c5.o.lt j h).2);have D:=congrArg length F.out;rw[HN,aE]at D;have k3:=kp D;clear u D;obtain⟨d0,d1,d2,d3,d4,d5,d6,d7,d8,d9,TC⟩:=aa.dk j1;have Hd:=kp (show Below wx.heap.size wx _ from bR.drew);have VR:=kp (Yg.o.drew);obtain _|⟨y,Y'⟩:=Y
    .have u:=kp (show X.length=n from by have:=k3.o;grind);have l0:=kp (show∀y,([]:List Gp).head? = some y->Xz y.names g.names=false fromλy h=>r_);generalize Zo:X.length=q at*;have b3:=kp Zo;have WQ:=Nat.le_of_eq u;have G:decide ((q:Int)<(n:Int))=false:=decide_eq_false (by have:=u.o;omega);have D:decide (q<n)=false:=decide_eq_false (by have:=u.o;omega);clear d0 d1 d2 d3 d4 d5 d6 d7 d8 d9 TC Zo;go_upto_region 11 with fail;refine wp_region_noPanic ?_;refine br (t:=99) (S:=(λ_=>True)) k_ trivial (λb=> ?_);refine tD 0 1 2 3 b ?_;refine tk 4 b ?_;refine sk 5 b ?_;refine sk 6 b ?_;refine sk 7 b ?_;refine sk 8 b ?_;refine sk 9 b ?_;refine sk 10 b ?_;refine tk 11 b ?_;refine bQ k_ ?_ _;try clear b
     refine NoPanic.normal ?_;have E:=Hd;generalize wx.drew=u at*;clear G D;have e2:=kp (Yg.o.trans (E.o.mono Yg.o.size));have a2:=kp (bS c5 E);have k9:=kp (j1.o.under E);have HY:=kp (show l.drop q=([])/\l.take q=X from⟨by rw[F.out,<-b3,drop_left],by rw[F.out,<-b3,take_left]⟩);have x8:=λW=>aaX I n M q WQ o4 W;have v1:=λW=>aaY I n M q o_ W;have Ts:=kp (a5F u 80 11);have C:=kp ((ah _ u).alloc (ae _) (.cells #[] 80));have e7:=kp (show∀W,Below _ u W->Row W _ _ ((([])).flatMap _)fromλW hb=>by
      rw[<-HY.1];exact((aaV a2 q WQ).below hb).more hb.size)
     have e9:=kp (show((([])).flatMap _).length=(n-q)*11 from by rw[a2f,<-HY.1,length_drop,HN]);have f1:=kp (a7C (([])));have l7:=kp (λA' c' w' h1 h2=>Xc X _ A' c' w' V0 F.out hX.out l0 h1 h2);have b0:=kp (aF SX.o.size (aF S0.o.size E.o.size));generalize([]:List Gp)=G at*;go_upto_region 14 with(at_builtin;refine nL rfl _ _ _ rfl _ 80 _ _ _ _ Tryz.underlying47 S8 Sa S9 Sb rfl d_ (u.alloc (.cells _ 80)) (.slice _ 0 0) 0 _ rfl Ts _ _ _ _ _ rfl e9 (e7 _ C) f1 o_ d_ o_ ?_;intro v8 w8 VB Zb;obtain⟨A8,c8,h8⟩:=cI VB;subst h8;have Xf:=kp VB;have Tw:=kp (Zb.ew C Ts o_ o_);clear VB Zb);have i4:=kp (show w8.ownsRow u.heap.size 80 11 (.slice A8 (n-q) c8) (n-q) (G.flatMap mV)from by have h:=Xf.o;grind);simp only[Nat.zero_add]at*;have e8:=kp (k9.o.under Tw);have j3:=kp (by
      have h:=aaU (bS a2 Tw) WQ;rw[HY.2]at h;omega)
     clear HY Xf a2 Ts C e7;have eD:=aa.dk e8;have L:=kp (show Below w8.heap.size w8 _ from bR.drew);have f3:=kp ((e2.o.trans (Tw.o.mono e2.o.size)).drew);have a6:=kp (bS j3 L);have e6:=kp (bS i4 L);have b1:=aF Tw.o.size L.o.size;have b2:=(e8.o.under L).lt;have H:=(YW.o.under Hb).lt;have k0:(Value.slice I q M).ownBlock≠some w.heap.size:=λe=>by have:=(a6.o.lt _ e).1;omega
     refine wp_region_noPanic ?_;refine br (t:=99) (S:=(λw'=>w'.cell? _=some _/\w'.cell? _=some _/\w'.cell? _=some _/\w'.cell? _=some _/\w'.cell? _=some _/\w'.cell? _=some _/\w'.cell? _=some _/\w'.cell? _=some _/\w'.cell? _=some _/\w'.cell? _=some _/\w'.cell? _=some _)) k_ eD (λb=> ?_);generalize w8.drew=we at*;refine tD 0 1 2 3 b ?_;refine tk 6 b ?_;have i9:=b;refine oT 4 (λK hK=> ?_);go_simp;refine oK hK ?_ (λm=> ?_)
     .exact a0X (Below.heap_alloc _ _ _ b2) b
     clear hK K b;clear m;refine oT 5 (λK hK=> ?_);refine rS rfl _ _ _ rfl _ 80 _ _ _ _ Tryz.underlying47 S8 Sa S9 Sb rfl d_ _ (YA g) rfl (a7A g) (.slice I q M) q _ rfl a6 rfl o_ d_ (aF b0 b1) ?_;intro v9 w9 a4 c6;obtain⟨A9,c9,h9⟩:=cI a4;subst h9;have Yb:=kp a4;have s:=kp c6;clear a4 c6;go_simp;refine oK hK ?_ (λm=> ?_)
     .exact a0X (s.o.bI b2 k0) i9
     clear hK K;have b:=m;clear m;have UM:=kp (s.o.ew f3 a6 o_ o_);have i3:=bh b2 s.o.grown.size;have i8:=kp ((fO (dF e6) λj hj=>by
      have h1:u.heap.size<=j/\j<we.heap.size:=by
       obtain⟨_,off,e⟩:=hj;exact e6.o.lt j (by rw[e];rfl)
      exact s.o.bI o_ λe=>by
       have h2:=r2 j (by rcases I with _|_<;>exact e);have h3:=E.o.size;omega).more s.o.grown.size)
     have i6:(Value.slice _ _ _).ownBlock≠some w.heap.size:=λe=>by have:=(Yb.o.lt _ e).1;omega
     refine oT 7 (λK hK=> ?_);refine a5I rfl _ _ _ rfl _ 80 _ _ _ _ Tryz.underlying47 S8 Sa S9 Sb rfl d_ _ (.slice _ _ _) _ _ rfl Yb _ _ _ _ _ rfl e9 i8 f1 o_ d_ (aF b0 (aF b1 s.o.grown.size)) ?_;intro WC wf a7 e0;obtain⟨c4,V9,i1⟩:=cI a7;subst i1;have e3:=kp a7;have e4:=kp e0;clear a7 e0;go_simp;refine oK hK ?_ (λm=> ?_)
     .exact a0X (e4.o.bI i3 i6) b
     clear hK K b;have b:=m;clear m;refine tk 8 b ?_;refine bQ k_ ?_ _;try clear b
     refine NoPanic.normal ?_;have Ti:q+1+(n-q)=n+1:=o_
     have J:=kp (e4.o.ew UM Yb o_ o_);have RZ:(X++g::G).length=n+1:=by have:=congrArg length F.out;simp at this⊢;rw[HN]at this;omega
     have V5:=kp (show WE _ B _ _ _ from⟨by
      have h:=dZ e3 (aF HB o_);rw[Ti]at h;rw[RZ,flatMap_append,flatMap_cons];simpa using h,λx hx=>by
      rw[RZ];have h1:jM wf B (.slice A n c) x:=by
       obtain hx|hx:=mem_append.1 hx
       .have:=(Ho _ J).each x (by rw[F.out];exact mem_append_left _ hx);rw[HN]at this;omega
       .obtain rfl|hx:=mem_cons.1 hx
        .exact Hg _ J
        .have:=(Ho _ J).each x (by rw[F.out];exact mem_append_right _ hx);rw[HN]at this;omega
      have h2:∀k,cE _ _ k->k<w.heap.size:=λk hk=>by
       obtain hx|hx:=mem_append.1 hx
       .exact(Tr x (by rw[F.out];exact mem_append_left _ hx) k hk)
       .obtain rfl|hx:=mem_cons.1 hx
        .exact(g9.o.off k hk).2.1
        .exact(Tr x (by rw[F.out];exact mem_append_right _ hx) k hk)
      exact⟨h1.row,λk hk=>⟨(h1.off k hk).1,(h1.off k hk).2.1,λe=>by
       have h3:=(e3.o.lt k (by rw[<-Ti]at e;omega)).1;have h4:=h2 k hk;omega⟩⟩⟩)
     have Hf:=kp (l7 _ _ _ V5 (aq.below J));go_wp2;exact Hf
    .have Uh:X.length<l.length:=by rw[F.out];simp
     have s5:l[X.length]'Uh=y:=by simp[F.out]
     have y5:=kp (show y∈l from r_);obtain⟨D,rfl,_⟩:=a8B c5 (by have:=k3.o;grind);have UX:=a8C c5 _ Uh;rw[s5]at UX;obtain⟨p0,p1,p2,Z,O,p5,T,p7,R,U,V⟩:=UX;have q8:=kp (y4 y y5);have Xo:0<=(X.length:Int):=o_
     have X6:X.length<(n:Int):=by have:=k3.o;simp at this;omega
     have WQ:X.length<=n:=o_
     clear Uh s5;cases hV:Xz y.names g.names with
     |true=>
      have Su:=kp (show∀x∈X++[y],Xz _ _=true fromλx hx=>by
       obtain hx|hx:=mem_append.1 hx
       .exact hX.out x hx
       grind)
      have y7:=kp (show l=(X++[y])++Y' from by rw[F.out];simp);generalize Zo:X.length=q at*;have b3:=kp Zo;clear Zo;go_upto_region 11 with fail;refine wp_region_noPanic ?_;refine br (t:=99) (S:=(λw'=>(w'.cell? _=some _/\w'.cell? _=some _/\w'.cell? _=some _/\w'.cell? _=some _/\w'.cell? _=some _/\w'.cell? _=some _/\w'.cell? _=some _/\w'.cell? _=some _/\w'.cell? _=some _/\w'.cell? _=some _/\w'.cell? _=some _)/\(w'.cell? _=some _/\w'.cell? _=some _/\w'.cell? _=some _/\w'.cell? _=some _/\w'.cell? _=some _/\w'.cell? _=some _/\w'.cell? _=some _/\w'.cell? _=some _/\w'.cell? _=some _/\w'.cell? _=some _/\w'.cell? _=some _))) k_ ⟨⟨p0,p1,p2,Z,O,p5,T,p7,R,U,V⟩,⟨d0,d1,d2,d3,d4,d5,d6,d7,d8,d9,TC⟩⟩ (λb=> ?_);generalize wx.drew=wd at*;refine tD 0 1 2 3 b ?_;refine tD 4 5 6 7 b ?_;refine tB 8 9 b ?_;refine oT 10 (λK hK=> ?_);go_simp;refine(q8 _ VR).mono ?_;rintro e r⟨rfl,d⟩;rw[hV];try go_simp
      refine oK hK ?_ (λm=> ?_)
      .exact⟨⟨al d b.1.1,al d b.1.2.1,al d b.1.2.2.1,al d b.1.2.2.2.1,al d b.1.2.2.2.2.1,al d b.1.2.2.2.2.2.1,al d b.1.2.2.2.2.2.2.1,al d b.1.2.2.2.2.2.2.2.1,al d b.1.2.2.2.2.2.2.2.2.1,al d b.1.2.2.2.2.2.2.2.2.2.1,al d b.1.2.2.2.2.2.2.2.2.2.2⟩,⟨al d b.2.1,al d b.2.2.1,al d b.2.2.2.1,al d b.2.2.2.2.1,al d b.2.2.2.2.2.1,al d b.2.2.2.2.2.2.1,al d b.2.2.2.2.2.2.2.1,al d b.2.2.2.2.2.2.2.2.1,al d b.2.2.2.2.2.2.2.2.2.1,al d b.2.2.2.2.2.2.2.2.2.2.1,al d b.2.2.2.2.2.2.2.2.2.2.2⟩⟩
      clear hK K b;have b:=m;clear m;refine tk 11 b ?_;refine bQ k_ ?_ _;try clear b
      refine NoPanic.normal ?_;have UE:=kp (S0.o.trans ((Hd.o.trans (d.mono Hd.o.size)).mono S0.o.size));clear p0 p1 p2 Z O p5 T p7 R U V d0 d1 d2 d3 d4 d5 d6 d7 d8 d9 TC d;go_wp2;exact⟨⟨_,_,by rw[aE,b3];go_num,y7,Su,UE⟩,o_⟩
     |false=>
     have l0:=kp (show∀z,(y::Y').head? = some z->Xz z.names g.names=false fromλz h=>r_)
     generalize Zo:X.length=q at*;have b3:=kp Zo;clear Zo;go_upto_region 11 with fail;refine wp_region_noPanic ?_;refine br (t:=99) (S:=(λw'=>(w'.cell? _=some _/\w'.cell? _=some _/\w'.cell? _=some _/\w'.cell? _=some _/\w'.cell? _=some _/\w'.cell? _=some _/\w'.cell? _=some _/\w'.cell? _=some _/\w'.cell? _=some _/\w'.cell? _=some _/\w'.cell? _=some _)/\(w'.cell? _=some _/\w'.cell? _=some _/\w'.cell? _=some _/\w'.cell? _=some _/\w'.cell? _=some _/\w'.cell? _=some _/\w'.cell? _=some _/\w'.cell? _=some _/\w'.cell? _=some _/\w'.cell? _=some _/\w'.cell? _=some _))) k_ ⟨⟨p0,p1,p2,Z,O,p5,T,p7,R,U,V⟩,⟨d0,d1,d2,d3,d4,d5,d6,d7,d8,d9,TC⟩⟩ (λb=> ?_);generalize wx.drew=wd at*;refine tD 0 1 2 3 b ?_;refine tD 4 5 6 7 b ?_;refine tB 8 9 b ?_;refine oT 10 (λK hK=> ?_);go_simp;refine(q8 _ VR).mono ?_;rintro e r⟨rfl,d⟩;rw[hV];try go_simp
     refine oK hK ?_ (λm=> ?_)
     .exact⟨⟨al d b.1.1,al d b.1.2.1,al d b.1.2.2.1,al d b.1.2.2.2.1,al d b.1.2.2.2.2.1,al d b.1.2.2.2.2.2.1,al d b.1.2.2.2.2.2.2.1,al d b.1.2.2.2.2.2.2.2.1,al d b.1.2.2.2.2.2.2.2.2.1,al d b.1.2.2.2.2.2.2.2.2.2.1,al d b.1.2.2.2.2.2.2.2.2.2.2⟩,⟨al d b.2.1,al d b.2.2.1,al d b.2.2.2.1,al d b.2.2.2.2.1,al d b.2.2.2.2.2.1,al d b.2.2.2.2.2.2.1,al d b.2.2.2.2.2.2.2.1,al d b.2.2.2.2.2.2.2.2.1,al d b.2.2.2.2.2.2.2.2.2.1,al d b.2.2.2.2.2.2.2.2.2.2.1,al d b.2.2.2.2.2.2.2.2.2.2.2⟩⟩
     clear hK K b;have b:=m;clear m;refine tk 11 b ?_;refine bQ k_ ?_ _;try clear b
     refine NoPanic.normal ?_;have E:=ay Hd d;clear p0 p1 p2 Z O p5 T p7 R U V d0 d1 d2 d3 d4 d5 d6 d7 d8 d9 TC d hV Xo X6;generalize r=u at*;generalize some (⟨D,0,_⟩:Addr)=I at*;have e2:=kp (Yg.o.trans (E.o.mono Yg.o.size));have a2:=kp (bS c5 E);have k9:=kp (j1.o.under E);have HY:=kp (show l.drop q=(y::Y')/\l.take q=X from⟨by rw[F.out,<-b3,drop_left],by rw[F.out,<-b3,take_left]⟩);have x8:=λW=>aaX I n M q WQ o4 W;have v1:=λW=>aaY I n M q o_ W;have Ts:=kp (a5F u 80 11);have C:=kp ((ah _ u).alloc (ae _) (.cells #[] 80));have e7:=kp (show∀W,Below _ u W->Row W _ _ (((y::Y')).flatMap _)fromλW hb=>by
      rw[<-HY.1];exact((aaV a2 q WQ).below hb).more hb.size)
     have e9:=kp (show(((y::Y')).flatMap _).length=(n-q)*11 from by rw[a2f,<-HY.1,length_drop,HN]);have f1:=kp (a7C ((y::Y')));have l7:=kp (λA' c' w' h1 h2=>Xc X _ A' c' w' V0 F.out hX.out l0 h1 h2);have b0:=kp (aF SX.o.size (aF S0.o.size E.o.size));generalize(y::Y')=G at*;go_upto_region 14 with(at_builtin;refine nL rfl _ _ _ rfl _ 80 _ _ _ _ Tryz.underlying47 S8 Sa S9 Sb rfl d_ (u.alloc (.cells _ 80)) (.slice _ 0 0) 0 _ rfl Ts _ _ _ _ _ rfl e9 (e7 _ C) f1 o_ d_ o_ ?_;intro v8 w8 VB Zb;obtain⟨A8,c8,h8⟩:=cI VB;subst h8;have Xf:=kp VB;have Tw:=kp (Zb.ew C Ts o_ o_);clear VB Zb);have i4:=kp (show w8.ownsRow u.heap.size 80 11 (.slice A8 (n-q) c8) (n-q) (G.flatMap mV)from by have h:=Xf.o;grind);simp only[Nat.zero_add]at*;have e8:=kp (k9.o.under Tw);have j3:=kp (by
      have h:=aaU (bS a2 Tw) WQ;rw[HY.2]at h;omega)
     clear HY Xf a2 Ts C e7;have eD:=aa.dk e8;have L:=kp (show Below w8.heap.size w8 _ from bR.drew);have f3:=kp ((e2.o.trans (Tw.o.mono e2.o.size)).drew);have a6:=kp (bS j3 L);have e6:=kp (bS i4 L);have b1:=aF Tw.o.size L.o.size;have b2:=(e8.o.under L).lt;have H:=(YW.o.under Hb).lt;have k0:(Value.slice I q M).ownBlock≠some w.heap.size:=λe=>by have:=(a6.o.lt _ e).1;omega
     refine wp_region_noPanic ?_;refine br (t:=99) (S:=(λw'=>w'.cell? _=some _/\w'.cell? _=some _/\w'.cell? _=some _/\w'.cell? _=some _/\w'.cell? _=some _/\w'.cell? _=some _/\w'.cell? _=some _/\w'.cell? _=some _/\w'.cell? _=some _/\w'.cell? _=some _/\w'.cell? _=some _)) k_ eD (λb=> ?_);generalize w8.drew=we at*;refine tD 0 1 2 3 b ?_;refine tk 6 b ?_;have i9:=b;refine oT 4 (λK hK=> ?_);go_simp;refine oK hK ?_ (λm=> ?_)
     .exact a0X (Below.heap_alloc _ _ _ b2) b
     clear hK K b;clear m;refine oT 5 (λK hK=> ?_);refine rS rfl _ _ _ rfl _ 80 _ _ _ _ Tryz.underlying47 S8 Sa S9 Sb rfl d_ _ (YA g) rfl (a7A g) (.slice I q M) q _ rfl a6 rfl o_ d_ (aF b0 b1) ?_;intro v9 w9 a4 c6;obtain⟨A9,c9,h9⟩:=cI a4;subst h9;have Yb:=kp a4;have s:=kp c6;clear a4 c6;go_simp;refine oK hK ?_ (λm=> ?_)
     .exact a0X (s.o.bI b2 k0) i9
     clear hK K;have b:=m;clear m;have UM:=kp (s.o.ew f3 a6 o_ o_);have i3:=bh b2 s.o.grown.size;have i8:=kp ((fO (dF e6) λj hj=>by
      have h1:u.heap.size<=j/\j<we.heap.size:=by
       obtain⟨_,off,e⟩:=hj;exact e6.o.lt j (by rw[e];rfl)
      exact s.o.bI o_ λe=>by
       have h2:=r2 j (by rcases I with _|_<;>exact e);have h3:=E.o.size;omega).more s.o.grown.size)
     have i6:(Value.slice _ _ _).ownBlock≠some w.heap.size:=λe=>by have:=(Yb.o.lt _ e).1;omega
     refine oT 7 (λK hK=> ?_);refine a5I rfl _ _ _ rfl _ 80 _ _ _ _ Tryz.underlying47 S8 Sa S9 Sb rfl d_ _ (.slice _ _ _) _ _ rfl Yb _ _ _ _ _ rfl e9 i8 f1 o_ d_ (aF b0 (aF b1 s.o.grown.size)) ?_;intro WC wf a7 e0;obtain⟨c4,V9,i1⟩:=cI a7;subst i1;have e3:=kp a7;have e4:=kp e0;clear a7 e0;go_simp;refine oK hK ?_ (λm=> ?_)
     .exact a0X (e4.o.bI i3 i6) b
     clear hK K b;have b:=m;clear m;refine tk 8 b ?_;refine bQ k_ ?_ _;try clear b
     refine NoPanic.normal ?_;have Ti:q+1+(n-q)=n+1:=o_
     have J:=kp (e4.o.ew UM Yb o_ o_);have RZ:(X++g::G).length=n+1:=by have:=congrArg length F.out;simp at this⊢;rw[HN]at this;omega
     have V5:=kp (show WE _ B _ _ _ from⟨by
      have h:=dZ e3 (aF HB o_);rw[Ti]at h;rw[RZ,flatMap_append,flatMap_cons];simpa using h,λx hx=>by
      rw[RZ];have h1:jM wf B (.slice A n c) x:=by
       obtain hx|hx:=mem_append.1 hx
       .have:=(Ho _ J).each x (by rw[F.out];exact mem_append_left _ hx);rw[HN]at this;omega
       .obtain rfl|hx:=mem_cons.1 hx
        .exact Hg _ J
        .have:=(Ho _ J).each x (by rw[F.out];exact mem_append_right _ hx);rw[HN]at this;omega
      have h2:∀k,cE _ _ k->k<w.heap.size:=λk hk=>by
       obtain hx|hx:=mem_append.1 hx
       .exact(Tr x (by rw[F.out];exact mem_append_left _ hx) k hk)
       .obtain rfl|hx:=mem_cons.1 hx
        .exact(g9.o.off k hk).2.1
        .exact(Tr x (by rw[F.out];exact mem_append_right _ hx) k hk)
      exact⟨h1.row,λk hk=>⟨(h1.off k hk).1,(h1.off k hk).2.1,λe=>by
       have h3:=(e3.o.lt k (by rw[<-Ti]at e;omega)).1;have h4:=h2 k hk;omega⟩⟩⟩)
     have Hf:=kp (l7 _ _ _ V5 (aq.below J));go_wp2;exact Hf
def aiD(L:List (au×Pk))(i:Nat)(hi:i<L.length):qw (L.take (i+1))=qw (L.take i)+if L[i].2.g=true then 1 else 0:=by
 unfold qw;rw[take_succ_eq_append_getElem hi,filter_append,aE];grind
def ssA(A:OA)(k c:Nat):OA:=if c=k then A else A.map λa=>a.add k
def aii:(Tryz.prog.info? 9).map (·.size)=some 1:=by kernel_rfl
def aiz(A:OA)(n c k:Nat)(h:k<=c)(W:World):(Instr.slice 23 (.slice A n c) none (some (.int .i64 (k:Nat))) none).run Tryz.prog W = .ok (.slice A k c) W:=by
 have h1:k<=(c:Int):=o_
 simp[go_sem,h]
def adK(A:OA)(n c k:Nat)(h:k<=n)(d:n<=c)(W:World):(Instr.slice 23 (.slice A n c) (some (.int .i64 (k:Nat))) none none).run Tryz.prog W = .ok (.slice (ssA A k c) (n-k) (c-k)) W:=by
 have h1:k<=(n:Int):=o_
 obtain⟨i,b,e⟩:=Option.map_eq_some_iff.1 aii;unfold ssA;by_cases hk:c=k
 .subst hk;cases A<;>simp[go_sem,h1,e]
 .cases A<;>simp[go_sem,h1,e]
def adJ{w:World}{B n c:Nat}{A:OA}{l:LV}(h:Row w B A l)(q:l.length=n)(k:Nat)(hk:k<=n)(p:n<=c):Row w B (ssA A k c) (l.drop k):=by
 obtain h|⟨b,off,e,m,g⟩:=h
 .subst h;exact .inl s_
 .subst e;unfold ssA;by_cases d:c=k
  .left;grind
  .rw[if_neg d];refine .inr ⟨b,off+k,?_,m,λi v f=> ?_⟩
   .simp[Addr.add];try(intro h0;omega)
   grind
def a8G:∀(L:List (au×Pk))(n:Nat),(∀x∈L,da x.1)->∀x∈TL L n,da x.1
 | [],_,_,x,hx=>by rw[TL]at hx;cases hx
 |(d,p)::L,0,h,x,hx=>by
  rw[TL]at hx;obtain rfl|hx:=mem_cons.1 hx
  .exact h (d,p) mem_cons_self
  grind
 |y::L,n+1,h,x,hx=>by
  rw[TL]at hx;obtain rfl|hx:=mem_cons.1 hx
  .grind
  .exact a8G L n (λz b=>h z (mem_cons_of_mem _ b)) x hx
def adM{mm k:Nat}{P U:List (LN×Ag)}(h:ev P U)(d:∀x∈P,GA mm k x.2)(b:k*P.length<=5000000):∀u∈U,fP (k*P.length) u.2:=λu c=>by
 obtain⟨r,h1,h2,_⟩:=yS (λx=>x == u.1) P d b;rw[h.sum u c]at h1;grind
def a7y(L:List (au×Pk))(n:Nat)(d:List (LN×Ag))(w:World)(e:Ending)(w':World):Prop:=
 ∃(b:OA)(c:Nat)(out:List Gp)(U:List (LN×Ag)),e = .returned (.slice b out.length c)/\iR w' w'.heap.size b out/\out.map hZ=U.map (nmd (TL L n))/\ev (d.map λx=>(Vw L n x.1,x.2)) U/\Below w.heap.size w w'
def ail(s:aN)(T:List Pk)(L:List (au×Pk))(n:Nat)(A Aq:OA)(c cq:Nat)(l:List Gp)(V:List (LN×Ag)){mm:Nat}(w:World)(hs:cQ w w.heap.size s)(ho:cJ s)(hq:fH w w.heap.size Aq T)(hk:iT s T)(hL:∀(i:Nat) d p,s.af[i]? = some d->T[i]? = some p->L[i]? = some (d,p))(l0:L.length=T.length)
 (hn:n<s.af.length)(hg:∀p,T[n]? = some p->p.g=true)(hl:iR w w.heap.size A l)(SJ:l.length<=40)(w6:∀x∈l,x.names.length<=x.c)(hr:l.map hZ=V.map (nmd L))(Vu:∀x∈V,fS L x.1)(Us:∀x∈V,GA mm 40 x.2) :
 Calls Tryz.prog 20 #[.agg (aG s),.agg #[.slice Aq T.length cq],.int .i64 (n:Nat),.slice A l.length c] w (a7y L n V w):=by
 have fa:=(ah _ w).alloc (ae _) (.cells (aG s) 25);have O:=kp (aa.new w 25 (aG s));obtain⟨u,Sf⟩:∃u,w.alloc (.cells (aG s) 25)=u:=⟨_,rfl⟩;rw[Sf]at fa O;have ng:=fa.alloc fa.size (.cells #[.slice Aq T.length cq] 29);have Ty:=kp (aa.new u 29 #[.slice Aq T.length cq]);have SN:=kp (O.o.alloc (.cells #[.slice Aq T.length cq] 29));obtain⟨J,Sr⟩:∃J,u.alloc (.cells #[.slice Aq T.length cq] 29)=J:=⟨_,rfl⟩;rw[Sr]at ng Ty SN;have xD:=kp ng;have D:=hk.len;have Vl:=ho.n2;have Hl:=kp (λW(F:Below _ w W)=>(hl.below F).more F.size);have u:=kp (λW(F:Below _ w W)=>(hs.below F).more F.size);have Yy:=kp (λW(F:Below _ w W)=>(hq.below F).more F.size);have HR:=kp (show∀G c' out U w',iR _ _ G _->out.map hZ=U.map (nmd (TL L n))->ev _ U->Below _ w _->a7y L n V w _ w' fromλG c' out U w' h1 h2 u h4=>⟨G,c',out,U,rfl,h1,h2,u,h4⟩);generalize a7y L n V w=Q at*;have s3:n<L.length:=o_
 have d4:n<T.length:=o_
 have v3:L[n]=(s.af[n],T[n]):=by
  have:=hL n _ _ (gE hn) (gE d4);rw[gE s3]at this;grind
 have Hg:=kp (hg _ (gE d4));have i6:=kp (gE s3);rw[v3]at i6;have j3:=kp (ho.af n hn);have Yd:=kp (hk.ok n _ _ (gE hn) (gE d4));have i8:=kp (show∀x∈L,da x.1/\gz x.1 x.2 fromλx hx=>by
  obtain⟨i,hi⟩:=getElem?_of_mem hx;have h1:i<s.af.length:=r_
  have h2:i<T.length:=o_
  have u:=hL i _ _ (gE h1) (gE h2);rw[hi]at u;injection u with u;rw[u];exact⟨ho.af i h1,hk.ok i _ _ (gE h1) (gE h2)⟩)
 have HW:=kp (show∀i(hi:i<T.length),qw (L.take (i+1))=qw (L.take i)+if T[i].g=true then 1 else 0 fromλi hi=>by
  have h1:i<L.length:=o_
  have h2:=aiD L i h1;have u:=hL i _ _ (gE (by rw[<-D];exact hi)) (gE hi);grind)
 have Yu:=kp (λW(F:Below _ w W)=>(((hs.below F).more F.size).af _ (gM hn)));have P4:=kp (λW(F:Below _ w W)=>((hs.below F).more F.size).aj n hn);have I2:=kp (λW(F:Below _ w W)=>((hq.below F).more F.size).pick n d4);have R6:=kp w6;have Hr:=kp hr;have y6:=kp Vu;have o2:=kp Us;obtain⟨u,G⟩:∃u,T.length=u:=⟨_,rfl⟩;have Sd:s.af.length=u:=o_
 obtain⟨m,hm⟩:∃m,l.length=m:=⟨_,rfl⟩;have Xx:=kp G;have Hm:=kp hm;unfold aG at O SN Sf⊢;rw[Sd]at O SN Sf Vl;rw[G]at Ty Sr;rw[Sd,G,hm];rw[hm]at SJ;have UA:n<u:=o_
 generalize(s.af[n]'hn)=d at*;generalize(T[n]'d4)=p at*;clear v3 s3 d4 fa ng hs ho hq hk hL hl G Sd D hg hr Vu Us hm O w6;obtain⟨D,D,D,D,D⟩:=info_parts BJ;obtain⟨j0,k6,h5,j1,k8⟩:=info_parts BL;go_enter Tryz.func20,Tryz.ntmps20;go_wp2;clear Sf Sr;go_loopw [9,10] (λG D wr=>∃i:Nat,i<=n/\D = .int .i64 (i:Nat)/\G = .int .i64 (qw (L.take i):Nat)/\Below J.heap.size J wr) (λ_ D _=>n-(intOf D).toNat)
 case atStart=>exact⟨0,o_,rfl,o_,bR⟩
 case round=>
  obtain⟨i,hi,rfl,rfl,F⟩:=hrel;obtain⟨wo,rfl⟩:∃wo,wo=wr:=⟨_,rfl⟩;have G:=kp F;have Hw:=ay xD F;obtain⟨q0,_⟩:=(Ty.o.under F).one;clear F;by_cases eK:i<n
  .have O:i<T.length:=by rw[Xx];omega
   obtain⟨bq,oq,rfl,_,_,_,_,_,_,p5,_⟩:=(Yy _ Hw).pick i O;have D:=HW i O;generalize(T[i]'O).g=g at*;have k0:0<=(i:Int):=o_
   have k1:i<(u:Int):=o_
   cases g with
   |false=>
    have O:=kp (show qw (L.take i)=qw (L.take (i+1))from r_);clear D;go_wp2;exact⟨⟨i+1,o_,o_,by rw[O],G⟩,o_⟩
   |true=>
    have O:=kp (show qw (L.take i)+1=qw (L.take (i+1))from r_);have Z4:qw (L.take i)<=100:=by
     have h1:qw _<=(L.take i).length:=length_filter_le _ _;rw[length_take]at h1;omega
    clear D;generalize qw _=wi at*;go_wp2;exact⟨⟨i+1,o_,o_,by rw[<-O];go_num,G⟩,o_⟩
  .have D:i=n:=o_
   subst i;obtain⟨a,ha⟩:∃a,qw (L.take n)=a:=⟨_,rfl⟩;have O:=kp (show∀x∈V,cX (TL L n) (Vw L n x.1)=(cX L x.1).take a++(if p.bG+1<d.ai.length then [eI d (p.bG+1) (((d.ai[p.bG]?).map λt=>lh t (x.1.getD a 0)).getD 0)]else [])++(cX L x.1).drop (a+1)/\a<x.1.length/\(cX L x.1)[a]? = some (eI d p.bG (x.1.getD a 0))/\x.1.getD a 0<(bE d p.bG).length fromλx hx=>by
    rw[<-ha];exact a8I L n _ d p i6 Hg (y6 x hx))
   have D:a<=16:=by
    have h1:qw _<=(L.take n).length:=length_filter_le _ _;rw[length_take]at h1;omega
   rw[ha];have TO:=Yd.o.bG;obtain⟨bq,oq,rfl,_,_,_,_,_,_,p5,p6⟩:=I2 _ Hw;obtain⟨bd,D,y0,_,_,d1⟩:=P4 _ Hw;obtain⟨y1,_,_,_⟩:=(SN.o.under G).two;rw[y0]at y1;obtain⟨f,z2⟩:∃b,p.bG=b:=⟨_,rfl⟩;rw[z2]at p6 TO O;obtain⟨dl,D⟩:∃dl,d.ai.length=dl:=⟨_,rfl⟩;rw[D]at d1 TO O;have Vn:=kp D;have k0:0<=(n:Int):=o_
   have k1:n<(u:Int):=o_
   have z3:=kp (show V.length=m from by have:=congrArg length Hr;rw[lM,lM,Hm]at this;omega);clear ha eK hi z2 D;go_wp2;clear p5 p6 d1 y1 q0 y0 k0 k1;go_loopw [13,46] (λD u wr=>∃(k:Nat)(out:List Gp)(A3:OA)(c3:Nat)(U:List (LN×Ag)),k<=m/\u = .int .i64 (k:Nat)/\D = .slice A3 out.length c3/\Kp (WE wr J.heap.size A3 c3 out)/\Kp (out.length<=k)/\Kp (out.map hZ=U.map (nmd (TL L n)))/\Kp (ev ((V.take k).map λx=>(Vw L n x.1,x.2)) U)/\Kp (∀x∈U,fS (TL L n) x.1)/\Below J.heap.size J wr) (λ_ u _=>m-(intOf u).toNat)
   case atStart=>exact⟨0,_,_,0,_,o_,rfl,rfl,kp (WE.nil _ _),kp o_,kp rfl,kp ⟨.nil,λkey=>s_,λx hx=>r_⟩,kp (λx hx=>r_),G⟩
   case round=>
    obtain⟨k,out,A3,c3,U,hk,rfl,rfl,V5,i5,a7,f2,d3,F⟩:=hrel;obtain⟨D,rfl⟩:∃D,D=wr:=⟨_,rfl⟩;have S0:=kp F;have Yg:=ay xD F;clear F;by_cases z6:k<m
    .have G:k<l.length:=by rw[Hm];omega
     have u:k<V.length:=by rw[z3];omega
     have q5:=kp (show hZ l[k]=nmd L V[k]from by
      have:=congrArg (λl=>l[k]?) Hr;simp only[getElem?_map,gE G,gE u]at this;grind)
     have T1:=kp (gM G);have t0:=kp (gM u);have A0:=kp (show((V.take _).map λx=>(Vw L n _,x.2))=((V.take k).map λx=>(Vw L n x.1,x.2))++[(Vw L n _,(V[k]'u).2)]from by rw[take_succ_eq_append_getElem u,map_append];rfl);obtain⟨b,off,rfl,_,x0,x1,x2,x3,x4,x5,x6,x7,x8,x9,M1⟩:=(Hl D Yg).cells k G;have m6:=kp (λW F=>(Hl W F).each _ (gM G));have q4:=kp (O _ t0);have m4:=kp (y6 _ t0);have c7:=kp (o2 _ t0);have q8:=kp (R6 _ T1);generalize(l[k]'G)=x at*;generalize(V[k]'u)=y at*;have p9:x.names=cX L _:=congrArg Prod.fst q5;obtain⟨nk,O⟩:∃nk,x.names.length=nk:=⟨_,rfl⟩;have Vd:nk=y.1.length:=by rw[<-O,p9,a2C L _ m4]
     have VF:=kp O;have p3:=kp p9;have n8:a<nk:=by rw[Vd];exact q4.2.1
     have Z9:nk<=16:=by rw[Vd];have:=m4.o.len;have:=l0;have:=Xx.o;omega
     rw[O]at x0;have k0:0<=(k:Int):=o_
     have k1:k<(m:Int):=o_
     clear p9 O Vd G u;have SA:=kp (aa.new D 80 #[.slice x.A nk x.c,.int .i64 x.ag.c,.int .i64 x.ag.s0,.int .i64 x.ag.n0,.int .i64 x.ag.x0,.int .i64 x.ag.s1,.int .i64 x.ag.n1,.int .i64 x.ag.x1,.int .i64 x.ag.s2,.int .i64 x.ag.n2,.int .i64 x.ag.x2]);have RN:=kp ((ah _ D).alloc (ae _) (.cells #[.slice x.A nk x.c,.int .i64 x.ag.c,.int .i64 x.ag.s0,.int .i64 x.ag.n0,.int .i64 x.ag.x0,.int .i64 x.ag.s1,.int .i64 x.ag.n1,.int .i64 x.ag.x1,.int .i64 x.ag.s2,.int .i64 x.ag.n2,.int .i64 x.ag.x2] 80));go_upto_region 13 with fail;clear x0 x1 x2 x3 x4 x5 x6 x7 x8 x9 M1;generalize u:D.alloc _=I at*;clear u;have m7:=SA.o.lt;have Yf:=kp (Yg.o.trans (RN.o.mono Yg.o.size));have TP:=λW=>aiz x.A nk x.c a (by have:=q8.o;rw[VF]at this;omega) W;have O:=kp (a5F I 9 1);have G:=kp ((ah _ I).alloc (ae _) (.cells #[] 9));have e0:(I.alloc (.cells #[] 9)).cell? _=some (.slice _ _ _):=(SA.o.alloc _).cell 0;have z5:=kp (show Row _ _ _ ((x.names.take a).map _)from by
      rw[List.map_take];exact(m6 _ (Yf.o.trans (G.o.mono Yf.o.size))).take a)
     have B6:=kp (show((x.names.take a).map Value.string).length=a*1 from by rw[lM,length_take,VF];omega);have r2:=kp (show∀(B:List _),∀u∈B.map Value.string,u.oneCell'=true fromλB u hu=>by
      obtain⟨z,_,rfl⟩:=mem_map.1 hu;rfl)
     go_upto_region 14 with(at_builtin;refine nL rfl _ _ _ rfl _ 9 _ _ 1 _ Tryz.underlying23 k6 h5 j1 k8 rfl d_ (I.alloc (.cells _ 9)) (.slice _ 0 0) 0 _ rfl O _ a _ _ _ rfl B6 z5 (r2 _) o_ d_ o_ ?_;intro v4 w4 VX y8;obtain⟨A4,c4,h4⟩:=bY VX;subst h4;have UU:=kp VX;have RP:=kp (y8.ew G O o_ o_);clear VX y8);have f9:=kp (show(x.names.take a).length=a from by rw[length_take,VF];omega);have t4:=kp (show w4.ownsRow _ 9 1 _ a ((x.names.take a).map _)from by have h:=UU.o;rw[nil_append]at h;simpa using h);have B4:=kp (show∀(P:Nat->Prop),P a->P (x.names.take a).length fromλP h=>by rw[f9];omega);simp only[Nat.zero_add]at*;clear e0 UU O G z5 B6 TP;obtain⟨key,Vt⟩:∃key,y.1.getD a 0=key:=⟨_,rfl⟩;have O:=q4.o;rw[Vt]at O;obtain⟨n1,n2,G,n4⟩:=O;have WY:=kp n1;have S5:=kp G;have B0:=kp n4;clear n1 n2 G n4 Vt q4;have G:=j3.o.n2;rw[Vn]at G;by_cases Zu:f+1<dl
     .have M:f<d.ai.length:=by rw[Vn];omega
      have O:f+1<d.ai.length:=by rw[Vn];omega
      have i1:bE d f=(d.ai[f]'M).ar:=by unfold bE;rw[gE M];rfl
      have L1:=kp (show∀W,Below _ w W->Row W _ _ ((bE d f).map _)fromλW F=>by rw[i1];exact((Yu W F).ai _ (gM M)).ar);have u0:=kp (show(bE d f).length=(d.ai[f]'M).ar.length from o_);have H5:=kp (λW F=>(Yu W F).cU f M);have G:=kp (Yf.o.trans (RP.o.mono Yf.o.size));obtain⟨bt,ot,q3,_,_,t1,_⟩:=H5 _ G;rw[<-u0]at t1;obtain⟨tl,SB⟩:∃tl,(bE d f).length=tl:=⟨_,rfl⟩;rw[SB]at t1;have o7:=kp SB;have S7:key<tl:=by rw[<-SB];exact B0
      rw[q3];have k2:0<=(f:Int):=o_
      have k3:f<(dl:Int):=o_
      have e8:f+1<(dl:Int):=o_
      have G:tl<=1000000:=by
       have h1:=(j3.o.ai f M).n2;rw[<-SB,i1];omega
      have S2:=kp (show∃G,eI d (f+1) (((d.ai[f]?).map λt=>lh t key).getD 0)=G from⟨_,rfl⟩);clear SB i1;generalize(d.ai[f]'M).At=tA at*;generalize(d.ai[f]'M).ct=tc at*;go_wp2;clear t1 k2 k3 e8;obtain⟨G,y4⟩:=S2.o;have y2:=kp y4;clear y4;go_loopw [16,67] (λZz q9 E=>∃(j:Nat)(B:List ByteArray)(A5:OA)(c5:Nat),j<=tl/\q9 = .int .i64 (j:Nat)/\Zz = .slice A5 B.length c5/\Kp (B=x.names.take a++if key<j then [G]else [])/\Kp (E.ownsRow I.heap.size 9 1 (.slice A5 B.length c5) B.length (B.map .string))/\Below I.heap.size I E) (λ_ q9 _=>tl-(intOf q9).toNat)
      case atStart=>exact⟨0,_,_,_,o_,rfl,B4 (λt=>Value.slice _ a _=Value.slice _ t _) rfl,kp s_,kp (B4 (λt=>w4.ownsRow _ 9 1 (.slice _ t _) t _) t4),RP⟩
      case round=>
       obtain⟨j,B,A5,c5,hj,rfl,rfl,TV,e9,WK⟩:=hrel;obtain⟨E,rfl⟩:∃E,E=wr:=⟨_,rfl⟩;have UE:=kp WK;have d2:=ay Yf WK;have Vf:=bu SA WK;clear WK;by_cases z9:j<tl
       .have f6:j<(bE d f).length:=by rw[o7];omega
        obtain⟨bs,os,K4,_,z0⟩:=Row.at_ (L1 E d2) (by rw[lM];omega);obtain⟨bk,ok,S1,_,nz⟩:=Row.at_ (m6 E d2) (by rw[lM,VF.o];exact n8);rw[getElem_map]at z0 nz;have w7:x.names[a]'(by rw[VF];omega)=eI d f key:=by
         have h1:=S5.o;rw[<-p3,gE (by rw[VF.o];exact n8)]at h1;injection h1
        rw[w7]at nz;rw[<-a8y]at z0;have i4:=(ady j3 f6 B0).2;have e0:E.cell? _=some (.slice _ _ _):=Vf.o.cell 0;rw[S1]at e0;rw[K4];have k2:0<=(j:Int):=o_
        have k3:j<(tl:Int):=o_
        have k4:0<=(a:Int):=o_
        have k5:a<(nk:Int):=o_
        generalize eI d f _=nm at*;generalize eI d f j=zm at*;clear w7 f6;by_cases X3:j=key
        .have hc:(zm.toList == nm.toList)=true:=by rw[i4];exact decide_eq_true X3
         clear i4;have g8:=sa j3 O;subst X3;have d6:j<(d.ai[f]'M).up.length:=by rw[g8.1,<-u0,o7];omega
         have j2:=(g8.2 _ (gM d6));have t3:(d.ai[f]'M).up[j]=(lh (d.ai[f]'M) j:Nat):=by
          unfold lh;rw[gE d6];exact(Int.toNat_of_nonneg o_).symm
         rw[t3]at j2;obtain⟨b3,o3,m5,_,_,_,u2⟩:=(Yu E d2).cU f M;obtain⟨b4,o4,i9,RV,_,u1,_⟩:=(Yu E d2).cU _ O;obtain⟨b5,o5,s4,T8,_⟩:=(Yu w bR).cU f M;have D0:bt<w.heap.size:=by
          rw[q3]at s4;injection s4 with h;injection h with h1 _ _;omega
         clear s4 T8;rw[q3]at m5 i9;injection m5 with m5;injection m5 with e3 e4 _;injection i9 with i9;injection i9 with e5 e6 _;subst e3 e4 e5 e6;obtain⟨bu,ou,r6,W8,v0⟩:=Row.at_ ((Yu E d2).ai _ (gM M)).up (by rw[lM];omega);rw[getElem_map,t3]at v0;have T2:bu<w.heap.size:=by
          obtain⟨b6,o6,h6,h7,_⟩:=Row.at_ ((Yu w bR).ai _ (gM M)).up (by rw[lM];omega);rw[r6]at h6;injection h6 with h;injection h with h1 _ _;omega
         have i2:lh (d.ai[f]'M) j<(d.ai[f+1]'O).ar.length:=o_
         obtain⟨bn,A7,r5,aiY,m0⟩:=Row.at_ ((Yu E d2).ai _ (gM O)).ar (by rw[lM];omega);rw[getElem_map]at m0;have I6:bn<w.heap.size:=by
          obtain⟨b6,o6,h6,h7,_⟩:=Row.at_ ((Yu w bR).ai _ (gM O)).ar (by rw[lM];omega);rw[r5]at h6;injection h6 with h;injection h with h1 _ _;omega
         have v7:(d.ai[f+1]'O).ar[lh _ j]=G:=by
          rw[<-y2,gE M];unfold eI bE;rw[gE O];show _=(((d.ai[f+1]'O).ar)[lh (d.ai[f]'M) j]?).getD .empty;rw[gE i2];rfl
         rw[v7]at m0;rw[r6]at u2;rw[r5]at u1;generalize lh _ j=uk at*;have A2:(d.ai[f]'M).up.length=tl:=by rw[g8.1,<-u0,o7]
         rw[A2]at u2;obtain⟨y7,B2⟩:∃t,(d.ai[f+1]'O).ar.length=t:=⟨_,rfl⟩;rw[B2]at u1 i2;generalize(d.ai[f]'M).cu=cu at*;generalize(d.ai[f+1]'O).ct=S3 at*;clear g8 d6 j2 t3 r6 r5 v7 A2 B2;have l1:0<=(f:Int):=o_
         have l2:f<(dl:Int):=o_
         have l3:0<=(f:Int)+1:=o_
         have l4:f+1<(dl:Int):=o_
         have l5:0<=(uk:Int):=o_
         have l6:uk<(y7:Int):=o_
         have l7:IntKind.i64.wrap _=f+1:=IntWalk.i64_in _ o_;have RY:B.length<1048576*64:=by
          have:=congrArg length TV.out;rw[aE,f9]at this;have h2:(if j<j then [G]else([])).length<=1:=o_
          omega
         go_upto_region 19 with fail;clear e0 nz z0;have ZE:=kp (show Below E.heap.size E _ from bR.drew);have N:=kp (bS e9 ZE);have WT:=aF UE.o.size ZE.o.size;have G2:=Yf.o.size;have Wq:=kp (show∀ k o v,k<w.heap.size->E.drew.cell? _=some v->∀w' O,App _ w' _ O->w'.cell? ⟨k,o,none⟩=some v fromλk o v hk hc w' O ha=>(bF (ha.bI o_ (λe=>by have:=(N.o.lt k e).1;omega))).trans hc);refine wp_region_noPanic ?_;refine br (t:=99) (S:=(λw'=>w'.cell? _=some (.slice _ _ _)/\w'.cell? _=some (.slice _ _ _)/\w'.cell? _=some _/\w'.cell? _=some _)) k_ ⟨u1,u2,v0,m0⟩ (λC=> ?_);generalize E.drew=wd at*;refine tD 0 1 2 3 C ?_;refine tD 4 5 6 7 C ?_;refine tD 8 9 10 11 C ?_;refine tD 12 13 14 15 C ?_;refine tk 16 C ?_;have R:=C;refine oT 17 (λK hK=> ?_);go_simp;refine oK hK ?_ (λO=> ?_)
         .exact⟨al (bR.alloc o_ _) C.1,al (bR.alloc o_ _) C.2.1,al (bR.alloc o_ _) C.2.2.1,al (bR.alloc o_ _) C.2.2.2⟩
         clear hK K C;clear O;refine oT 18 (λK hK=> ?_);refine jq rfl _ _ _ rfl _ 9 _ _ _ Tryz.underlying23 k6 h5 j1 k8 rfl _ _ rfl (.slice _ _ _) _ _ rfl N rfl RY d_ WT ?_;intro v8 w8 VB Zb;obtain⟨A9,c9,h9⟩:=bY VB;subst h9;have Xf:=kp VB;have Z':=kp Zb;clear VB Zb;go_simp;refine oK hK ?_ (λO=> ?_)
         .exact⟨Wq _ _ _ D0 R.1 _ _ Z',Wq _ _ _ D0 R.2.1 _ _ Z',Wq _ _ _ T2 R.2.2.1 _ _ Z',Wq _ _ _ I6 R.2.2.2 _ _ Z'⟩
         clear hK K;have C:=O;clear O;refine tk 19 C ?_;refine bQ k_ ?_ _;try clear C
         refine NoPanic.normal ?_;have Tw:=kp (Z'.o.ew (UE.o.trans (ZE.o.mono UE.o.size)) N o_ WT);have Z:=kp (show B++[G]=x.names.take a++if j<j+1 then [G]else []from by rw[TV.out,if_neg o_,if_pos o_,append_nil]);have Vd:(B++[G]).length=B.length+1:=s_
         have H0:=kp (show w8.ownsRow _ 9 1 (.slice _ (B++[G]).length _) (B++[G]).length ((B++[G]).map _)from by rw[Vd,map_append];exact Xf);clear u1 u2 v0 m0 l1 l2 l3 l4 l5 l6 l7
         go_wp2;exact⟨⟨_,_,_,_,⟨_,o_,o_,_,_,_,o_,Z,H0,Tw⟩,rfl,rfl,rfl,rfl⟩,o_⟩
        .have hc:(zm.toList == nm.toList)=false:=by rw[i4];exact decide_eq_false X3
         have Z:=kp (show B=x.names.take a++if key<j+1 then [G]else []from by
          rw[TV.out];by_cases h:key<j
          .rw[if_pos h,if_pos o_]
          .rw[if_neg h,if_neg o_])
         clear i4 X3;go_wp2;exact⟨⟨_,B,_,_,o_,o_,rfl,Z,e9,UE⟩,o_⟩
       .have f6:j=tl:=o_
        subst j;have Z:=kp (show B=x.names.take a++[G]from by rw[TV.out,if_pos S7]);have t5:=kp (show(if f+1<dl then [eI d _ _]else [])=[G]from by rw[if_pos Zu,y2]);have q6:=kp (show([G]).length<=1 from ae _);generalize hq:B.length=q at*;have Hq:=kp hq;clear hq;go_upto_region 21 with fail;have r7:=aa.dk Vf;have gD:=r7;have ZE:=kp (show Below E.heap.size E _ from bR.drew);have N:=kp (bS e9 ZE);have WT:=aF UE.o.size ZE.o.size;have VR:=kp (Yf.o.trans ((UE.o.trans (ZE.o.mono UE.o.size)).mono Yf.o.size));have X2:=bh m7 WT;have VH:(Value.slice _ q _).ownBlock≠some D.heap.size:=λe=>by have:=(N.o.lt _ e).1;omega
        have f0:nk<=x.c:=by have:=q8.o;rw[VF]at this;omega
        have TP:=λW=>show(Instr.slice _ _ (some (.int _ (a+1))) _ _).run _ W = .ok _ W from by
         have h:=adK x.A _ _ (a+1) o_ f0 W;trivial
        have l7:IntKind.i64.wrap _=a+1:=IntWalk.i64_in _ o_;have q2:=kp (show Row E.drew E.drew.heap.size (ssA x.A (a+1) x.c) ((x.names.drop (a+1)).map .string)from by
         rw[map_drop];exact adJ (m6 _ VR) (by rw[lM,VF]) _ o_ f0)
        have t7:=kp (show((x.names.drop (a+1)).map Value.string).length=(nk-(a+1))*1 from by rw[lM,length_drop,VF];omega);have a6:=kp (λj h=>V5.o.own.lt j h);have M0:q<=17:=by
         have:=congrArg length Z;rw[Hq,aE,f9]at this;have h2:=q6.o;omega
        have b7:=aF S0.o.size RN.o.size;refine wp_region_noPanic ?_;refine br (t:=99) (S:=(λw'=>w'.cell? _=some _/\w'.cell? _=some _/\w'.cell? _=some _/\w'.cell? _=some _/\w'.cell? _=some _/\w'.cell? _=some _/\w'.cell? _=some _/\w'.cell? _=some _/\w'.cell? _=some _/\w'.cell? _=some _/\w'.cell? _=some _)) k_ gD (λC=> ?_);generalize E.drew=wd at*;refine tD 0 1 2 3 C ?_;refine tD 4 5 6 8 C ?_;refine tk 9 C ?_;have R:=C;refine oT 7 (λK hK=> ?_);refine a5I rfl _ _ _ rfl _ 9 _ _ 1 _ Tryz.underlying23 k6 h5 j1 k8 rfl d_ _ (.slice _ q _) q _ rfl N _ _ _ _ _ rfl t7 q2 (r2 _) o_ d_ WT ?_;intro v8 w8 VB Zb;obtain⟨A8,c8,h8⟩:=bY VB;subst h8;have Xf:=kp VB;have Z':=kp Zb;clear VB Zb;go_simp;refine oK hK ?_ (λO=> ?_)
        .exact a0X (Z'.o.bI X2 VH) R
        clear hK K C;have C:=O;clear O;have H:=kp (Z'.o.ew (UE.o.trans (ZE.o.mono UE.o.size)) N o_ WT);have t8:=kp (V5.o.below (RN.o.trans (H.o.mono o_)));have a9:(B++x.names.drop (a+1)).length=q+(nk-(a+1)):=by rw[aE,Hq,length_drop,VF]
        have s7:=kp (show jM _ _ _ ⟨_,_,_,x.ag⟩from jM.new (by
         have h:=Xf.o;rw[<-map_append,<-a9]at h;omega) b7 (λj h=>bh (a6 j h).2 o_))
        have f3:=kp (show B++x.names.drop _=cX _ _ from by rw[Z,WY,t5,p3]);have b0:=kp (a8H L n _ (λz G=>i8 z G) (λz G=>by
         rw[i6]at G;injection G with G;rw[<-G];exact Hg) m4)
        have p8:=kp (a8G L n (λz G=>(i8 z G).1));have M7:((V.take k).map λx=>(Vw L n x.1,x.2)).length<=40:=o_
        have e2:=kp (show∀u∈U,fP 1600 _ fromλu hu=>qR (adM f2 (λz G=>by
         obtain⟨v,hv,rfl⟩:=mem_map.1 G;exact o2 v (mem_of_mem_take hv)) o_ u hu) o_)
        have a5:=kp (show x.ag=y.2 from congrArg Prod.snd q5);have r0:=kp (show Calls Tryz.prog 51 #[.slice A3 out.length c3,.agg #[.slice A8 (q+(nk-(a+1))) c8,.int .i64 x.ag.c,.int .i64 x.ag.s0,.int .i64 x.ag.n0,.int .i64 x.ag.x0,.int .i64 x.ag.s1,.int .i64 x.ag.n1,.int .i64 x.ag.x1,.int .i64 x.ag.s2,.int .i64 x.ag.n2,.int .i64 x.ag.x2]] w8 (a2T J.heap.size A3 c3 out ⟨A8,B++x.names.drop (a+1),c8,x.ag⟩ w8)from by
         have h:=adE A3 out c3 ⟨A8,B++x.names.drop (a+1),c8,x.ag⟩ J.heap.size w8 t8.o s7.o (aF b7 H.o.size) (by have:=i5.o;omega) (λz G=>by
          have b1:hZ z∈U.map (nmd (TL L n)):=by rw[<-a7];exact mem_map_of_mem G
          obtain⟨u,hu,e⟩:=mem_map.1 b1;have e1:z.names=cX _ _:=(congrArg Prod.fst e).symm;show z.names.length=(B++x.names.drop (a+1)).length;rw[e1,f3,a2C _ _ (d3 u hu),a2C _ _ b0,a3d (d3 u hu),a3d b0]) (by show(B++x.names.drop (a+1)).length<=1000;rw[a9];omega) (λz G _=>by
          have b1:hZ z∈U.map (nmd (TL L n)):=by rw[<-a7];exact mem_map_of_mem G
          obtain⟨u,hu,e⟩:=mem_map.1 b1;have e1:z.ag=u.2:=(congrArg Prod.snd e).symm;have h1:=e2 u hu;show cB z.ag/\nK z.ag x.ag;rw[e1,a5];exact⟨h1.fit,(xu h1 c7.o.b d_).1⟩) (by show cB x.ag;rw[a5];exact c7.o.b.fit)
         unfold YA at h;dsimp only at h;rw[a9]at h;omega)
        have g0:=C;have t9:=bh m7 H.o.size;refine tk 10 C ?_;refine oT 11 (λK hK=> ?_);go_simp;refine r0.o.mono ?_;rintro e w9⟨A9,c9,d0,rfl,g6,f5,g4⟩;have r4:=kp g6;have f1:=kp f5;have d8:=kp g4;clear g6 f5 g4;try go_simp
        refine oK hK ?_ (λO=> ?_)
        .exact a0X (f1.o.block _ t9 (λe=>by have:=(a6 _ e).2;omega)) g0
        clear hK K C;have C:=O;clear O;refine tk 12 C ?_;refine bQ k_ ?_ _;try clear C
        refine NoPanic.normal ?_;obtain⟨U',a8,g5,d7⟩:=adF p8 f2 a7 d3 b0 (by
         show(B++x.names.drop (a+1),x.ag)=_;rw[f3,a5]) (λu hu _=>by
         obtain⟨_,r,h1,_⟩:=xu (e2 u hu) c7.o.b d_;exact⟨r,h1⟩) d8
        rw[<-A0]at a8;have u3:=kp a8;have q1:=kp g5;have s5:=kp d7;have p4:=kp (show d0.length<=k+1 from by
         have h0:=i5.o;obtain⟨X,z,Y,h1,_,h2⟩|⟨_,X,Y,h1,_,_,h2⟩:=d8.o
         .rw[h1]at h0;rw[h2];simp at h0⊢;omega
         .rw[h1]at h0;rw[h2];simp at h0⊢;omega)
        have UM:=kp ((S0.o.trans ((RN.o.trans (H.o.mono o_)).mono S0.o.size)).trans (f1.o.toBelow (λj h=>(a6 j h).1) (aF b7 H.o.size)));clear a8 g5 d7 gD TP l7 R g0
        go_wp2;exact⟨⟨_,_,_,_,_,_,⟨_,o_,o_,_,_,_,rfl,r4,p4,_,q1,kp (by rw[<-List.map_take];exact u3),kp (λp1 p2 h=>s5 _ h),UM⟩,rfl,rfl,rfl,rfl,rfl,rfl⟩,o_⟩
     .have e8:¬ f+1<(dl:Int):=o_
      have t5:=kp (show(if f+1<dl then [eI d (f+1) (((d.ai[f]?).map λt=>lh t key).getD 0)]else [])=[]from if_neg Zu);have q6:=kp (show([]:List ByteArray).length<=1 from d_);obtain⟨B,TV⟩:∃B,B=x.names.take a:=⟨_,rfl⟩;have Z:=kp (show B=x.names.take a++[]from o_);obtain⟨q,o1⟩:∃q,q=a:=⟨_,rfl⟩;have Hq:=kp (show B.length=q from by rw[TV,o1];exact f9);have v6:=kp (show w4.ownsRow _ 9 1 _ a (B.map _)from by rw[TV];exact t4);have UE:=RP;have Vf:=kp (SA.o.under RP);clear TV t4 RP;go_upto_region 21 with fail;clear e8;generalize Value.slice _ a _=S4 at*;have e9:=kp (show w4.ownsRow _ 9 1 _ q _ from by rw[o1];exact v6);clear o1 v6;generalize w4=E at*;have r7:=aa.dk Vf;have gD:=r7;have ZE:=kp (show Below E.heap.size E _ from bR.drew);have N:=kp (bS e9 ZE);have WT:=aF UE.o.size ZE.o.size;have VR:=kp (Yf.o.trans ((UE.o.trans (ZE.o.mono UE.o.size)).mono Yf.o.size));have X2:=bh m7 WT;have VH:S4.ownBlock≠some D.heap.size:=λe=>by have:=(N.o.lt _ e).1;omega
      have f0:nk<=x.c:=by have:=q8.o;rw[VF]at this;omega
      have TP:=λW=>show(Instr.slice _ _ (some (.int _ (a+1))) _ _).run _ W = .ok _ W from by
       have h:=adK x.A _ _ (a+1) o_ f0 W;trivial
      have l7:IntKind.i64.wrap _=a+1:=IntWalk.i64_in _ o_;have q2:=kp (show Row E.drew E.drew.heap.size (ssA x.A (a+1) x.c) ((x.names.drop (a+1)).map .string)from by
       rw[map_drop];exact adJ (m6 _ VR) (by rw[lM,VF]) _ o_ f0)
      have t7:=kp (show((x.names.drop (a+1)).map Value.string).length=(nk-(a+1))*1 from by rw[lM,length_drop,VF];omega);have a6:=kp (λj h=>V5.o.own.lt j h);have M0:q<=17:=by
       have:=congrArg length Z;rw[Hq,aE,f9]at this;have h2:=q6.o;omega
      have b7:=aF S0.o.size RN.o.size;refine wp_region_noPanic ?_;refine br (t:=99) (S:=(λw'=>w'.cell? _=some _/\w'.cell? _=some _/\w'.cell? _=some _/\w'.cell? _=some _/\w'.cell? _=some _/\w'.cell? _=some _/\w'.cell? _=some _/\w'.cell? _=some _/\w'.cell? _=some _/\w'.cell? _=some _/\w'.cell? _=some _)) k_ gD (λC=> ?_);generalize E.drew=wd at*;refine tD 0 1 2 3 C ?_;refine tD 4 5 6 8 C ?_;refine tk 9 C ?_;have R:=C;refine oT 7 (λK hK=> ?_);refine a5I rfl _ _ _ rfl _ 9 _ _ 1 _ Tryz.underlying23 k6 h5 j1 k8 rfl d_ _ S4 q _ rfl N _ _ _ _ _ rfl t7 q2 (r2 _) o_ d_ WT ?_;intro v8 w8 VB Zb;obtain⟨A8,c8,h8⟩:=bY VB;subst h8;have Xf:=kp VB;have Z':=kp Zb;clear VB Zb;go_simp;refine oK hK ?_ (λO=> ?_)
      .exact a0X (Z'.o.bI X2 VH) R
      clear hK K C;have C:=O;clear O;have H:=kp (Z'.o.ew (UE.o.trans (ZE.o.mono UE.o.size)) N o_ WT);have t8:=kp (V5.o.below (RN.o.trans (H.o.mono o_)));have a9:(B++x.names.drop (a+1)).length=q+(nk-(a+1)):=by rw[aE,Hq,length_drop,VF]
      have s7:=kp (show jM _ _ _ ⟨_,_,_,x.ag⟩from jM.new (by
       have h:=Xf.o;rw[<-map_append,<-a9]at h;omega) b7 (λj h=>bh (a6 j h).2 o_))
      have f3:=kp (show B++x.names.drop _=cX _ _ from by rw[Z,WY,t5,p3]);have b0:=kp (a8H L n _ (λz G=>i8 z G) (λz G=>by
       rw[i6]at G;injection G with G;rw[<-G];exact Hg) m4)
      have p8:=kp (a8G L n (λz G=>(i8 z G).1));have M7:((V.take k).map λx=>(Vw L n x.1,x.2)).length<=40:=o_
      have e2:=kp (show∀u∈U,fP 1600 _ fromλu hu=>qR (adM f2 (λz G=>by
       obtain⟨v,hv,rfl⟩:=mem_map.1 G;exact o2 v (mem_of_mem_take hv)) o_ u hu) o_)
      have a5:=kp (show x.ag=y.2 from congrArg Prod.snd q5);have r0:=kp (show Calls Tryz.prog 51 #[.slice A3 out.length c3,.agg #[.slice A8 (q+(nk-(a+1))) c8,.int .i64 x.ag.c,.int .i64 x.ag.s0,.int .i64 x.ag.n0,.int .i64 x.ag.x0,.int .i64 x.ag.s1,.int .i64 x.ag.n1,.int .i64 x.ag.x1,.int .i64 x.ag.s2,.int .i64 x.ag.n2,.int .i64 x.ag.x2]] w8 (a2T J.heap.size A3 c3 out ⟨A8,B++x.names.drop (a+1),c8,x.ag⟩ w8)from by
       have h:=adE A3 out c3 ⟨A8,B++x.names.drop (a+1),c8,x.ag⟩ J.heap.size w8 t8.o s7.o (aF b7 H.o.size) (by have:=i5.o;omega) (λz G=>by
        have b1:hZ z∈U.map (nmd (TL L n)):=by rw[<-a7];exact mem_map_of_mem G
        obtain⟨u,hu,e⟩:=mem_map.1 b1;have e1:z.names=cX _ _:=(congrArg Prod.fst e).symm;show z.names.length=(B++x.names.drop (a+1)).length;rw[e1,f3,a2C _ _ (d3 u hu),a2C _ _ b0,a3d (d3 u hu),a3d b0]) (by show(B++x.names.drop (a+1)).length<=1000;rw[a9];omega) (λz G _=>by
        have b1:hZ z∈U.map (nmd (TL L n)):=by rw[<-a7];exact mem_map_of_mem G
        obtain⟨u,hu,e⟩:=mem_map.1 b1;have e1:z.ag=u.2:=(congrArg Prod.snd e).symm;have h1:=e2 u hu;show cB z.ag/\nK z.ag x.ag;rw[e1,a5];exact⟨h1.fit,(xu h1 c7.o.b d_).1⟩) (by show cB x.ag;rw[a5];exact c7.o.b.fit)
       unfold YA at h;dsimp only at h;rw[a9]at h;omega)
      have g0:=C;have t9:=bh m7 H.o.size;refine tk 10 C ?_;refine oT 11 (λK hK=> ?_);go_simp;refine r0.o.mono ?_;rintro e w9⟨A9,c9,d0,rfl,g6,f5,g4⟩;have r4:=kp g6;have f1:=kp f5;have d8:=kp g4;clear g6 f5 g4;try go_simp
      refine oK hK ?_ (λO=> ?_)
      .exact a0X (f1.o.block _ t9 (λe=>by have:=(a6 _ e).2;omega)) g0
      clear hK K C;have C:=O;clear O;refine tk 12 C ?_;refine bQ k_ ?_ _;try clear C
      refine NoPanic.normal ?_;obtain⟨U',a8,g5,d7⟩:=adF p8 f2 a7 d3 b0 (by
       show(B++x.names.drop (a+1),x.ag)=_;rw[f3,a5]) (λu hu _=>by
       obtain⟨_,r,h1,_⟩:=xu (e2 u hu) c7.o.b d_;exact⟨r,h1⟩) d8
      rw[<-A0]at a8;have u3:=kp a8;have q1:=kp g5;have s5:=kp d7;have p4:=kp (show d0.length<=k+1 from by
       have h0:=i5.o;obtain⟨X,z,Y,h1,_,h2⟩|⟨_,X,Y,h1,_,_,h2⟩:=d8.o
       .rw[h1]at h0;rw[h2];simp at h0⊢;omega
       .rw[h1]at h0;rw[h2];simp at h0⊢;omega)
      have UM:=kp ((S0.o.trans ((RN.o.trans (H.o.mono o_)).mono S0.o.size)).trans (f1.o.toBelow (λj h=>(a6 j h).1) (aF b7 H.o.size)));clear a8 g5 d7 gD TP l7 R g0
      go_wp2;exact⟨⟨_,_,_,_,_,o_,o_,rfl,r4,p4,q1,u3,s5,UM⟩,o_⟩
    .have G:k=m:=o_
     have u:=f2.o;rw[take_of_length_le (by rw[z3];omega)]at u;have O:=kp (HR _ c3 _ U D V5.o.at_ a7 u Yg);clear u G;go_wp2;exact O
end Tc
end Go.Proofs.YtibjlpkpljnicaaGreatDoor
