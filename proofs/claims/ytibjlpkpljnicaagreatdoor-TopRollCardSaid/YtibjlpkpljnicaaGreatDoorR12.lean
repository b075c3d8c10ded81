/- Parts. -/
import Derived.Test.YtibjlpkpljnicaaGreatDoorR06
import Derived.Test.YtibjlpkpljnicaaGreatDoorR11
import Derived.RangeFuncNested
import Derived.RangeFuncBound
import Derived.RangeFuncCalls
import Derived.RangeFuncLeaves
import Derived.RangeFuncBox
import Derived.Shelf.Abstract
import Derived.Shelf.RegionOpen
import Derived.OwnWalkIn
import Derived.TacticsInMore
import Derived.LoopNIn
import Derived.LoopIn
import Derived.ChangeKeysEq
set_option maxRecDepth 100000
set_option maxHeartbeats 8000000
set_option linter.all false
namespace Go.Proofs.YtibjlpkpljnicaaGreatDoor
namespace Tc
open List Go.RowKit Base Go.Proofs.Tryz
section
attribute [local go_sem] Oper.semAt_some
def jN(b d:Nat)(W c:World):Prop:=c.heap[b]? = W.heap[b]? /\ c.heap[d]? = W.heap[d]?
def jN.trans{b c:Nat}{A B C:World}(h:jN b c A B)(k:jN b c B C):jN b c A C:=⟨k.1.trans h.1,k.2.trans h.2⟩
def BX{b c:Nat}{w:World}(h1:b<w.heap.size)(h2:c<w.heap.size)(W:World)(l:Nat)(o o':Obj)(d:w.heap.size<=l)(h:W.heap[l]? = some o)(_:o.isCells=false)(_:o.isWalk=false):jN b c W (W.putObj l o'):=
 ⟨World.putObj_heap_other o_,World.putObj_heap_other o_⟩
abbrev Part(n size:Nat):={ i:Nat // i*size<n }
def iy(b off e n size i:Nat):Value:= U (some ⟨b,off+i*size*e,none⟩) (min size (n-i*size)) (min size (n-i*size))
def Ib(nn:Nat)(hn:1<=nn)(u f b off n cap size:Nat)(b0:1<=size)(d4:size<=1000000)(c3:n<=1000000)(b7:n<=cap)(d1:cap<=9223372036854775807)(w:World)(a7:u<w.heap.size)(a6:f<w.heap.size)
 (A:OA)(hA:n=0\/A=some ⟨b,off,none⟩)(a8:C w u 0 (U A n cap))(a4:C w f 0 (I size)) :
 SeqStopsK Fence.wide nn prog 301 #[Y u 0,Y f 0] (λx:Part n size=>#[iy b off 11 n size x.1]) (jN u f) (λxs=>xs.map (·.1)=range xs.length/\n<=xs.length*size) (λ_=>True) (n+1) w:=by
 intro l J y W z y _ D h0;have X:=kp y;have E:=kp D;have m:=(z.cell (p:=(M f 0)) a6).trans a4;refine callsIn_of_wp func301 rfl trivial ?_ rfl;simp only[ntmps301,size_toArray,length_cons,length_nil,Array.replicate_succ,Array.replicate_zero,push_toArray,append_toArray,nil_append,cons_append];gi_wp2;gi_loopw [4] (λi wr=>∃(k q:Nat)(pre:List (Part n size)),q=k*size/\pre.length=k/\pre.map (·.1)=range k/\k<=n/\i = I (q:Int)/\q<=n+size/\J pre wr/\jN u f W wr)
  (λi _=>n+size-(intOf i).toNat)
 case atStart=>exact⟨0,0,_,s_,rfl,rfl,o_,rfl,o_,h0,rfl,rfl⟩
 .obtain⟨k,q,pre,D,V,O,hk,rfl,y,L,y⟩:=hrel;have c1:C _ u 0 _:=(bF y.1).trans ((z.cell a7).trans a8);have c2:C _ f 0 _:=(bF y.2).trans m;obtain⟨H,g,B,T,HJ⟩:=j5_ D V O y L;clear D V O y L;by_cases y:q<n
  .obtain rfl:=hA.resolve_left o_;obtain⟨r,J⟩:=e_ (n-q);have z:¬cap=q:=o_;have z:1<=r:=o_;have z:q+r=n:=o_;have D:k*size<n:=by rw[<-H];omega
   have y:=kp (X _ _ wr.drew none HJ ⟨rfl,rfl,rfl,o_,λ_ _ _=>rfl⟩ (λr e=>r_));have z:=kp (E _ ⟨k,D⟩ _ y (by rw[g];omega));have y:k+1<=n:=by
    have h1:=Nat.mul_le_mul_left k b0;omega
   by_cases y:r<size
   .have hx:iy b off 11 n size k = U (some ⟨b,off+q*11,none⟩) r r:=by
     unfold iy;rw[<-H,J,Nat.min_eq_right o_]
    have c:=z.o;dsimp only at c;rw[hx]at c;obtain⟨O,tmps,v,body,V,N⟩:=c;have y:=kp N;clear hx z N;have L:IntKind.i64.wrap _=q+r:=IntWalk.i64_in _ o_;gi_wp2;gi_region;gi_wp2;apply y.mono;rintro e R(⟨rfl,F,E⟩|⟨rfl,d⟩)
    .have G:=kp F;have s:=kp (T.trans (E));have d2:C R f 0 _:=(bF s.2).trans m;gi_wp2;go_roundw
     case rel=>exact⟨k+1,_,_,by rw[Nat.add_mul,Nat.one_mul,<-H],by rw[aE,g];rfl,by rw[map_append,B,range_succ];rfl,o_,s_,o_,G,s⟩
     case measure=>simp[intOf];omega
    .have G:=kp d;clear d;gi_wp2;apply bodyPost_ret (results_none rfl _ _ _) rfl;exact⟨⟨_,rfl⟩,.inr ⟨_,trivial,G⟩⟩
   .have hx:iy b off 11 n size k = U (some ⟨b,off+q*11,none⟩) size size:=by
     unfold iy;rw[<-H,J,Nat.min_eq_left o_]
    have c:=z.o;dsimp only at c;rw[hx]at c;obtain⟨O,tmps,v,body,V,N⟩:=c;have y:=kp N;clear hx z N;have L:IntKind.i64.wrap _=q+size:=IntWalk.i64_in _ o_;gi_wp2;gi_region;gi_wp2;apply y.mono;rintro e R(⟨rfl,F,E⟩|⟨rfl,d⟩)
    .have s:=kp (T.trans (E));have d2:C R f 0 _:=(bF s.2).trans m;gi_wp2;go_roundw
     case rel=>exact⟨k+1,_,_,by rw[Nat.add_mul,Nat.one_mul,<-H],by rw[aE,g];rfl,by rw[map_append,B,range_succ];rfl,o_,s_,o_,F,s⟩
     case measure=>simp[intOf];omega
    .have G:=kp d;gi_wp2;apply bodyPost_ret (results_none rfl _ _ _) rfl;grind
  .have y:=kp (show n<=pre.length*size by rw[g,<-H];omega);gi_wp2;go_end0;exact⟨⟨_,rfl⟩,.inl ⟨_,⟨by rw[B,g],y⟩,HJ⟩⟩
def Ia(A:OA)(n c size:Nat)(b:1<=size)(w:World):Calls prog 264 #[U A n c,I size] w λe w'=>e = .returned (.func (.func 301) #[] #[Y w.heap.size 0,Y (w.heap.size+1) 0])/\w'=(w.alloc (.cells #[U A n c] 34)).alloc (.cells #[I size] 3):=by
 have h1:¬(size:Int)<1:=o_;go_in;go_wp2;go_ret;simp
structure Rn where
 A:OA
 fs:List Fa
 c:Nat
def fy(r:Rn):Value:= U r.A r.fs.length r.c
def cz(A:OA)(l:List Fa)(b:Nat):Prop:=(∃off,A=some ⟨b,off,none⟩/\l≠[])\/∃f∈l,∃off,f.A=some ⟨b,off,none⟩/\an f.keys≠[]
def mI{w w':World}{B:Nat}{A:OA}{c:LV}(h:Row w B A c)(f:∀b off,A=some ⟨b,off,none⟩->c≠[]->w'.heap[b]? = w.heap[b]?):Row w' B A c:=by
 obtain h|⟨b,off,e,m,g⟩:=h
 .exact .inl h
 .by_cases h0:c=[]
  .exact .inl h0
  .exact .inr ⟨b,_,e,m,λi v d=>(bF (f b _ e h0)).trans (g i v d)⟩
def J2{l:List Fa}(h:l.flatMap aV≠[]):l≠[]:=by grind
def bM.same{w w':World}{B:Nat}{A:OA}{l:List Fa}(h:bM w B A l)(d:∀b,cz A l b->w'.heap[b]? = w.heap[b]?):bM w' B A l:=
 ⟨mI h.row λb off e c=>d b (.inl ⟨_,e,J2 c⟩),λf g=>mI (h.keys f g) λb off e c=>d b (.inr ⟨f,g,_,e,c⟩)⟩
def bM.bU{w:World}{B:Nat}{A:OA}{l:List Fa}(h:bM w B A l){b:Nat}(m:cz A l b):b<B:=by
 obtain⟨off,e,d⟩|⟨f,m,off,e,d⟩:=m
 .obtain h0|⟨q,g,c,p,_⟩:=h.row
  .have:=iX kC l;rw[h0]at this;obtain _|⟨a,l⟩:=l
   .grind
   .grind
  grind
 .obtain h0|⟨q,g,c,p,_⟩:=h.keys f m
  .grind
  grind
def fJ(w:World)(v:Value)(r:Rn):Prop:=bM w w.heap.size r.A r.fs/\∀b,cz r.A r.fs b->v.ownBlock≠some b
def fJ.app{wr w':World}{v f:Value}{r:Rn}(h:fJ wr v r)(e:App wr w' v f):fJ w' f r:=by
 refine⟨(h.1.same λb c=>e.bI (h.1.bU c) (h.2 b c)).more e.grown.size,λb c=> ?_⟩;obtain d|⟨k,d,hk⟩:=e.j4
 .rw[d];exact h.2 b c
 .rw[d];intro g;injection g with g;have:=h.1.bU c;omega
def fJ.below{w w':World}{v:Value}{r:Rn}(h:fJ w v r)(b:E w w'):fJ w' v r:=⟨(h.1.below b).more b.size,h.2⟩
def fJ.new{w:World}{B n c:Nat}{A:OA}{l:List Fa}{v:Value}(h:bj w B (U A n c) l)(hk:eC B l)(g:∀k,v.ownBlock=some k->k<B):fJ w v ⟨A,l,c⟩:=by
 refine⟨h.jW,λb p q=> ?_⟩;have h1:=g b q;obtain⟨off,e,d⟩|⟨f,m,off,e,d⟩:=p
 .dsimp only at e;subst e;have:=(h.1.lt b rfl).1;omega
 .have:=hk f m b _ e d;omega
def bM.sub{w:World}{B b off:Nat}{l:List Fa}(h:bM w B (some ⟨b,off,none⟩) l)(i e:Nat):bM w B (some ⟨b,off+i*11,none⟩) ((l.drop i).take e):=by
 refine⟨?_,λf r=>h.keys f (mem_of_mem_drop (mem_of_mem_take r))⟩;obtain h0|⟨x,c,p,s,q⟩:=h.row
 .have g:l=[]:=by
   have:=iX kC l;rw[h0]at this;obtain _|⟨a,l⟩:=l
   .rfl
   .grind
  subst g;exact .inl s_
 .cases p;refine .inr ⟨b,_,rfl,s,λj v n=> ?_⟩;obtain⟨m,d⟩:=Bm kC o_ n;rw[length_take,length_drop]at m;rw[getElem_take,getElem_drop]at d;have:=q ((i+j / 11)*11+j % 11) v (by rw[tj kC l _ o_ _ o_];omega);grind
end
structure Cl where
 key:Nat
 child:Nat
 ag:Ag
abbrev cC(w:World)(b o:Nat)(x:Cl):Prop:=C w b o (I x.key)/\C w b (o+1) (I x.child)/\C w b (o+2) (I x.ag.c)/\C w b (o+3) (I x.ag.s0)/\C w b (o+4) (I x.ag.n0)/\C w b (o+5) (I x.ag.x0)/\C w b (o+6) (I x.ag.s1)/\C w b (o+7) (I x.ag.n1)/\C w b (o+8) (I x.ag.x1)/\C w b (o+9) (I x.ag.s2)/\C w b (o+10) (I x.ag.n2)/\C w b (o+11) (I x.ag.x2)
abbrev hJ(w:World)(b:Nat)(x:Cl):Prop:=C w b 0 (I x.key)/\C w b 1 (I x.child)/\C w b 2 (I x.ag.c)/\C w b 3 (I x.ag.s0)/\C w b 4 (I x.ag.n0)/\C w b 5 (I x.ag.x0)/\C w b 6 (I x.ag.s1)/\C w b 7 (I x.ag.n1)/\C w b 8 (I x.ag.x1)/\C w b 9 (I x.ag.s2)/\C w b 10 (I x.ag.n2)/\C w b 11 (I x.ag.x2)
abbrev ch(c:Cl):LV:=[I c.key,I c.child,I c.ag.c,I c.ag.s0,I c.ag.n0,I c.ag.x0,I c.ag.s1,I c.ag.n1,I c.ag.x1,I c.ag.s2,I c.ag.n2,I c.ag.x2]
abbrev bH(c:Cl):AV:=#[I c.key,I c.child,I c.ag.c,I c.ag.s0,I c.ag.n0,I c.ag.x0,I c.ag.s1,I c.ag.n1,I c.ag.x1,I c.ag.s2,I c.ag.n2,I c.ag.x2]
def mr c:(ch c).length=12:=rfl
def sW c:∀u∈(bH c).toList,u.oneCell'=true:=by
 intro u b;simp at b;rcases b with rfl|rfl|rfl|rfl|rfl|rfl|rfl|rfl|rfl|rfl|rfl|rfl<;>rfl
def o6:(prog.info? 155).map (λi=>(i.zero,i.size,i.bytes))=some (some (.agg zC),12,96):=k_
def BK:(prog.info? 157).map (λi=>(i.zero,i.size,i.bytes))=some (some (.agg zN),14,128):=k_
def xm:(prog.info? 223).map (λi=>(i.zero,i.size,i.bytes))=some (some (Z),1,24):=k_
def jy:Cl:=⟨0,0,az⟩
structure Ll where
 A:OA
 cs:List Cl
 c:Nat
def dq(l:Ll):Value:= U l.A l.cs.length l.c
structure Nd where
 aj:Nat
 A:OA
 ls:List Ll
 c:Nat
 all:Cl
abbrev cN(w:World)(b o:Nat)(x:Nd):Prop:=C w b o (I x.aj)/\C w b (o+1) (U x.A x.ls.length x.c)/\C w b (o+2) (I x.all.key)/\C w b (o+3) (I x.all.child)/\C w b (o+4) (I x.all.ag.c)/\C w b (o+5) (I x.all.ag.s0)/\C w b (o+6) (I x.all.ag.n0)/\C w b (o+7) (I x.all.ag.x0)/\C w b (o+8) (I x.all.ag.s1)/\C w b (o+9) (I x.all.ag.n1)/\C w b (o+10) (I x.all.ag.x1)/\C w b (o+11) (I x.all.ag.s2)/\C w b (o+12) (I x.all.ag.n2)/\C w b (o+13) (I x.all.ag.x2)
abbrev iI(w:World)(b:Nat)(x:Nd):Prop:=C w b 0 (I x.aj)/\C w b 1 (U x.A x.ls.length x.c)/\C w b 2 (I x.all.key)/\C w b 3 (I x.all.child)/\C w b 4 (I x.all.ag.c)/\C w b 5 (I x.all.ag.s0)/\C w b 6 (I x.all.ag.n0)/\C w b 7 (I x.all.ag.x0)/\C w b 8 (I x.all.ag.s1)/\C w b 9 (I x.all.ag.n1)/\C w b 10 (I x.all.ag.x1)/\C w b 11 (I x.all.ag.s2)/\C w b 12 (I x.all.ag.n2)/\C w b 13 (I x.all.ag.x2)
abbrev cO(n:Nd):LV:=[I n.aj,U n.A n.ls.length n.c,I n.all.key,I n.all.child,I n.all.ag.c,I n.all.ag.s0,I n.all.ag.n0,I n.all.ag.x0,I n.all.ag.s1,I n.all.ag.n1,I n.all.ag.x1,I n.all.ag.s2,I n.all.ag.n2,I n.all.ag.x2]
abbrev aZ(n:Nd):AV:=#[I n.aj,U n.A n.ls.length n.c,I n.all.key,I n.all.child,I n.all.ag.c,I n.all.ag.s0,I n.all.ag.n0,I n.all.ag.x0,I n.all.ag.s1,I n.all.ag.n1,I n.all.ag.x1,I n.all.ag.s2,I n.all.ag.n2,I n.all.ag.x2]
def Lo n:(cO n).length=14:=rfl
def CH n:∀u∈(aZ n).toList,u.oneCell'=true:=by
 intro u b;simp at b;rcases b with rfl|rfl|rfl|rfl|rfl|rfl|rfl|rfl|rfl|rfl|rfl|rfl|rfl|rfl<;>rfl
structure aQ where
 aj:Nat
 lists:List (List Cl)
 all:Cl
def aK(n:Nd):aQ:=⟨n.aj,n.ls.map Ll.cs,n.all⟩
structure du(w:World)(B:Nat)(n:Nd):Prop where
 row:Row w B n.A (n.ls.map dq)
 each:∀l∈n.ls,Row w B l.A (l.cs.flatMap ch)
def du.below{w w' B n}(h:du w B n)(b:Below B w w'):du w' B n:=⟨h.row.below b,λl c=>(h.each l c).below b⟩
def du.more{w B c n}(h:du w B n)(b:B<=c):du w c n:=⟨h.row.more b,λl d=>(h.each l d).more b⟩
structure gX(w:World)(B:Nat)(A:OA)(l:List Nd):Prop where
 row:Row w B A (l.flatMap cO)
 each:∀n∈l,du w B n
def gX.below{w w' B A l}(h:gX w B A l)(b:Below B w w'):gX w' B A l:=⟨h.row.below b,λn c=>(h.each n c).below b⟩
def gX.more{w B b A l}(h:gX w B A l)(c:B<=b):gX w b A l:=⟨h.row.more c,λn d=>(h.each n d).more c⟩
def nV{w B A}{l:List Cl}(h:Row w B A (l.flatMap ch)) k(hk:k<l.length) :
 ∃b off,A=some ⟨b,off,none⟩/\b<B/\C w b (off+k*12) (I (l[k].key:Nat))/\C w b (off+k*12+1) (I (l[k].child:Nat))/\C w b (off+k*12+2) (I l[k].ag.c)/\C w b (off+k*12+3) (I l[k].ag.s0)/\C w b (off+k*12+4) (I l[k].ag.n0)/\C w b (off+k*12+5) (I l[k].ag.x0)/\C w b (off+k*12+6) (I l[k].ag.s1)/\C w b (off+k*12+7) (I l[k].ag.n1)/\C w b (off+k*12+8) (I l[k].ag.x1)/\C w b (off+k*12+9) (I l[k].ag.s2)/\C w b (off+k*12+10) (I l[k].ag.n2)/\C w b (off+k*12+11) (I l[k].ag.x2):=by
 obtain⟨b,off,e,f,d⟩:=Row.rec mr h o_ k hk;exact⟨b,_,e,f,d 0 _ rfl,d 1 _ rfl,d 2 _ rfl,d 3 _ rfl,d 4 _ rfl,d 5 _ rfl,d 6 _ rfl,d 7 _ rfl,d 8 _ rfl,d 9 _ rfl,d _ _ rfl,d _ _ rfl⟩
def pV{w B A}{l:List Nd}(h:Row w B A (l.flatMap cO)) k(hk:k<l.length) :
 ∃b off,A=some ⟨b,off,none⟩/\b<B/\C w b (off+k*14) (I (l[k].aj:Nat))/\C w b (off+k*14+1) (U l[k].A l[k].ls.length l[k].c)/\C w b (off+k*14+2) (I (l[k].all.key:Nat))/\C w b (off+k*14+3) (I (l[k].all.child:Nat))/\C w b (off+k*14+4) (I l[k].all.ag.c)/\C w b (off+k*14+5) (I l[k].all.ag.s0)/\C w b (off+k*14+6) (I l[k].all.ag.n0)/\C w b (off+k*14+7) (I l[k].all.ag.x0)/\C w b (off+k*14+8) (I l[k].all.ag.s1)/\C w b (off+k*14+9) (I l[k].all.ag.n1)/\C w b (off+k*14+10) (I l[k].all.ag.x1)/\C w b (off+k*14+11) (I l[k].all.ag.s2)/\C w b (off+k*14+12) (I l[k].all.ag.n2)/\C w b (off+k*14+13) (I l[k].all.ag.x2):=by
 obtain⟨b,off,e,f,d⟩:=Row.rec Lo h o_ k hk;exact⟨b,_,e,f,d 0 _ rfl,d 1 _ rfl,d 2 _ rfl,d 3 _ rfl,d 4 _ rfl,d 5 _ rfl,d 6 _ rfl,d 7 _ rfl,d 8 _ rfl,d 9 _ rfl,d _ _ rfl,d _ _ rfl,d _ _ rfl,d _ _ rfl⟩
def aa.gu{w g t q e r p m s f n u d c b}(h:aa w g t #[q,e,r,p,m,s,f,n,u,d,c,b]) :
 (C w g 0 q/\C w g 1 e/\C w g 2 r/\C w g 3 p/\C w g 4 m/\C w g 5 s/\C w g 6 f/\C w g 7 n/\C w g 8 u/\C w g 9 d/\C w g 10 c/\C w g 11 b)/\(w.frozen? (M g 0)=false/\w.frozen? (M g 1)=false/\w.frozen? (M g 2)=false/\w.frozen? (M g 3)=false/\w.frozen? (M g 4)=false/\w.frozen? (M g 5)=false/\w.frozen? (M g 6)=false/\w.frozen? (M g 7)=false/\w.frozen? (M g 8)=false/\w.frozen? (M g 9)=false/\w.frozen? (M g 10)=false/\w.frozen? (M g 11)=false):=
 ⟨⟨h.cell 0,h.cell 1,h.cell 2,h.cell 3,h.cell 4,h.cell 5,h.cell 6,h.cell 7,h.cell 8,h.cell 9,h.cell _,h.cell _⟩,h.free 0,h.free 1,h.free 2,h.free 3,h.free 4,h.free 5,h.free 6,h.free 7,h.free 8,h.free 9,h.free _,h.free _⟩
def aa.bK{w g t p s q v m x u n r f c b d e}(h:aa w g t #[p,s,q,v,m,x,u,n,r,f,c,b,d,e]) :
 (C w g 0 p/\C w g 1 s/\C w g 2 q/\C w g 3 v/\C w g 4 m/\C w g 5 x/\C w g 6 u/\C w g 7 n/\C w g 8 r/\C w g 9 f/\C w g 10 c/\C w g 11 b/\C w g 12 d/\C w g 13 e)/\(w.frozen? (M g 0)=false/\w.frozen? (M g 1)=false/\w.frozen? (M g 2)=false/\w.frozen? (M g 3)=false/\w.frozen? (M g 4)=false/\w.frozen? (M g 5)=false/\w.frozen? (M g 6)=false/\w.frozen? (M g 7)=false/\w.frozen? (M g 8)=false/\w.frozen? (M g 9)=false/\w.frozen? (M g 10)=false/\w.frozen? (M g 11)=false/\w.frozen? (M g 12)=false/\w.frozen? (M g 13)=false):=
 ⟨⟨h.cell 0,h.cell 1,h.cell 2,h.cell 3,h.cell 4,h.cell 5,h.cell 6,h.cell 7,h.cell 8,h.cell 9,h.cell _,h.cell _,h.cell _,h.cell _⟩,h.free 0,h.free 1,h.free 2,h.free 3,h.free 4,h.free 5,h.free 6,h.free 7,h.free 8,h.free 9,h.free _,h.free _,h.free _,h.free _⟩
def aa.four{w g t b d c e}(h:aa w g t #[b,d,c,e]) :
 (C w g 0 b/\C w g 1 d/\C w g 2 c/\C w g 3 e)/\(w.frozen? (M g 0)=false/\w.frozen? (M g 1)=false/\w.frozen? (M g 2)=false/\w.frozen? (M g 3)=false):=
 ⟨⟨h.cell 0,h.cell 1,h.cell 2,h.cell 3⟩,h.free 0,h.free 1,h.free 2,h.free 3⟩
def zZ w z p g v c x q d n b y A m e s f u r:(Op.equalIn 9999 76 (.agg #[I z,I p,I g,I v,I c,I x,I q,I d,I n]) (.agg #[I b,I y,I A,I m,I e,I s,I f,I u,I r])).run prog w = .ok (decide (z=b/\p=y/\g=A/\v=m/\c=e/\x=s/\q=f/\d=u/\n=r)) w:=by
 obtain⟨i,hi⟩:∃i,prog.info? 75=some i:=Option.isSome_iff_exists.1 k_;have B:prog.cellsOf 75=3:=k_;rw[run_equalIn_array w _ _ _ underlying76 hi,B];simp[Op.eqItems,go_sem,range.loop];grind
def mD A(n c m aj:Nat) w(p:1<=n)(g:n<=1000000)(hd:aj<=1000000) :
 Calls Tryz.prog 120 #[.agg #[.slice A n c,.int .i64 m],.int .i64 (aj:Nat)] w λe w'=>e = .returned (.bool (decide (aj+1=n)))/\Below w.heap.size w w':=by
 have b:=(ah _ w).alloc (ae _) (.cells #[U A n c,I m] 43);have d:=J b;have f:=J (show(aj == (n:Int)-1)=decide (aj+1=n) by
  grind)
 clear b;go_enter Tryz.func120,Tryz.ntmps120;go_wp2;go_ret;exact⟨by rw[<-f];rfl,d⟩
def AT{ls:List Ll}{k}(hk:k<ls.length):((ls.take (k+1)).map λl=>l.cs.length).sum=((ls.take k).map λl=>l.cs.length).sum+ls[k].cs.length:=by
 rw[take_succ_eq_append_getElem hk,map_append,sum_append];rfl
def count_le{ls:List Ll}{b}(h:∀l∈ls,l.cs.length<=b) k:((ls.take k).map λl=>l.cs.length).sum<=k*b:=by
 induction k with
 |zero=>simp
 |succ k c=>
  rw[Nat.succ_mul];by_cases hk:k<ls.length
  .rw[AT hk];grind
  .rw[take_of_length_le o_]at c⊢;omega
section
attribute [local go_sem] zZ
def kj(last:Bool)(m:Nat)(c:Cl):Prop:=if last=true then c.child=0/\eS m c.ag else c.ag=az
def CF(A:OA)(n c m aj:Nat)(x:Cl)(w:World)(N:1<=n)(v:n<=1000000)(hd:aj<=1000000)(u:1<=m)(Z:m<=3)(hx:x.child<=2000000)(r:kj (decide (aj+1=n)) m x) :
 Calls Tryz.prog 216 #[.agg #[.slice A n c,.int .i64 m],.int .i64 (aj:Nat),.agg (bH x)] w λe w'=>e = .returned (.bool true)/\Below w.heap.size w w':=by
 obtain⟨key,child,ac,s0,n0,x0,s1,n1,x1,s2,n2,x2⟩:=x;have b:=(ah _ w).alloc (ae _) (.cells #[.slice A n c,.int .i64 m] 43);have d:=b.alloc o_ (.cells (bH ⟨key,child,ac,s0,n0,x0,s1,n1,x1,s2,n2,x2⟩) 155);have f:=kp ((aa.new w 43 #[.slice A n c,.int .i64 m]).alloc (.cells (bH ⟨key,child,ac,s0,n0,x0,s1,n1,x1,s2,n2,x2⟩) 155));have p:=kp (aa.lay (w:=w.alloc (.cells #[.slice A n c,.int .i64 m] 43)) (g:=w.heap.size+1) (t:=155) (cs:=bH ⟨key,child,ac,s0,n0,x0,s1,n1,x1,s2,n2,x2⟩) s_);have s:=kp (λw=>mD A n c m _ w N v hd);dsimp only at hx;generalize V:(λ(e:Ending) w'=>e = .returned _/\Below _ w _)=Q;have F:=kp (show∀w',Below w.heap.size w w'->Q (.returned (.bool true)) w' fromλw' Y=>r_);by_cases C:aj+1=n
 .rw[decide_eq_true C]at s r;obtain⟨h1,h2⟩:=r;change child=0 at h1;have M:=kp (λw=>sL m ⟨_,_,_,_,_,_,_,_,_,_⟩ w u Z h2);subst h1;go_enter Tryz.func216,Tryz.ntmps216;obtain⟨E,D,_,_⟩:=f.o.two;go_wp2_with fail;refine(s _).mono ?_;generalize(w.alloc _).alloc _=G at*;rintro e T⟨rfl,b⟩;have q:=ay (J d) b;obtain⟨E,D,_,_⟩:=(f.o.under b).two;have V:=(aa.gu (p.o.under b)).1;go_wp2_with fail;refine(M _).mono ?_;rintro e y⟨rfl,y⟩;have z:=kp (F _ (q.o.trans (y.mono q.o.size)));go_wp2;exact z
 .rw[decide_eq_false C]at s r;have h1:⟨ac,s0,n0,x0,s1,n1,x1,s2,n2,x2⟩=az:=r;unfold az at h1;injection h1 with h1 h2 L W U I X H R B;subst h1 h2 L W U I X H R B;have y:0<=(child:Int):=o_
  go_enter Tryz.func216,Tryz.ntmps216;obtain⟨E,D,_,_⟩:=f.o.two;go_wp2_with fail;refine(s _).mono ?_;generalize(w.alloc _).alloc _=G at*;rintro e T⟨rfl,b⟩;have z:=kp (F _ (d.trans (b.mono d.size)));have V:=(aa.gu (p.o.under b)).1;go_wp2;exact z
structure sw(last:Bool)(m size:Nat)(l:List Cl):Prop where
 n1:1<=l.length
 key:∀c∈l,c.key<size
 child:∀c∈l,c.child<=2000000
 cell:∀c∈l,kj last m c
 ja:∀i(h:i+1<l.length),l[i].key<l[i+1].key
def LA(A A':OA)(n c m aj size c':Nat)(l:List Cl)(w:World)(hr:Row w w.heap.size A' (l.flatMap ch))(Z:l.length<=1000000)(hn:1<=n)(X:n<=1000000)(hd:aj<=1000000)(b2:1<=m)(hm:m<=3)(hs:size<=1000000)(L:sw (decide (aj+1=n)) m size l) :
 Calls Tryz.prog 215 #[.agg #[.slice A n c,.int .i64 m],.int .i64 (aj:Nat),.int .i64 (size:Nat),.slice A' l.length c'] w λe w'=>e = .returned (.int .i64 0)/\Below w.heap.size w w':=by
 have I:=(ah _ w).alloc (ae _) (.cells #[.slice A n c,.int .i64 m] 43);have HB:=kp (aa.new w 43 #[.slice A n c,.int .i64 m]);have HC:=kp (λx w h1 h2=>CF A n c m _ x w hn X hd b2 hm h1 h2);have N:=kp L.key;have y:=kp L.child;have F:=kp L.cell;have G:=kp L.ja;have U:=L.n1;generalize hQ:(λ(e:Ending) w'=>e = .returned _/\Below _ w _)=Q;have HQ:=kp (show∀w',Below w.heap.size w w'->Q (.returned (.int .i64 0)) w' fromλw' hb=>r_);obtain⟨v,D⟩:∃v,l.length=v:=⟨_,rfl⟩;rw[D]at U Z⊢;have q0:((v:Int) == 0)=false:=o_
 go_enter Tryz.func215,Tryz.ntmps215;go_wp2;go_loopw [16] (λB wr=>∃k:Nat,k<=v/\B = .int .i64 k/\aa wr w.heap.size 43 #[.slice A n c,.int .i64 m]/\Below w.heap.size w wr) (λB _=>v-(intOf B).toNat)
 case atStart=>exact⟨0,o_,rfl,HB,I⟩
 case round=>
  clear HB I;obtain⟨k,hk,rfl,b5,u⟩:=hrel;by_cases b3:k<v
  .have f:k<l.length:=o_
   have T:=(hr.below u).more u.size;obtain⟨b,off,hA,hb,c0,c1,c2,c3,c4,c5,c6,c7,c8,c9,W,b6⟩:=nV T k f;have Hx:=kp (F _ (gM f));have f6:=N _ (gM f);have b1:=kp (y _ (gM f));have Y:=kp (show∀q(h:q+1=k),(l[q]'(by omega)).key<(l[k]'f).key fromλq h=>by subst h;exact G q f);generalize(l[k]'f)=x at*;have s:=(ah _ wr).alloc (ae _) (.cells (bH x) 155);have b0:=kp (aa.new wr 155 (bH x));have z:=ay (J u) s;have p:=bu (J b5) s;have M:=kp ((T.below s).more s.size);have e7:0<=(k:Int):=o_
   have f5:k<(v:Int):=o_
   rw[hA];go_upto_region 6 with fail;clear c0 c1 c2 c3 c4 c5 c6 c7 c8 c9 W b6;generalize wr.alloc _=W2 at*;generalize wr.heap.size=gC at*;obtain⟨⟨a0,a1,a2,a3,a4,a5,a6,a7,a8,a9,e2,d7⟩,_⟩:=aa.gu b0;obtain⟨x0,x1,_,_⟩:=p.o.two;have O:=kp (λw=>HC x w b1 Hx);have q1:¬(x.key:Int)<0:=o_
   have q2:¬(size:Nat)<=(x.key:Int):=o_
   obtain _|q:=k
   .go_wp2;refine wp_region_noPanic ?_;refine br (t:=99) (S:=(λ_=>True)) k_ trivial (λd=> ?_);refine eR 0 1 2 d ?_;refine sk 3 d ?_;refine sk 4 d ?_;refine sk 5 d ?_;refine sk 6 d ?_;refine sk 7 d ?_;refine sk 8 d ?_;refine sk 9 d ?_;refine sk 10 d ?_;refine sk 11 d ?_;refine tB 12 13 d ?_;refine bQ k_ ?_ _;try clear d
    refine NoPanic.normal ?_;go_wp2_with fail;refine(O _).mono ?_;rintro e w3⟨rfl,r⟩;have g:=kp (p.o.drew.under r);have E:=kp (z.o.drew.trans (r.mono z.o.size));go_wp2;exact⟨⟨1,o_,o_,g,E⟩,o_⟩
   .have H:q<l.length:=o_
    obtain⟨b',d2,R,b7,p0,_⟩:=nV M q H;have C:=hA.symm.trans R;injection C with C;injection C with b8 b4 _;subst b8 b4;have V:=Y q rfl;generalize(l[q]'H).key=pk at*;have r1:¬(x.key:Nat)<=(pk:Int):=o_
    have f3:decide (x.key<=pk)=false:=o_;have d4:IntKind.i64.wrap _=q:=IntWalk.i64_in _ o_;have f4:0<=(q:Int):=o_
    have e6:q<(v:Int):=o_
    clear V R b7;go_wp2;refine wp_region_noPanic ?_;refine br (t:=99) (S:=(λw'=>w'.cell? _=some (.int _ _)/\w'.cell? _=some (.int _ _))) k_ ⟨p0,a0⟩ (λd=> ?_);refine tD 0 1 2 3 d ?_;refine tD 4 5 6 7 d ?_;refine tD 8 9 10 11 d ?_;refine tB 12 13 d ?_;refine bQ k_ ?_ _;try clear d
    refine NoPanic.normal ?_;go_wp2_with fail;refine(O _).mono ?_;rintro e w3⟨rfl,r⟩;have g:=kp (p.o.drew.under r);have E:=kp (z.o.drew.trans (r.mono z.o.size));go_wp2;exact⟨⟨q+2,o_,o_,g,E⟩,o_⟩
  .obtain rfl:k=v:=o_
   have Hf:=kp (HQ _ u);go_wp2;exact Hf
end
def aH(w:World)(g o:Nat):LV->World
 | []=>w
 |v::b=>aH (w.setCell (M g o) v) g (o+1) b
def ee{k g}(hk:k≠g):∀(b:LV)(w:World)(o:Nat),(aH w g o b).heap[k]? = w.heap[k]?
 | [],_,_=>rfl
 |v::b,w,o=>(ee hk b _ _).trans (Below.heap_setCell w (M g o) v k hk)
def nH g:∀(b:LV)(w:World)(o:Nat),(aH w g o b).heap.size=w.heap.size
 | [],_,_=>rfl
 |v::b,w,o=>(nH g b _ _).trans (by simp)
def fq{B g x}(c:B<=g):∀(b:LV)(w:World)(o:Nat),Below B x w->Below B x (aH w g o b)
 | [],_,_,h=>h
 |v::b,w,o,h=>fq c b _ _ (h.setCell (p:=(M g o)) c v)
def yY{p g x}(c:p g):∀(b:LV)(w:World)(o:Nat),aq p x w->aq p x (aH w g o b)
 | [],_,_,h=>h
 |v::b,w,o,h=>yY c b _ _ (h.trans (aq.set w (M g o) v c))
def sQ{g t}:∀(b:LV)(w:World)(pre post:LV),aa w g t (pre++post).toArray->b.length=post.length->aa (aH w g pre.length b) g t (pre++b).toArray
 | [],w,pre,post,h,c=>by
  have:post=[]:=length_eq_zero_iff.1 c.symm;subst this;exact h
 |v::b,w,pre,[],h,c=>by cases c
 |v::b,w,pre,p::post,h,c=>by
  have h1:=h.set pre.length v;have e:((pre++p::post).toArray.setIfInBounds pre.length v)=((pre++[v])++post).toArray:=s_;rw[e]at h1;have h2:=sQ b _ _ _ h1 r_;rw[aE,append_assoc]at h2;exact h2
def dS{g t w cs}(h:aa w g t cs) b(c:b.length=cs.size):aa (Tc.aH w g 0 b) g t b.toArray:=by
 have:=sQ b w [] _ o_ o_;grind
def Ap(w:World)(v:Value)(A:OA)(c:LV):Prop:=Row w w.heap.size A c/\∀b off,A=some ⟨b,off,none⟩->c≠[]->v.ownBlock≠some b
def eB(B:Nat)(A:OA)(c:LV):Prop:=∀b off,A=some ⟨b,off,none⟩->c≠[]->B<=b
def Ap.app{wr w' v p A q}(h:Ap wr v A q)(f:App wr w' v p):Ap w' p A q:=by
 refine⟨(Row.app h.1 f o_ h.2).more f.grown.size,λb off e c=> ?_⟩;obtain g|⟨k,g,hk⟩:=f.j4
 .rw[g];exact h.2 b _ e c
 .rw[g];intro m;injection m with m;obtain h0|⟨u,n,d,r,_⟩:=h.1
  .grind
  grind
def Ap.below{w w' v A b}(h:Ap w v A b)(c:E w w'):Ap w' v A b:=⟨(h.1.below c).more c.size,h.2⟩
def Ap.new{w v A f B n m c e}(d:w.ownsRow B e m (U A n c) n f)(p:∀k,v.ownBlock=some k->k<B):Ap w v A f:=by
 refine⟨dF d,λb off e q g=> ?_⟩;have h1:=p b g;rw[e]at d;have h2:=(d.lt b rfl).1;omega
def eB.own{w:World}{A f B0 B n m c e}(d:w.ownsRow B e m (U A n c) n f)(p:B0<=B):eB B0 A f:=by
 intro b off h g;rw[h]at d;exact aF p (d.lt b rfl).1
def eB.less{B d A f}(h:eB B A f)(g:d<=B):eB d A f:=λb off e c=>aF g (h b _ e c)
def Ap.aJ{w B v A d}(h:Ap w v A d)(f:eB B A d){p}(g:p.block<B) u:Ap (w.setCell p u) v A d:=by
 refine⟨?_,h.2⟩;rw[show(w.setCell p u).heap.size=w.heap.size by simp];exact mI h.1 (λb off e c=>Below.heap_setCell w p u b (by have:=f b _ e c;omega))
def l5{w:World}{B e sz n v xs}(h:w.ownsRow B e sz v n xs){p}(d:p.block<B) u:(w.setCell p u).ownsRow B e sz v n xs:=by
 obtain⟨h1,h2⟩:=h;refine⟨h1,?_⟩;obtain h2|⟨g,cap,cur,e,c,b,r⟩:=h2
 .grind
 .exact .inr ⟨g,_,_,e,c,(Below.heap_setCell w p u g o_).trans b,r⟩
def db(w:World)(B:Nat)(v:Value)(ls:List Ll):Prop:=w.ownsRow B 223 1 v ls.length (ls.map dq)/\∀l∈ls,Ap w v l.A (l.cs.flatMap ch)/\eB B l.A (l.cs.flatMap ch)
def db.nil w B:db w B (Z) []:=⟨cK _ _ _ _,λx hx=>r_⟩
def db.below{w w' B v ls}(h:db w B v ls)(b:E w w'):db w' B v ls:=⟨bS h.1 b,λl c=>⟨(h.2 l c).1.below b,(h.2 l c).2⟩⟩
def db.base{w B b v ls}(h:db w B v ls)(c:b<=B):db w b v ls:=⟨dZ h.1 c,λl d=>⟨(h.2 l d).1,(h.2 l d).2.less c⟩⟩
def db.aJ{w B v ls}(h:db w B v ls){p}(c:p.block<B) u:db (w.setCell p u) B v ls:=⟨l5 h.1 c u,λl b=>⟨(h.2 l b).1.aJ (h.2 l b).2 c u,(h.2 l b).2⟩⟩
def db.app{w w' B n c b e A d ls l}(h:db w B (U A n c) ls)(m:Ap w (U A n c) l.A (l.cs.flatMap ch))(q:eB B l.A (l.cs.flatMap ch))(p:w'.ownsRow B 223 1 (U d b e) (n+1) (ls.map dq++[dq l]))(f:App w w' (U A n c) (U d b e))(g:ls.length=n):db w' B (U d b e) (ls++[l]):=by
 refine⟨?_,λx hx=> ?_⟩
 .grind
 .obtain hx|hx:=mem_append.1 hx
  .exact⟨(h.2 x hx).1.app f,(h.2 x hx).2⟩
  .rw[mem_singleton.1 hx];exact⟨m.app f,q⟩
def db.at_{w B n c A ls}(h:db w B (U A n c) ls):Row w w.heap.size A (ls.map dq)/\∀l∈ls,Row w w.heap.size l.A (l.cs.flatMap ch):=by
 obtain⟨g,m,e⟩:=bY h.1;injection e with b d f;subst b d f;exact⟨dF h.1,λx hx=>(h.2 x hx).1.1⟩
def gW(B:Nat)(n:Nd):Prop:=eB B n.A (n.ls.map dq)/\∀l∈n.ls,eB B l.A (l.cs.flatMap ch)
def db.from_{w B n c A ls}(h:db w B (U A n c) ls):eB B A (ls.map dq)/\∀l∈ls,eB B l.A (l.cs.flatMap ch):=by
 obtain⟨g,m,e⟩:=bY h.1;injection e with b d f;subst b d f;exact⟨eB.own h.1 o_,λx hx=>(h.2 x hx).2⟩
def wQ(l:List Cl):∀u∈l.flatMap ch,u.oneCell'=true:=by
 intro u d;obtain⟨c,_,b⟩:=mem_flatMap.1 d;exact sW c u b
def Ii a n c d w(z:n<=1000000)(C:d.length=n*12)(D:∀j u,d[j]? = some u->w.cell? (a.add j)=some u)(h1:∀u∈d,u.oneCell'=true) :
 Calls prog 189 #[U (some a) n c] w (ly 155 12 n d w):=by
 have q:∀ w(a:OA) n c p x,(binOp _ 223 (U a n c) (U _ p x)).run _ w = .ok _ w:=λw a n c p x=>Lib.run_eql_slice_nil w _ _ a n c p x underlying223;obtain⟨A,r,m,v,s⟩:=info_parts o6;have F:Kp (∀f w',w'.ownsRow w.heap.size 155 12 f n d->E w _->ly _ _ n d w _ w'):=λf w' a b=>⟨f,rfl,a,b⟩;generalize H:ly _ _ n d w=Q at*;go_in;go_wp2_with(at_builtin;refine wpList_append_own _ rfl _ _ _ rfl _ 155 A _ _ _ underlying223 r m v s rfl d_ _ _ _ rfl (World.ownsRow_made w _ 0 (ae _) o_ rfl) a n c d rfl ?qc1 ?qc2 ?qc3 ?qc4 ?qc5 ?qc6 ?_)
 case qc1=>omega
 .intro j u B;exact Lib.cell?_alloc_some _ ((J D) j u B)
 case qc3=>omega
 case qc4=>rw[Nat.zero_add];unfold maxLen;omega
 case qc5=>rw[Nat.zero_add];omega
 case qc6=>simp
 intro f G g e y;go_wp2;exact F _ _ o_ ((bR.alloc o_ _).grown (J e) s_ (by intro k hk;simp[Value.ownBlock]at hk;omega))
def Ih n c w:Calls prog 189 #[U none n c] w (ly 155 12 0 [] w):=by
 have q:∀ w(a:OA) n c b d,(binOp _ 223 (U a n c) (U _ b d)).run _ w = .ok _ w:=λw a n c b d=>Lib.run_eql_slice_nil w _ _ a n c b d underlying223;go_in;go_wp2;go_ret;exact⟨_,rfl,cK _ _ _ _,bR⟩
def Ig A c(l:List Cl) w(e:l.length<=1000000)(d:Row w w.heap.size A (l.flatMap ch)) :
 Calls prog 189 #[U A l.length c] w (ly 155 12 l.length (l.flatMap ch) w):=by
 obtain _|a:=A
 .have h0:l.flatMap ch=[]:=by
   obtain h|⟨b,off,h,_⟩:=d
   . omega
   .cases h
  have h1:l.length=0:=by
   have:=iX mr l;rw[h0]at this;simp at this;omega
  rw[h0,h1];exact Ih _ _ _
 .exact Ii a _ c _ w e (iX mr l) (AL d) (wQ l)
def Ip{a b:Nat}:(eW a b<0)↔a<b:=by
 unfold eW;omega
end Tc
namespace Tc
open List Go.RowKit Base Crc Go.Proofs.YtibjlpkpljnicaaGreatDoor.Nm Go.Proofs.Tryz
def dQ(n:Nat):ByteArray:=str (bX n)
def kF n:(dQ n).size<=9:=by
 have:=j6 n;have h:=(j7 n).2;show(bX n).toArray.size<=9;grind
def Gy o a b:0<=bits o .u64 a b/\bits o .u64 a b<18446744073709551616:=by
 have h:=wf_bits o .u64 a b;simp[Lit.wf,IntKind.min,IntKind.max,IntKind.signed,IntKind.bits]at h;omega
def dW(z:Int):Int:=if z<0 then bits .or .u64 (IntKind.u64.wrap (IntKind.u64.wrap (bits .xor .i64 (-1) z)*2)) 1 else IntKind.u64.wrap (IntKind.u64.wrap z*2)
def o0 z:0<=dW z/\dW z<18446744073709551616:=by
 unfold dW;split
 .exact Gy _ _ _
 .have h:=wf_wrap .u64 (IntKind.u64.wrap z*2);simp[Lit.wf,IntKind.min,IntKind.max,IntKind.signed,IntKind.bits]at h;omega
def gK(z:Int):ByteArray:=dQ (dW z).toNat
def qq(s:ByteArray):ByteArray:=dQ s.size++s
def lK z:(gK z).size<=9:=kF _
def ir(s:ByteArray)(w:World)(e:Ending)(w':World):Prop:=e = .returned (T s)/\E w w'
def Jd z w:Calls prog 344 #[I z] w λe w'=>e = .returned (.int .u64 (dW z))/\w=w':=by
 unfold dW;by_cases b:z<0
 .rw[if_pos b];go_in;go_wp2;go_ret;simp
 .rw[if_neg b];go_in;go_wp2;go_ret;simp
def uf(n:Nat) w(b:n<18446744073709551616):Calls prog 217 #[.int .u64 n] w (ir (dQ n) w):=NV n w b
def LR z w:Calls prog 315 #[I z] w (ir (gK z) w):=by
 have d:=J (Jd z w);have b:=J (uf (dW z).toNat w (by have:=o0 z;omega));have c:((dW z).toNat)=dW z:=by have:=o0 z;omega
 unfold gK;rw[c]at b;go_in;go_wp2_with fail;apply d.mono;rintro e w'⟨rfl,rfl⟩;go_wp2_with fail;apply b.mono;rintro e w'⟨rfl,f⟩;go_wp2;go_ret;trivial
def O3 z w:Calls prog 277 #[I z] w (ir (gK z) w):=by
 have b:=J (LR z w);go_in;go_wp2_with fail;apply b.mono;rintro e w'⟨rfl,c⟩;go_wp2;go_ret;trivial
def ug z w(h:z<9223372036854775808):Calls prog 151 #[I z] w (ir (dQ z.toNat) w):=by
 by_cases c:z<0;focus
  have e:z.toNat=0:=o_;rw[e];have b:Kp (Calls _ _ #[.int _ 0] w _):=uf 0 w d_;clear e
 rotate_left;focus
  obtain⟨k,rfl⟩:∃k:Nat,z=k:=⟨z.toNat,o_⟩;rw[show((k:Int)).toNat=k by omega];have b:=J (uf k w o_);clear c
 all_goals
  go_in;go_wp2_with fail;apply b.mono;rintro e w'⟨rfl,d⟩;go_wp2;go_ret;exact⟨rfl,d⟩
def O4 s w(h:s.size<=4611686018427387904):Calls prog 153 #[T s] w (ir (qq s) w):=by
 have b:Kp (Calls _ _ #[I s.size] w (ir (dQ s.size) w)):=ug _ w o_;unfold qq;have d:¬9223372036854775807<(dQ s.size).size+s.size:=by have:=kF s.size;omega
 go_in;go_wp2_with fail;apply b.mono;rintro e w'⟨rfl,c⟩;go_wp2;go_ret;trivial
def cS(keys:LN):List UInt8:=keys.flatMap bX
def CU{k}(h:k<128):bX k=[bw k]:=by
 have:aM k=1:=by unfold aM;grind
 unfold bX;rw[this];simp[lead,be]
def yb{k}(h:¬k<128)(h2:k<16384):bX k=[bw (128+k / 256),bw k]:=by
 have:aM k=2:=by unfold aM;grind
 unfold bX;rw[this];simp[lead,be]
def yC{a b}(h:a<b)(c:b<256):bw a<bw b:=by
 unfold bw;rw[UInt8.lt_iff_toNat_lt,UInt8.toNat_ofNat',UInt8.toNat_ofNat'];omega
def LQ{x y}(h:x<y)(b:y<200) u v:bX x++u<bX y++v:=by
 by_cases h1:x<128
 .rw[CU h1];by_cases h2:y<128
  .rw[CU h2];exact cons_lt_cons_iff.2 (.inl (yC h o_))
  .rw[yb h2 o_];exact cons_lt_cons_iff.2 (.inl (yC o_ o_))
 .rw[yb h1 o_,yb o_ o_];refine cons_lt_cons_iff.2 (.inr ⟨o_,cons_lt_cons_iff.2 (.inl (yC h o_))⟩)
def zY:∀(p:List UInt8){u v:List UInt8},u<v->p++u<p++v
 | [],_,_,h=>h
 |a::p,_,_,h=>cons_lt_cons_iff.2 (.inr ⟨rfl,zY p h⟩)
def tw:∀{a b:LN},a.length=b.length->(∀x∈a,x<200)->(∀x∈b,x<200)->aI a b<0->cS a<cS b
 | [],[],_,_,_,h=>by trivial
 |x::a,y::b,g,f,d,h=>by
  rw[aI]at h;show bX x++cS a<bX y++cS b;obtain e|e|e:=Nat.lt_trichotomy x y
  .exact LQ e (d y mem_cons_self) _ _
  .subst e;refine zY _ (tw r_ (λz c=>f z (mem_cons_of_mem _ c)) (λz c=>d z (mem_cons_of_mem _ c)) ?_);omega
  omega
def BE{a b}(d:a.length=b.length)(c:∀x∈a,x<200)(f:∀x∈b,x<200)(h:cS a=cS b):a=b:=by
 obtain e|e|e:=Int.lt_trichotomy (aI a b) 0
 .have:=tw d c f e;grind
 .exact nW e
 .have:=tw d.symm f c (by rw[jU];omega);grind
end Tc
namespace Tc
open List Go.RowKit Base Go.Proofs.Tryz
def nB(a:Ag)(k:Nat)(o:ByteArray):ByteArray:=if 1<a.c then o++gK (ps a k)++(gK (pn a k)++gK (px a k))else o++gK (ps a k)
def gY(a:Ag):Nat->ByteArray
 |0=>gK a.c
 |k+1=>nB a k (gY a k)
def zP a k:(gY a k).size<=9+27*k:=by
 induction k with
 |zero=>exact lK _
 |succ k b=>
  have h1:=lK (ps a k);have h2:=lK (pn a k);have c:=lK (px a k);unfold gY nB;grind
def PO g m W(h1:1<=m)(b:m<=3):(Instr.sliceAt 76 (Y g 1) none (some (N m)) none).run prog W = .ok (U (some ⟨g,1,none⟩) m 3) W:=by
 have hk:m=1\/m=2\/m=3:=o_;rcases hk with rfl|rfl|rfl<;>rfl
def G9 m a w(V:1<=m)(hm:m<=3)(ho:eS m a) :
 Calls prog 218 #[N m,.agg (aA a)] w (R_ (.tuple #[.string (gY a m),.int .i64 0]) w):=by
 have G:=J (λw=>sL m a w V hm ho);have M:=J O3;have b3:=J (zP a);have L:Kp (gK _=gY a 0):=rfl;have a8:Kp (∀k,1<a.c->gY a k++gK (ps a k)++(gK (pn a k)++gK (px a k))=gY a (k+1)):=(λk h=>by show _=nB a k _;unfold nB;grind);have b4:Kp (∀k,¬1<a.c->gY a k++gK (ps a k)=gY a (k+1)):=(λk h=>by show _=nB a k _;unfold nB;grind);have Z:=(ah _ w).alloc (ae _) (.cells (aA a) 78);have u:=J (aa.new w 78 (aA a));have y:=J Z;have z:Kp (∀ W k,k<3->aa W _ 78 (aA a)->C W _ (1+k*3) (I (ps a k))/\C W _ (1+k*3+1) (I (pn a k))/\C W w.heap.size (1+k*3+2) (I (px a k))):=(λW k hk h=>by
  obtain _|_|_|k:=k
  .exact⟨h.cell 1,h.cell 2,h.cell 3⟩
  .exact⟨h.cell 4,h.cell 5,h.cell 6⟩
  .exact⟨h.cell 7,h.cell 8,h.cell 9⟩
  .omega)
 have Y:Kp (∀ W,aa W _ 78 (aA a)->C W w.heap.size 0 (I _)):=λW h=>h.cell 0;have U:=J (λW=>PO w.heap.size m W V hm);have X:Kp (∀W,aa W w.heap.size 78 (aA a)->_):=λW h=>(aa.cr h).1;clear Z ho;have D:=X _ u;go_in;go_wp2_with fail;apply(G _).mono;generalize O:w.alloc _=Z at*;clear O D;rintro e D⟨rfl,F⟩;have H:=ay y F;have D:=bu u F;have c0:=Y _ D;clear F u y G;go_wp2_with fail;apply(M _ _).mono;rintro e y⟨rfl,A⟩;have f:=ay H A;have R:=bu D A;clear A D H c0;rw[L];have u:=U y;go_wp2;clear u;go_loopw [6,20] (λu B wr=>∃k:Nat,k<=m/\B = N k/\u = T (gY a k)/\aa wr w.heap.size 78 (aA a)/\E w wr) (λ_ B _=>m-(intOf B).toNat)
 case atStart=>exact⟨0,o_,rfl,rfl,R,f⟩
 .clear R f;obtain⟨k,hk,rfl,rfl,O,U⟩:=hrel;have x:=J O;have L:=J U;clear O U;by_cases u:k<m
  .obtain⟨c0,c1,c2⟩:=z _ k o_ x;have y:=(ah _ wr).alloc (ae _) (.cells #[I (ps a k),I (pn a k),I (px a k)] 75);have p:=J (aa.new wr 75 #[I (ps a k),I (pn a k),I (px a k)]);have f:=ay L y;have r:=bu x y;have u:0<=(k:Int):=o_;have u:k<(m:Int):=o_;have u:=b3 k;have u:¬9223372036854775807<(gY a k).size+(gK (ps a k)).size:=by have:=lK (ps a k);omega
   go_upto_region 7 with fail;generalize wr.alloc _=u at*;clear y c0 c1 c2;have x0:C u _ 0 (I _):=p.cell 0;have y:¬9223372036854775807<(gY a k).size+(gK (ps a k)).size+((gK (pn a k)).size+(gK (px a k)).size):=by have:=lK (ps a k);have:=lK (pn a k);have:=lK (px a k);omega
   have y:¬9223372036854775807<(gK (pn a k)).size+(gK (px a k)).size:=by omega
   generalize wr.heap.size=G at*;go_wp2_with fail;apply(M _ _).mono;rintro e q⟨rfl,n⟩;have v:=ay f n;have g:=bu r n;have d:=bu p n;have u:=Y _ g;clear n x0 f r p;by_cases y:1<a.c
   .have z:=J (a8 k y);have u:∀w',E q _->C _ G 1 (I _)/\C _ G 2 (I _)/\E q w':=λw' h=>⟨(d.under h).cell 1,(d.under h).cell 2,h⟩;have D:=J u;clear u;go_wp2;apply wp_region_noPanic;refine br (t:=99) (S:=(λw'=>C w' G 1 _/\C w' G 2 _/\E q w')) k_ (D _ bR.drew) (λb=> ?_);apply tD 0 1 2 4 b;apply tk 5 b;refine oT 3 λK hK=>?_;go_simp;apply(M _ _).mono;rintro e U⟨rfl,u⟩;refine oK hK ?_ λb=>?_
    .exact D _ (b.2.2.trans (u.mono o_))
    refine oT 6 λK hK=>?_;go_simp;apply(M _ _).mono;rintro e G⟨rfl,M⟩;refine oK hK ?_ λb=>?_
    .exact D _ (b.2.2.trans (M.mono b.2.2.size))
    refine oT 7 λK hK=>?_;go_simp;refine oK hK ?_ λb=>?_
    . omega
    refine oT 8 λK hK=>?_;go_simp;refine oK hK ?_ λb=>?_
    . omega
    apply tk 9 b;refine bQ k_ ?_ _;try clear b
    apply NoPanic.normal;have s:E q G:=(bR.drew.trans u).trans (M.mono (u.size));go_wp2;exact⟨⟨k+1,o_,o_,by rw[<-z],g.under s,v.trans (s.mono v.size)⟩,o_⟩
   .have z:=J (b4 k o_);have O:=decide_eq_false y;go_wp2;exact⟨⟨k+1,o_,o_,by rw[<-z],g,v⟩,o_⟩
  .obtain rfl:k=m:=o_;go_wp2;go_ret2;trivial
def fX(last:Bool)(m:Nat)(c:Cl):ByteArray:=if last=true then gY c.ag m else dQ c.child
def wN last m c(b:m<=3):(fX last m c).size<=90:=by
 unfold fX;split
 .have:=zP c.ag m;omega
 .have:=kF c.child;omega
def I7 A n c m aj x w(L:1<=n)(q:n<=1000000)(hd:aj<=1000000)(p:1<=m)(H:m<=3)(hx:x.child<=2000000)(I:kj (decide (aj+1=n)) m x) :
 Calls prog 152 #[.agg #[U A n c,N m],N aj,.agg (bH x)] w (ir (fX (decide (aj+1=n)) m x) w):=by
 obtain⟨key,child,ac,s0,n0,x0,s1,n1,x1,s2,n2,x2⟩:=x;have b:=(ah _ w).alloc (ae _) (.cells #[U A n c,N m] 43);have y:=b.alloc o_ (.cells (bH ⟨key,child,ac,s0,n0,x0,s1,n1,x1,s2,n2,x2⟩) 155);obtain⟨r,s,z⟩:=j3_ ((aa.new w 43 #[U A n c,N m]).alloc (.cells (bH ⟨key,child,ac,s0,n0,x0,s1,n1,x1,s2,n2,x2⟩) 155)) (aa.lay (w:=w.alloc (.cells #[U A n c,N m] 43)) (g:=w.heap.size+1) (t:=155) (cs:=bH ⟨key,child,ac,s0,n0,x0,s1,n1,x1,s2,n2,x2⟩) s_) y;have D:=J (λw=>mD A n c m _ w L q hd);clear y b;dsimp only at hx;by_cases C:aj+1=n
 .rw[decide_eq_true C]at D I⊢;obtain⟨h1,h2⟩:=I;have W:=J (λw=>G9 m ⟨_,_,_,_,_,_,_,_,_,_⟩ w p H h2);rw[show fX _ m _=gY ⟨_,_,_,_,_,_,_,_,_,_⟩ m from rfl];generalize gY _ m=t at*;generalize v:ir t w=Q;have M:Kp (∀w',E w _->Q _ w'):=(λw' O=>by rw[<-v];trivial);clear v h1 h2 C L q hd p H hx;go_in;obtain⟨u,B,_,_⟩:=r.two;go_wp2_with fail;apply(D _).mono;clear u B;generalize(w.alloc _).alloc _=Y at*;rintro e R⟨rfl,b⟩;have d:=ay z b;obtain⟨u,B,_,_⟩:=(r.under b).two;have F:=(aa.gu (s.under b)).1;clear b;go_wp2_with fail;apply(W _).mono;rintro e V⟨rfl,f⟩;have G:=J (M _ (d.trans (f.mono d.size)));clear f u B F;go_wp2;exact G
 .rw[decide_eq_false C]at D⊢;rw[show fX _ m ⟨_,_,_,_,_,_,_,_,_,_,_,_⟩=dQ child from rfl];have X:=J (λw=>show Calls _ _ #[N _] w (ir (dQ child) w)from ug _ w o_);generalize dQ _=t at*;generalize v:ir t w=Q;have M:Kp (∀w',E w _->Q _ w'):=(λw' O=>by rw[<-v];trivial);clear v I C L q hd p H hx;go_in;obtain⟨u,B,_,_⟩:=r.two;go_wp2_with fail;apply(D _).mono;clear u B;generalize(w.alloc _).alloc _=Y at*;rintro e R⟨rfl,b⟩;have d:=ay z b;have F:=(aa.gu (s.under b)).1;clear b;go_wp2_with fail;apply(X _).mono;rintro e V⟨rfl,f⟩;have G:=J (M _ (d.trans (f.mono d.size)));clear f F;go_wp2;exact G
def ed(B:Nat):aN:=⟨some ⟨B+7,0,none⟩,[⟨⟨#[100]⟩,some ⟨B+2,0,none⟩,[⟨⟨#[116]⟩,some ⟨B+1,0,none⟩,[⟨#[97]⟩,⟨#[98]⟩],2,none,[],0⟩],1⟩,⟨⟨#[101]⟩,some ⟨B+6,0,none⟩,[⟨⟨#[108,111,119]⟩,some ⟨B+3,0,none⟩,[⟨#[120]⟩,⟨#[121]⟩,⟨#[122]⟩],3,some ⟨B+4,0,none⟩,[0,0,1],3⟩,⟨⟨#[116,111,112]⟩,some ⟨B+5,0,none⟩,[⟨#[112]⟩,⟨#[113]⟩],2,none,[],0⟩],2⟩],2,some ⟨B+8,0,none⟩,[⟨#[109]⟩],1⟩
def ka(B:Nat):List Rw:=[⟨some ⟨B+10,0,none⟩,[⟨#[97]⟩,⟨#[120]⟩],2,some ⟨B+11,0,none⟩,[3],1⟩,⟨some ⟨B+12,0,none⟩,[⟨#[98]⟩,⟨#[121]⟩],2,some ⟨B+13,0,none⟩,[-4],1⟩,⟨some ⟨B+14,0,none⟩,[⟨#[97]⟩,⟨#[122]⟩],2,some ⟨B+15,0,none⟩,[5],1⟩]
def vB(w:World)(e:Ending)(w':World):Prop:=e = .returned (.tuple #[.agg (aG (ed w.heap.size)),U (some ⟨w.heap.size+16,0,none⟩) 3 3])/\cQ w' w'.heap.size (ed w.heap.size)/\fT w' w'.heap.size (some ⟨w.heap.size+16,0,none⟩) (ka w.heap.size)/\E w w'
def Ds(a:UInt8):∀s∈([⟨#[a]⟩]:List ByteArray),s.size<=maxLen:=λs b=>by
 obtain rfl|b:=mem_cons.1 b
 .exact(show 1<=maxLen by decide)
 .cases b
def qg(a b:UInt8):∀s∈([⟨#[a]⟩,⟨#[b]⟩]:List ByteArray),s.size<=maxLen:=λs c=>by
 obtain rfl|c:=mem_cons.1 c
 .exact(show 1<=maxLen by decide)
 .exact Ds b s c
def Nz(a b c:UInt8):∀s∈([⟨#[a]⟩,⟨#[b]⟩,⟨#[c]⟩]:List ByteArray),s.size<=maxLen:=λs d=>by
 obtain rfl|d:=mem_cons.1 d
 .exact(show 1<=maxLen by decide)
 .exact qg b c s d
def jm{w:World}{g:Nat}{t:TypeId}{cs:AV}(h:aa w g t cs):Row w w.heap.size (some ⟨g,0,none⟩) cs.toList:=by
 refine .inr ⟨g,0,rfl,h.lt,λi v b=> ?_⟩;rw[Nat.zero_add,h.cell];grind
def sm{n:Nat}(h:Nat.ble n maxLen=true:=by rfl):n<=maxLen:=Nat.le_of_ble_eq_true h
def Lay(w W:World)(L:List (AV×TypeId)):Prop:=W.heap.size=w.heap.size+L.length/\E w W/\∀(i:Nat) p,L[i]? = some p->aa W (w.heap.size+i) p.2 p.1
def RH{w W:World}{L:List (AV×TypeId)}(n:Nat)(h:Lay w W L)(c:AV)(t:TypeId)(g:L.length+1=n:=by rfl):∃f,W.alloc (.cells c t)=f/\f.heap.size=w.heap.size+n/\Lay w f (L++[(c,t)]):=by
 refine⟨_,rfl,by simp[h.1];omega,by simp[h.1];omega,h.2.1.alloc (by rw[h.1];omega) _,λi p b=> ?_⟩;obtain hi|hi:=Nat.lt_or_ge i L.length
 .rw[getElem?_append_left hi]at b;exact(h.2.2 i p b).alloc _
 .rw[getElem?_append_right hi]at b;have d:i-L.length=0:=r_
  rw[d]at b;injection b with b;subst b;exact aa.lay (by rw[h.1];omega)
def RI{w W:World}{L:List (AV×TypeId)}(h:Lay w W L)(l:LV)(i:Nat)(hi:1<=i)(c:AV)(t:TypeId)(e:L[i]? = some (c,t)):Row (aH W w.heap.size 0 l) (aH W w.heap.size 0 l).heap.size (some ⟨w.heap.size+i,0,none⟩) c.toList:=
 jm ((ee o_ _ _ _).trans (h.2.2 i _ e))
def Nt(w:World):Calls prog 28 #[] w (vB w):=by
 have u:Kp (∀w',cQ _ _ _->fT _ _ _ _->E w _->vB w (.returned (.tuple #[.agg #[U (some _) 2 2,U (some _) 1 1],U _ 3 3])) w'):=λw' h1 h2 W=>⟨rfl,h1,h2,W⟩;generalize vB w=Q at*;have h:Lay w w []:=⟨rfl,.refl _ w,λi p A=>r_⟩;obtain⟨D,D,D,h⟩:=RH 1 h #[Z,Z] 25;obtain⟨D,D,D,h⟩:=RH 2 h #[T ⟨#[97]⟩,T ⟨#[98]⟩] 9;obtain⟨D,D,D,h⟩:=RH 3 h #[T ⟨#[116]⟩,U (some ⟨w.heap.size+1,0,none⟩) 2 2,Z] 104;obtain⟨D,D,D,h⟩:=RH 4 h #[T ⟨#[120]⟩,T ⟨#[121]⟩,T ⟨#[122]⟩] 9;obtain⟨D,D,D,h⟩:=RH 5 h #[I 0,I 0,I 1] 3;obtain⟨D,D,D,h⟩:=RH 6 h #[T ⟨#[112]⟩,T ⟨#[113]⟩] 9;obtain⟨D,D,D,h⟩:=RH 7 h #[T ⟨#[108,111,119]⟩,U (some ⟨w.heap.size+3,0,none⟩) 3 3,U (some ⟨w.heap.size+4,0,none⟩) 3 3,T ⟨#[116,111,112]⟩,U (some ⟨w.heap.size+5,0,none⟩) 2 2,Z] 104;obtain⟨D,D,D,h⟩:=RH 8 h #[T ⟨#[100]⟩,U (some ⟨w.heap.size+2,0,none⟩) 1 1,T ⟨#[101]⟩,U (some ⟨w.heap.size+6,0,none⟩) 2 2] 70;obtain⟨D,D,D,h⟩:=RH 9 h #[T ⟨#[109]⟩] 9;obtain⟨D,D,D,h⟩:=RH 10 h #[U (some ⟨w.heap.size+7,0,none⟩) 2 2,U (some ⟨w.heap.size+8,0,none⟩) 1 1] 25;simp at h;obtain⟨s0,s1,_,_⟩:=(h.2.2 9 _ rfl).two;obtain⟨H,D,y,h⟩:=RH 11 h #[T ⟨#[97]⟩,T ⟨#[120]⟩] 9;obtain⟨D,Y,z,h⟩:=RH 12 h #[I 3] 2;obtain⟨D,X,V,h⟩:=RH 13 h #[T ⟨#[98]⟩,T ⟨#[121]⟩] 9;obtain⟨C,R,L,h⟩:=RH 14 h #[I (-4)] 2;obtain⟨B,D,M,h⟩:=RH 15 h #[T ⟨#[97]⟩,T ⟨#[122]⟩] 9;obtain⟨G,O,D,h⟩:=RH 16 h #[I 5] 2;obtain⟨b,D,N,h⟩:=RH 17 h #[U (some ⟨w.heap.size+10,0,none⟩) 2 2,U (some ⟨w.heap.size+11,0,none⟩) 1 1,U (some ⟨w.heap.size+12,0,none⟩) 2 2,U (some ⟨w.heap.size+13,0,none⟩) 1 1,U (some ⟨w.heap.size+14,0,none⟩) 2 2,U (some ⟨w.heap.size+15,0,none⟩) 1 1] 83;simp at h;have g:=J (fq (ae _) [U (some ⟨w.heap.size+7,0,none⟩) 2 2,U (some ⟨w.heap.size+8,0,none⟩) 1 1] b 0 h.2.1);have s:Kp (aa (aH b w.heap.size 0 _) w.heap.size 25 _):=dS (h.2.2 0 _ rfl) [U (some ⟨w.heap.size+7,0,none⟩) 2 2,U (some ⟨w.heap.size+8,0,none⟩) 1 1] rfl;have F:=J (RI h [U (some ⟨w.heap.size+7,0,none⟩) 2 2,U (some ⟨w.heap.size+8,0,none⟩) 1 1]);have h0:=h.2.2 0 _ rfl;rw[Nat.add_zero]at h0;obtain⟨D,D,D,g1⟩:=h0.two;clear h h0;generalize q:aH b _ 0 _=e at*;simp only[aH,Nat.zero_add]at q;have x:Kp (cQ e _ (ed _)):=(by
  refine⟨sm,F 7 d_ _ _ rfl,?_,sm,F 8 d_ _ _ rfl,Ds _⟩;intro d hd;obtain rfl|hd:=mem_cons.1 hd
  .refine⟨sm,sm,F 2 d_ _ _ rfl,λt ht=> ?_⟩;obtain rfl|ht:=mem_cons.1 ht
   .exact⟨sm,F 1 d_ _ _ rfl,.inl rfl,sm,sm,qg _ _⟩
   .grind
  .obtain rfl|hd:=mem_cons.1 hd
   .refine⟨sm,sm,F 6 d_ _ _ rfl,λt ht=> ?_⟩;obtain rfl|ht:=mem_cons.1 ht
    .exact⟨sm,F 3 d_ _ _ rfl,F 4 d_ _ _ rfl,sm,sm,Nz _ _ _⟩
    .obtain rfl|ht:=mem_cons.1 ht
     .exact⟨sm,F 5 d_ _ _ rfl,.inl rfl,sm,sm,qg _ _⟩
     .grind
   .grind)
 have m:Kp (fT e _ (some ⟨w.heap.size+16,0,_⟩) (ka _)):=(by
  refine⟨sm,F _ d_ _ _ rfl,?_⟩;intro r c;obtain rfl|c:=mem_cons.1 c
  .exact⟨sm,F _ d_ _ _ rfl,qg _ _,sm,F _ d_ _ _ rfl,show∀n∈([3]),(Lit.int _ n).wf=true from by decide +kernel⟩
  .obtain rfl|c:=mem_cons.1 c
   .exact⟨sm,F _ d_ _ _ rfl,qg _ _,sm,F _ d_ _ _ rfl,show∀n∈([-4]),(Lit.int _ n).wf=true from by decide +kernel⟩
   .obtain rfl|c:=mem_cons.1 c
    .exact⟨sm,F _ d_ _ _ rfl,qg _ _,sm,F _ d_ _ _ rfl,show∀n∈([5]),(Lit.int _ n).wf=true from by decide +kernel⟩
    .cases c)
 have f:=J (u e x m g);obtain⟨t0,t1,_,_⟩:=s.two;clear F x m u g s;go_in;go_wp2;refine bodyPost_ret ?_ rfl f;simp[results,go_sem,t0,t1]
end Tc
end Go.Proofs.YtibjlpkpljnicaaGreatDoor
