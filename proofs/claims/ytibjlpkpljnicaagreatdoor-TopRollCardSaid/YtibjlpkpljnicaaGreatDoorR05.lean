/- Parts. -/
import Derived.Test.YtibjlpkpljnicaaGreatDoorR02
import Derived.Test.YtibjlpkpljnicaaGreatDoorR04
import Derived.WalkLawsBesides
import Derived.WalkSpells
import Derived.Deep.QuietTactic
import Derived.BigQuiet
import Derived.Deep.Cut
import Derived.Lib.Strings
set_option maxRecDepth 100000
set_option maxHeartbeats 8000000
set_option linter.all false
namespace Go.Proofs.YtibjlpkpljnicaaGreatDoor
namespace Tc
open List Go.RowKit Base Tryz
structure Ag where
 c:Int
 s0:Int
 n0:Int
 x0:Int
 s1:Int
 n1:Int
 x1:Int
 s2:Int
 n2:Int
 x2:Int
abbrev cA(w:World)(b o:Nat)(x:Ag):Prop:=C w b o (I x.c)/\C w b (o+1) (I x.s0)/\C w b (o+2) (I x.n0)/\C w b (o+3) (I x.x0)/\C w b (o+4) (I x.s1)/\C w b (o+5) (I x.n1)/\C w b (o+6) (I x.x1)/\C w b (o+7) (I x.s2)/\C w b (o+8) (I x.n2)/\C w b (o+9) (I x.x2)
abbrev gZ(w:World)(b:Nat)(x:Ag):Prop:=C w b 0 (I x.c)/\C w b 1 (I x.s0)/\C w b 2 (I x.n0)/\C w b 3 (I x.x0)/\C w b 4 (I x.s1)/\C w b 5 (I x.n1)/\C w b 6 (I x.x1)/\C w b 7 (I x.s2)/\C w b 8 (I x.n2)/\C w b 9 (I x.x2)
abbrev aA(a:Ag):AV:=#[I a.c,I a.s0,I a.n0,I a.x0,I a.s1,I a.n1,I a.x1,I a.s2,I a.n2,I a.x2]
def aa.cr{w:World}{g:Nat}{t:TypeId}{d b c p f m n q e r:Value}(h:aa w g t #[d,b,c,p,f,m,n,q,e,r]) :
 (C w g 0 d/\C w g 1 b/\C w g 2 c/\C w g 3 p/\C w g 4 f/\C w g 5 m/\C w g 6 n/\C w g 7 q/\C w g 8 e/\C w g 9 r) /\
 (w.frozen? (M g 0)=false/\w.frozen? (M g 1)=false/\w.frozen? (M g 2)=false/\w.frozen? (M g 3)=false/\w.frozen? (M g 4)=false/\w.frozen? (M g 5)=false/\w.frozen? (M g 6)=false/\w.frozen? (M g 7)=false/\w.frozen? (M g 8)=false/\w.frozen? (M g 9)=false):=
 ⟨⟨h.cell 0,h.cell 1,h.cell 2,h.cell 3,h.cell 4,h.cell 5,h.cell 6,h.cell 7,h.cell 8,h.cell 9⟩,⟨h.free 0,h.free 1,h.free 2,h.free 3,h.free 4,h.free 5,h.free 6,h.free 7,h.free 8,h.free 9⟩⟩
def aa.kJ{w:World}{g:Nat}{t:TypeId}{E C B A y v s p m f:Value}(b c d e n q r u x z:Value)(h:aa w g t #[E,C,B,A,y,v,s,p,m,f]) :
 aa ((((((((((w.setCell (M g 0) b).setCell (M g 1) c).setCell (M g 2) d).setCell (M g 3) e).setCell (M g 4) n).setCell (M g 5) q).setCell (M g 6) r).setCell (M g 7) u).setCell (M g 8) x).setCell (M g 9) z) g t #[b,c,d,e,n,q,r,u,x,z]:=by
 have h0:aa _ g t #[b,C,B,A,y,v,s,p,m,f]:=h.set 0 b;have h1:aa _ g t #[b,c,B,A,y,v,s,p,m,f]:=h0.set 1 c;have h2:aa _ g t #[b,c,d,A,y,v,s,p,m,f]:=h1.set 2 d;have D:aa _ g t #[b,c,d,e,y,v,s,p,m,f]:=h2.set 3 e;have L:aa _ g t #[b,c,d,e,n,v,s,p,m,f]:=D.set 4 n;have J:aa _ g t #[b,c,d,e,n,q,s,p,m,f]:=L.set 5 q;have G:aa _ g t #[b,c,d,e,n,q,r,p,m,f]:=J.set 6 r;have F:aa _ g t #[b,c,d,e,n,q,r,u,m,f]:=G.set 7 u;have H:aa _ g t #[b,c,d,e,n,q,r,u,x,f]:=F.set 8 x;have I:aa _ g t #[b,c,d,e,n,q,r,u,x,z]:=H.set 9 z;omega
def Below.kJ{w w':World}{B g:Nat}(c u f n s m d r e q:Value)(h:Below B w w')(b:B<=g) :
 Below B w ((((((((((w'.setCell (M g 0) c).setCell (M g 1) u).setCell (M g 2) f).setCell (M g 3) n).setCell (M g 4) s).setCell (M g 5) m).setCell (M g 6) d).setCell (M g 7) r).setCell (M g 8) e).setCell (M g 9) q):=
 (((((((((h.setCell b c).setCell b u).setCell b f).setCell b n).setCell b s).setCell b m).setCell b d).setCell b r).setCell b e).setCell b q
def pv(l:List Int)(i:Nat):Int:=(l[i]?).getD 0
def fW(l:List Int)(k:Nat):Ag:=⟨1,pv (l.take k) 0,pv (l.take k) 0,pv (l.take k) 0,pv (l.take k) 1,pv (l.take k) 1,pv (l.take k) 1,pv (l.take k) 2,pv (l.take k) 2,pv (l.take k) 2⟩
def dM(l:List Int):Ag:=fW l l.length
def az:Ag:=⟨0,0,0,0,0,0,0,0,0,0⟩
def yy(l:List Int)(k i:Nat):pv (l.take k) i=if i<k then pv l i else 0:=by
 unfold pv;grind
def zM(l:List Int)(k:Nat)(h:l.length<=3)(hk:l.length<=k):fW l k=dM l:=by
 unfold dM fW;grind
def zK(l:List Int):fW l 0=⟨1,0,0,0,0,0,0,0,0,0⟩:=by rfl
def sJ(l:List Int):fW l 1=⟨1,pv l 0,pv l 0,pv l 0,0,0,0,0,0,0⟩:=by simp[fW,yy]
def sK(l:List Int):fW l 2=⟨1,pv l 0,pv l 0,pv l 0,pv l 1,pv l 1,pv l 1,0,0,0⟩:=by simp[fW,yy]
def zL(l:List Int):fW l 3=⟨1,pv l 0,pv l 0,pv l 0,pv l 1,pv l 1,pv l 1,pv l 2,pv l 2,pv l 2⟩:=by simp[fW,yy]
def vI(a:Ag)(w:World)(e:Ending)(w':World):Prop:=e = .returned (.agg (aA a))/\E w w'
def Ob(A:OA)(l:List Int)(c:Nat)(w:World)(hl:l.length<=3)(hr:Row w w.heap.size A (l.map (.int .i64))):Calls Tryz.prog 31 #[.slice A l.length c] w (vI (dM l) w):=by
 have HQ:Kp (∀w',E w _->vI (dM l) w _ w'):=λw' h=>⟨rfl,h⟩;have W:=(ah _ w).alloc (ae _) (.cells (aA az) 78);have y:=J (W.alloc o_ (.cells (aA (fW l 0)) 78));generalize hN:l.length=n at*;go_enter Tryz.func31,Tryz.ntmps31;go_wp2;go_loopw [4] (λu wr=>∃k:Nat,k<=n/\u = I k/\aa wr w.heap.size 78 (aA az)/\aa wr (w.heap.size+1) 78 (aA (fW l k))/\E w wr) (λu _=>n-(intOf u).toNat)
 case atStart=>exact⟨0,o_,rfl,(aa.new w _ _).alloc _,aa.lay s_,y⟩
 .obtain⟨k,hk,rfl,q,e,r⟩:=hrel;by_cases s:k<n
  .have f:k<l.length:=o_
   obtain⟨b,off,rfl,u,c0⟩:=Row.at_ ((hr.below r).more r.size) (by rw[lM];exact f);rw[getElem_map]at c0;have u:0<=(k:Int):=o_;match k,hk,s,f,e,c0,u with
   |0,hk,s,f,e,c0,u=> ?_
   |1,hk,s,f,e,c0,u=> ?_
   |2,hk,s,f,e,c0,u=> ?_
   |k+3,hk,s,f,e,c0,u=>omega
   .rw[zK]at e;rw[Nat.add_zero]at c0;have m:=J e;obtain⟨⟨Z,H,T,V,L,U,N,O,G,R⟩,u⟩:=aa.cr e;have x:=J (show pv l 0=(l[0]'f) by unfold pv;rw[gE];rfl);clear e;generalize(l[0]'f)=y at*;go_wp2;apply wp_region_noPanic;refine br (t:=16) (S:=(λw'=>C w' b _ (I y)/\C w' _ 1 _/\C w' _ 2 _/\C w' _ 3 _)) k_ ⟨c0,H,T,V⟩ (λd=> ?_);apply tD 0 1 2 3 d;apply tD 4 5 6 7 d;apply tD 8 9 10 11 d;apply tB 12 13 d;refine qx (i:=14) (oi:= ?op14) (v:= ?vp14) ?ap14 k_ k_ k_ k_ (λ_ _ _ h=>h) ?bp14 d ?cp14
    case ap14=>rfl
    case bp14=>(refine Or.inl ⟨o_,?_⟩;intro w z;(try dsimp only at z);go_simp;try rfl)
    try simp only[Act.put,setIfInBounds_toArray,set_cons_zero,set_cons_succ]
    apply tk 15 d;refine fC (o:= ?op16) k_ ?ap16 k_ (λK hK=> ?bp16)
    case ap16=>rfl
    obtain⟨D,X,b0,Y⟩:=d;have d:=D;go_simp;apply hK.out _ _;apply NoPanic.normal
    go_wp2;refine⟨⟨1,o_,o_,?_,?_,?_⟩,o_⟩
    .exact((q.drew.aJ s_ _).aJ s_ _).aJ s_ _
    .rw[sJ,x];exact((m.drew.set 1 _).set 2 _).set 3 _
    .exact((r.drew.setCell s_ _).setCell s_ _).setCell s_ _
   .rw[sJ]at e;have m:=J e;obtain⟨⟨Z,H,T,V,L,U,N,O,G,R⟩,u⟩:=aa.cr e;have x:=J (show pv l 1=(l[1]'f) by unfold pv;rw[gE];rfl);clear e;generalize(l[1]'f)=y at*;go_wp2;apply wp_region_noPanic;refine br (t:=16) (S:=(λw'=>C w' b _ (I y)/\C w' _ 4 _/\C w' _ 5 _/\C w' _ 6 _)) k_ ⟨c0,L,U,N⟩ (λd=> ?_);apply tD 0 1 2 3 d;apply tD 4 5 6 7 d;apply tD 8 9 10 11 d;apply tB 12 13 d;refine qx (i:=14) (oi:= ?oq14) (v:= ?vq14) ?aq14 k_ k_ k_ k_ (λ_ _ _ h=>h) ?bq14 d ?cq14
    case aq14=>rfl
    case bq14=>(refine Or.inl ⟨o_,?_⟩;intro w z;(try dsimp only at z);go_simp;try rfl)
    try simp only[Act.put,setIfInBounds_toArray,set_cons_zero,set_cons_succ]
    apply tk 15 d;refine fC (o:= ?oq16) k_ ?aq16 k_ (λK hK=> ?bq16)
    case aq16=>rfl
    obtain⟨D,X,b0,Y⟩:=d;have d:=D;go_simp;apply hK.out _ _;apply NoPanic.normal
    go_wp2;refine⟨⟨2,o_,o_,?_,?_,?_⟩,o_⟩
    .exact((q.drew.aJ s_ _).aJ s_ _).aJ s_ _
    .rw[sK,x];exact((m.drew.set 4 _).set 5 _).set 6 _
    .exact((r.drew.setCell s_ _).setCell s_ _).setCell s_ _
   .rw[sK]at e;have m:=J e;obtain⟨⟨Z,H,T,V,L,U,N,O,G,R⟩,u⟩:=aa.cr e;have x:=J (show pv l 2=(l[2]'f) by unfold pv;rw[gE];rfl);clear e;generalize(l[2]'f)=y at*;go_wp2;apply wp_region_noPanic;refine br (t:=16) (S:=(λw'=>C w' b _ (I y)/\C w' _ 7 _/\C w' _ 8 _/\C w' _ 9 _)) k_ ⟨c0,O,G,R⟩ (λd=> ?_);apply tD 0 1 2 3 d;apply tD 4 5 6 7 d;apply tD 8 9 10 11 d;apply tB 12 13 d;refine qx (i:=14) (oi:= ?or14) (v:= ?vr14) ?ar14 k_ k_ k_ k_ (λ_ _ _ h=>h) ?br14 d ?cr14
    case ar14=>rfl
    case br14=>(refine Or.inl ⟨o_,?_⟩;intro w z;(try dsimp only at z);go_simp;try rfl)
    try simp only[Act.put,setIfInBounds_toArray,set_cons_zero,set_cons_succ]
    apply tk 15 d;refine fC (o:= ?or16) k_ ?ar16 k_ (λK hK=> ?br16)
    case ar16=>rfl
    obtain⟨D,X,b0,Y⟩:=d;go_simp;apply hK.out _ _;apply NoPanic.normal
    go_wp2;refine⟨⟨3,o_,o_,?_,?_,?_⟩,o_⟩
    .exact((q.drew.aJ s_ _).aJ s_ _).aJ s_ _
    .rw[zL,x];exact((m.drew.set 7 _).set 8 _).set 9 _
    .exact((r.drew.setCell s_ _).setCell s_ _).setCell s_ _
  .obtain rfl:k=n:=o_;rw[zM l k o_ o_]at e;have m:=J e;generalize dM l=a at*;obtain⟨⟨Z,H,T,V,L,U,N,O,G,R⟩,_⟩:=aa.cr m;obtain⟨y,u⟩:=aa.cr q;go_wp2;have F:=J (Below.kJ (I a.c) (I a.s0) (I a.n0) (I a.x0) (I a.s1) (I a.n1) (I a.x1) (I a.s2) (I a.n2) (I a.x2) r (ae _));have B:=aa.kJ (I a.c) (I a.s0) (I a.n0) (I a.x0) (I a.s1) (I a.n1) (I a.x1) (I a.s2) (I a.n2) (I a.x2) q;revert F B;generalize((((((((((wr.setCell _ _).setCell _ _).setCell _ _).setCell _ _).setCell _ _).setCell _ _).setCell _ _).setCell _ _).setCell _ _).setCell _ _)=u;intro F B;obtain⟨⟨Z,H,T,V,L,U,N,O,G,R⟩,_⟩:=aa.cr B;refine bodyPost_ret (by simp[results,go_sem,Z,H,T,V,L,U,N,O,G,R]) rfl (HQ _ F)
end Tc
namespace Tc
open List Go.RowKit Base
def fit(n:Int):Prop:= -9223372036854775808<=n/\n<=9223372036854775807
instance(n:Int):Decidable (fit n):=inferInstanceAs (Decidable (_/\_))
def cap(n:Int):Int:=if fit n then n else 0
def fits(n:Int):Bool:=decide (fit n)
def pz{n:Int}(h:fit n):cap n=n:=if_pos h
def sR{n:Int}(h:¬fit n):cap n=0:=if_neg h
def pJ{n:Int}(h:fit n):fits n=true:=by simp[fits,h]
def th{n:Int}(h:¬fit n):fits n=false:=by simp[fits,h]
def FV(a b:Int)(w:World)(d:fit a)(c:fit b)(h:fit (a+b)) :
 Calls Tryz.prog 203 #[.int .i64 a,.int .i64 b] w λe w'=>e = .returned (.tuple #[.int .i64 (a+b),.bool true])/\w=w':=by
 unfold fit at d c h;obtain⟨n,f⟩:=c;obtain⟨h1,h2⟩:=h;go_enter Tryz.func203,Tryz.ntmps203;go_wp2
 all_goals(go_ret2;simp)
def FU(a b:Int)(w:World)(d:fit a)(c:fit b)(h:¬fit (a+b)) :
 Calls Tryz.prog 203 #[.int .i64 a,.int .i64 b] w λe w'=>e = .returned (.tuple #[.int .i64 0,.bool false])/\w=w':=by
 unfold fit at d c h;obtain⟨m,g⟩:=d;obtain⟨n,f⟩:=c;by_cases h0:0<b
 .have h1:9223372036854775807-b<a:=o_;clear h;go_enter Tryz.func203,Tryz.ntmps203;go_wp2
  all_goals(go_ret2;simp)
 .have h1:a < -9223372036854775808-b:=o_;have h2:b<0:=o_;clear h;go_enter Tryz.func203,Tryz.ntmps203;go_wp2
  all_goals(go_ret2;simp)
def zI(a b:Int)(w:World)(d:fit a)(c:fit b) :
 Calls Tryz.prog 203 #[.int .i64 a,.int .i64 b] w λe w'=>e = .returned (.tuple #[.int .i64 (cap (a+b)),.bool (fits (a+b))])/\w=w':=by
 by_cases h:fit (a+b)
 .rw[pz h,pJ h];exact FV a b w d c h
 .rw[sR h,th h];exact FU a b w d c h
end Tc
namespace Tc
open List Go.RowKit Base Go.Proofs.Tryz
def ju(a b:Ag):Ag:=⟨a.c+b.c,a.s0+b.s0,min a.n0 b.n0,max a.x0 b.x0,a.s1+b.s1,min a.n1 b.n1,max a.x1 b.x1,a.s2+b.s2,min a.n2 b.n2,max a.x2 b.x2⟩
def cB(a:Ag):Prop:=fit a.c/\fit a.s0/\fit a.n0/\fit a.x0/\fit a.s1/\fit a.n1/\fit a.x1/\fit a.s2/\fit a.n2/\fit a.x2
def vA(s n x b c d:Int)(w:World)(e:Ending)(w':World):Prop:=e = .returned (.tuple #[.agg #[I (cap (s+b)),I (min n c),I (max x d)],.bool (fits (s+b))])/\E w w'
def N0(s n x b d f:Int)(w:World)(q:fit s)(m:fit b):Calls prog 204 #[.agg #[I s,I n,I x],.agg #[I b,I d,I f]] w (vA s n x b d f w):=by
 have r:=J (λw=>zI s b w q m);have c:=kp (show∀ mn g w',mn=min n d->g=max x f->E w w'->vA s n x b d f w (.returned (.tuple #[.agg #[I _,I mn,I g],.bool _])) w' fromλmn g w' h1 h2 p=>by subst h1 h2;trivial);generalize u:vA s n x b d f w=Q at*;go_in;go_wp2_with fail;apply(r _).mono;rintro e w'⟨rfl,rfl⟩;go_wp2
 all_goals first
  |refine bodyPost_ret (v:= .tuple #[.agg #[.int .i64 (cap (s+b)),.int .i64 n,.int .i64 x],.bool (fits (s+b))]) (by simp[results,go_sem]) rfl (c.o _ _ _ (by omega) (by omega) ((((ah _ w).alloc (ae _) _).alloc (by simp) _).alloc (by simp;omega) _))
  |refine bodyPost_ret (v:= .tuple #[.agg #[.int .i64 (cap (s+b)),.int .i64 n,.int .i64 f],.bool (fits (s+b))]) (by simp[results,go_sem]) rfl (c.o _ _ _ (by omega) (by omega) ((((ah _ w).alloc (ae _) _).alloc (by simp) _).alloc (by simp;omega) _))
  |refine bodyPost_ret (v:= .tuple #[.agg #[.int .i64 (cap (s+b)),.int .i64 d,.int .i64 x],.bool (fits (s+b))]) (by simp[results,go_sem]) rfl (c.o _ _ _ (by omega) (by omega) ((((ah _ w).alloc (ae _) _).alloc (by simp) _).alloc (by simp;omega) _))
  |refine bodyPost_ret (v:= .tuple #[.agg #[.int _ _,.int _ d,.int _ f],.bool _]) (by simp[results,go_sem]) rfl (c _ _ _ o_ o_ (((bR.alloc o_ _).alloc s_ _).alloc o_ _))
def ps(a:Ag)(k:Nat):Int:=match k with|0=>a.s0|1=>a.s1|_=>a.s2
def pn(a:Ag)(k:Nat):Int:=match k with|0=>a.n0|1=>a.n1|_=>a.n2
def px(a:Ag)(k:Nat):Int:=match k with|0=>a.x0|1=>a.x1|_=>a.x2
def aP(a b:Ag)(k:Nat):Ag:=⟨a.c+b.c,if 0<k then a.s0+b.s0 else 0,if 0<k then min a.n0 b.n0 else 0,if 0<k then max a.x0 b.x0 else 0,if 1<k then a.s1+b.s1 else 0,if 1<k then min a.n1 b.n1 else 0,if 1<k then max a.x1 b.x1 else 0,if 2<k then a.s2+b.s2 else 0,if 2<k then min a.n2 b.n2 else 0,if 2<k then max a.x2 b.x2 else 0⟩
def nK(a b:Ag):Prop:=fit (a.c+b.c)/\fit (a.s0+b.s0)/\fit (a.s1+b.s1)/\fit (a.s2+b.s2)
instance(a b:Ag):Decidable (nK a b):=inferInstanceAs (Decidable (_/\_))
def aR(a b:Ag):Option Ag:=if a.c=0 then some b else if b.c=0 then some a else if nK a b then some (ju a b)else none
def cB.ps{a:Ag}(h:cB a)(k:Nat):fit (ps a k):=by
 unfold cB at h;unfold Tc.ps;grind
def aa.part{w:World}{g:Nat}{t:TypeId}{a:Ag}(h:aa w g t (aA a)){k:Nat}(hk:k<3) :
 (C w g (1+k*3) (I (ps a k))/\C w g (1+k*3+1) (I (pn a k))/\C w g (1+k*3+2) (I (px a k))) /\
 (w.frozen? (M g (1+k*3))=false/\w.frozen? (M g (1+k*3+1))=false/\w.frozen? (M g (1+k*3+2))=false):=by
 obtain⟨⟨D,m,s,z,r,A,y,d,x,q⟩,⟨E,c,n,f,u,v,p,e,b,B⟩⟩:=aa.cr h;match k,hk with
 |0,_=>trivial
 |1,_=>trivial
 |2,_=>trivial
def aa.Dl{w:World}{g:Nat}{t:TypeId}{a b:Ag}{k:Nat}(h:aa w g t (aA (aP a b k)))(hk:k<3) :
 aa (((w.setCell (M g (1+k*3)) (I (Tc.ps a k+Tc.ps b k))).setCell (M g (1+k*3+1)) (I (min (pn a k) (pn b k)))).setCell (M g (1+k*3+2)) (I (max (px a k) (px b k)))) g t (aA (aP a b (k+1))):=by
 match k,hk,h with
 |0,_,h=>exact((h.set 1 _).set 2 _).set 3 _
 |1,_,h=>exact((h.set 4 _).set 5 _).set 6 _
 |2,_,h=>exact((h.set 7 _).set 8 _).set 9 _
def BW(a b:Ag):aP a b 3=ju a b:=rfl
def Ql{a b:Ag}(h0:fit (a.c+b.c))(h:∀i,i<3->fit (ps a i+ps b i)):nK a b:=⟨h0,h 0 o_,h 1 o_,h 2 o_⟩
def Qm{a b:Ag}{k:Nat}(hk:k<3)(h:¬fit (ps a k+ps b k)):¬nK a b:=by
 intro c;match k,hk,h with
 |0,_,h=>exact h c.2.1
 |1,_,h=>exact h c.2.2.1
 |2,_,h=>exact h c.2.2.2
def wP{w:World}{p a:Addr}{u:Value}(h:a.block≠p.block):(w.setCell p u).cell? a=w.cell? a:=bF (Below.heap_setCell w p u _ h)
def pB{w:World}{p q r a:Addr}{u v x:Value}(h1:a.block≠p.block)(h2:a.block≠q.block)(b:a.block≠r.block):(((w.setCell p u).setCell q v).setCell r x).cell? a=w.cell? a:=
 (wP b).trans ((wP h2).trans (wP h1))
def sq(a b:Ag)(w:World)(e:Ending)(w':World):Prop:=e = .returned (.tuple #[.agg (aA ((aR a b).getD az)),.bool (aR a b).isSome])/\E w w'
def xt(a b:Ag)(w:World)(ha:cB a)(hb:cB b):Calls prog 135 #[.agg (aA a),.agg (aA b)] w (sq a b w):=by
 have u:=J (λw=>zI _ _ w ha.1 hb.1);have V:=J (λk w=>N0 _ (pn a k) (px a k) _ (pn b k) (px b k) w (ha.ps k) (hb.ps k));have n:=kp (show∀ o w',aR a b=o->E w w'->sq a b w (.returned (.tuple #[.agg (aA (o.getD _)),.bool o.isSome])) w' fromλo w' h1 h2=>by subst h1;trivial);have f:=kp ((((ah _ w).alloc (ae _) (.cells (aA a) 78)).alloc s_ (.cells (aA b) 78)));generalize y:sq a b w=Q at*;by_cases h0:a.c=0
 .have G:=kp (show aR a b=some b from if_pos h0);go_enter Tryz.func135,Tryz.ntmps135;go_wp2;refine bodyPost_ret (by simp[results,go_sem]) rfl (n _ _ G (f.o.alloc o_ _))
 by_cases h1:b.c=0
 .have G:=J (show aR a b=some a by unfold aR;grind);go_in;go_wp2;refine bodyPost_ret (by simp[results,go_sem]) rfl (n _ _ G (f.alloc o_ _))
 go_in;go_wp2_with fail;apply(u _).mono;rintro e w'⟨rfl,rfl⟩;by_cases R:fit (a.c+b.c)
 .rw[pz R,pJ R];go_wp2;have U:((w.alloc (.cells (aA a) 78)).alloc (.cells (aA b) 78)).heap.size=w.heap.size+2:=s_;have y:=J ((((aa.new w 78 (aA a)).alloc (.cells (aA b) 78)).alloc (.cells (aA az) 78)).alloc (.cells (aA (aP a b 0)) 78));have X:=J (((aa.lay (w:=w.alloc (.cells (aA a) 78)) (g:=w.heap.size+1) (t:=78) (cs:=aA b) s_).alloc (.cells (aA az) 78)).alloc (.cells (aA (aP a b 0)) 78));have z:=J ((aa.lay (w:=(w.alloc (.cells (aA a) 78)).alloc (.cells (aA b) 78)) (g:=w.heap.size+1+1) (t:=78) (cs:=aA az) s_).alloc (.cells (aA (aP a b 0)) 78));have L:=J (aa.lay (w:=((w.alloc (.cells (aA a) 78)).alloc (.cells (aA b) 78)).alloc (.cells (aA az) 78)) (g:=w.heap.size+1+1+1) (t:=78) (cs:=aA (aP a b 0)) s_);have D:=J ((f.alloc o_ (.cells (aA az) 78)).alloc o_ (.cells (aA (aP a b 0)) 78));go_loopw [32] (λO wr=>∃k:Nat,k<=3/\O = I k/\aa wr w.heap.size 78 (aA a)/\aa wr (w.heap.size+1) 78 (aA b)/\aa wr (w.heap.size+1+1) 78 (aA az)/\aa wr (w.heap.size+1+1+1) 78 (aA (aP a b k))/\(∀i,i<k->fit (ps a i+ps b i))/\E w wr) (λO _=>3-(intOf O).toNat)
  case atStart=>exact⟨0,o_,rfl,y,X,z,L,λi hi=>o_,D⟩
  .clear y X z L D f U u;obtain⟨k,hk,rfl,D,Y,F,y,b6,a6⟩:=hrel;have u:w.heap.size+3<wr.heap.size:=(J y).lt;by_cases r:k<3
   .obtain⟨⟨z,U,a2⟩,_⟩:=aa.part (J D) r;obtain⟨⟨O,Z,b2⟩,_⟩:=aa.part (J Y) r;obtain⟨_,⟨f0,f1,f2⟩⟩:=aa.part (J y) r;have u:0<=(k:Int):=o_;have u:(k:Int)<3:=o_;have L:=J (V k);have q:=J (λw'(h:aa w' (w.heap.size+1+1+1) 78 (aA (aP a b k)))=>aa.Dl h r);generalize u:ps a k=s1 at z L q⊢;generalize x:ps b k=s2 at O L q⊢;have u:=u.symm;have x:=x.symm;generalize pn a k=n1 at*;generalize px a k=x1 at*;generalize pn b k=n2 at*;generalize px b k=x2 at*;have V:Kp (¬fit (s1+s2)->aR a b=none):=λh=>by rw[u,x]at h;unfold aR;rw[if_neg h0,if_neg h1,if_neg (Qm r h)]
    have c4:Kp (fit (s1+s2)->∀i,i<k+1->fit (ps a i+ps b i)):=λh i hi=>r_
    clear u x;go_wp2;apply wp_region_noPanic;refine br (t:=99) (S:=(λw'=>((C w' _ _ _/\C w' _ _ _/\C w' _ _ _)/\(C w' _ _ _/\C w' _ _ _/\C w' _ _ _)))) k_ ⟨⟨z,U,a2⟩,O,Z,b2⟩ (λd=> ?_);apply tD 0 1 2 3 d;apply tD 4 5 6 7 d;apply tB 8 13 d;have u:wr.drew.heap.size=wr.heap.size:=s_;refine oT 9 λK hK=>?_;go_simp;apply(L _).mono;rintro e L⟨rfl,(f:Kp _)⟩;refine oK hK ?_ λm=>?_
    .exact⟨⟨al f d.1.1,al f d.1.2.1,al f d.1.2.2⟩,al f d.2.1,al f d.2.2.1,al f d.2.2.2⟩
    replace d:=m;have u:=J ((J D).drew.under f);have c3:=J ((J Y).drew.under f);have z:=J ((J F).drew.under f);have D:=J ((J y).drew.under f);have A:=J ((J a6).drew.trans (f.mono o_));obtain⟨⟨O,O,O⟩,⟨O,O,O⟩⟩:=aa.part D r;apply tD 10 11 12 14 d;refine oT 15 λK hK=>?_;go_simp;refine oK hK ?_ λm=>?_
    .exact⟨⟨(pB o_ o_ o_).trans d.1.1,(pB o_ o_ o_).trans d.1.2.1,(pB o_ o_ o_).trans d.1.2.2⟩,(pB o_ o_ o_).trans d.2.1,(pB o_ o_ o_).trans d.2.2.1,(pB o_ o_ o_).trans d.2.2.2⟩
    replace d:=m;apply tk 16 d;refine bQ k_ ?_ _;try clear d
    apply NoPanic.normal;by_cases s:fit (s1+s2)
    .rw[pz s,pJ s];go_wp2;refine⟨⟨_,o_,o_,?_,?_,?_,?_,c4 s,?_⟩,o_⟩
     .exact((u.aJ o_ _).aJ o_ _).aJ o_ _
     .exact((c3.aJ o_ _).aJ o_ _).aJ o_ _
     .exact((z.aJ o_ _).aJ o_ _).aJ o_ _
     .exact q _ D
     .exact((A.setCell o_ _).setCell o_ _).setCell o_ _
    .have c6:=J (V s);rw[sR s,th s];have B:=J (((z.aJ (p:=(M (w.heap.size+1+1+1) (1+k*3))) o_ (I 0)).aJ (p:=(M (w.heap.size+1+1+1) (1+k*3+1))) o_ (I (min n1 n2))).aJ (p:=(M (w.heap.size+1+1+1) (1+k*3+2))) o_ (I (max x1 x2)));have V:=J (((A.setCell (p:=(M (w.heap.size+1+1+1) (1+k*3))) o_ (I 0)).setCell (p:=(M (w.heap.size+1+1+1) (1+k*3+1))) o_ (I (min n1 n2))).setCell (p:=(M (w.heap.size+1+1+1) (1+k*3+2))) o_ (I (max x1 x2)));generalize(((L.setCell _ (I 0)).setCell _ _).setCell _ _)=W3 at*;obtain⟨⟨u,W,L,U,T,O,z6,z,D,Z⟩,gD⟩:=aa.cr B;go_wp2;have N:=J (aa.kJ (I 0) (I 0) (I 0) (I 0) (I 0) (I 0) (I 0) (I 0) (I 0) (I 0) B);have H:=J (Below.kJ (I 0) (I 0) (I 0) (I 0) (I 0) (I 0) (I 0) (I 0) (I 0) (I 0) V (show w.heap.size<=w.heap.size+1+1 by omega));generalize((((((((((W3.setCell _ _).setCell _ _).setCell _ _).setCell _ _).setCell _ _).setCell _ _).setCell _ _).setCell _ _).setCell _ _).setCell _ _)=V at*;obtain⟨⟨u,W,L,U,T,O,z6,z,D,Z⟩,_⟩:=aa.cr N;refine bodyPost_ret (by simp[results,go_sem,az,u,W,L,U,T,O,z6,z,D,Z]) rfl (n _ _ c6 H)
   .obtain rfl:k=3:=o_;have cD:=(aa.cr (J y)).1;obtain⟨⟨u,W,L,U,T,O,z6,z,D,Z⟩,⟨f0,f1,f2,y,y,y,y,y,y,y⟩⟩:=aa.cr (J F);go_wp2;have G:=J (show aR a b=some (aP a b 3) by unfold aR;rw[if_neg h0,if_neg h1,if_pos (Ql R (J b6)),BW]);have N:=J (aa.kJ (I (aP a b 3).c) (I (aP a b 3).s0) (I (aP a b 3).n0) (I (aP a b 3).x0) (I (aP a b 3).s1) (I (aP a b 3).n1) (I (aP a b 3).x1) (I (aP a b 3).s2) (I (aP a b 3).n2) (I (aP a b 3).x2) (J F));have H:=J (Below.kJ (I (aP a b 3).c) (I (aP a b 3).s0) (I (aP a b 3).n0) (I (aP a b 3).x0) (I (aP a b 3).s1) (I (aP a b 3).n1) (I (aP a b 3).x1) (I (aP a b 3).s2) (I (aP a b 3).n2) (I (aP a b 3).x2) (J a6) (show w.heap.size<=w.heap.size+1+1 by omega));generalize((((((((((wr.setCell _ _).setCell _ _).setCell _ _).setCell _ _).setCell _ _).setCell _ _).setCell _ _).setCell _ _).setCell _ _).setCell _ _)=V at*;obtain⟨⟨u,W,L,U,T,O,z6,z,D,Z⟩,_⟩:=aa.cr N;refine bodyPost_ret (by simp[results,go_sem,u,W,L,U,T,O,z6,z,D,Z]) rfl (n _ _ G H)
 .rw[sR R,th R];have G:=J (show aR a b=none by unfold aR;rw[if_neg h0,if_neg h1,if_neg (λh=>R h.1)]);go_wp2;refine bodyPost_ret (by simp[results,go_sem,az]) rfl (n _ _ G ((f.alloc o_ _).alloc o_ _))
section
def MX(d b c m f n e g p:Int)(w:World):(Instr.index 76 (.agg #[I d,I b,I c,I m,I f,I n,I e,I g,I p]) (I 0)).run prog w = .ok (.agg #[I d,I b,I c]) w:=by
 simp[Instr.index,go_sem]
def MY(p e m c b d f g n:Int)(w:World):(Instr.index 76 (.agg #[I p,I e,I m,I c,I b,I d,I f,I g,I n]) (I 1)).run prog w = .ok (.agg #[I c,I b,I d]) w:=by
 simp[Instr.index,go_sem]
def MZ(p e m g f n b c d:Int)(w:World):(Instr.index 76 (.agg #[I p,I e,I m,I g,I f,I n,I b,I c,I d]) (I 2)).run prog w = .ok (.agg #[I b,I c,I d]) w:=by
 simp[Instr.index,go_sem]
attribute [local go_sem] MX MY MZ
structure eS(m:Nat)(a:Ag):Prop where
 c:1<=a.c
 le:∀k,k<3->k<m->pn a k<=px a k
 one:∀k,k<3->k<m->a.c=1->ps a k=pn a k/\ps a k=px a k
 none:∀k,k<3->m<=k->ps a k=0/\pn a k=0/\px a k=0
def sL(m:Nat)(a:Ag)(w:World)(L:1<=m)(hm:m<=3)(N:eS m a) :
 Calls Tryz.prog 208 #[.int .i64 m,.agg (aA a)] w λe w'=>e = .returned (.bool true)/\Below w.heap.size w w':=by
 obtain⟨c,s0,n0,x0,s1,n1,x1,s2,n2,x2⟩:=a;have y:=J N;have h1:=N.c;have D:=(ah w.heap.size w).alloc (ae _) (.cells (aA ⟨c,s0,n0,x0,s1,n1,x1,s2,n2,x2⟩) 78);have O:=J (aa.new w 78 (aA ⟨c,s0,n0,x0,s1,n1,x1,s2,n2,x2⟩));have Y:¬(m:Int)<0:=o_;have X:decide ((m:Int)<0)=false:=decide_eq_false Y;have T:¬(3:Int)<(m:Int):=o_;have W:decide ((3:Int)<(m:Int))=false:=decide_eq_false T;have V:¬c<1:=by dsimp only at h1;omega
 have U:decide (c<1)=false:=decide_eq_false V;go_enter Tryz.func208,Tryz.ntmps208;go_wp2_with fail;generalize w.alloc (.cells (aA ⟨c,s0,n0,x0,s1,n1,x1,s2,n2,x2⟩) 78)=Z at*;go_loopw [20] (λA wr=>∃k:Nat,k<=3/\A = I k/\aa wr w.heap.size 78 (aA ⟨c,s0,n0,x0,s1,n1,x1,s2,n2,x2⟩)/\E w wr) (λA _=>3-(intOf A).toNat)
 case atStart=>exact⟨0,o_,rfl,O,(J D)⟩
 .clear O D;obtain⟨k,hk,rfl,z,B⟩:=hrel;have f:=J z;have b:=J B;have u:=(aa.cr z).1;have R:w.heap.size<wr.heap.size:=f.lt;clear z B;by_cases M:k<3
  .match k,M with
   |0,_=> ?_
   |1,_=> ?_
   |2,_=> ?_
   .by_cases x:0<m
    .have n:n0<=x0:=y.le 0 o_ x;have d:c=1->s0=n0/\s0=x0:=y.one 0 o_ x;have u:¬(m:Int)<=0:=o_;have r:decide ((m:Int)<=0)=false:=decide_eq_false u;have v:(0:Int)<(m:Int):=o_;have s:decide ((0:Int)<(m:Int))=true:=decide_eq_true v;have C:¬x0<n0:=o_;have G:decide (x0<n0)=false:=decide_eq_false C;by_cases q:c=1
     .obtain⟨p,g⟩:=d q;subst p;subst g;subst q;go_wp2_with fail;exact⟨⟨0+1,o_,by go_num,(f.alloc _),(b.alloc b.size _)⟩,by simp[intOf]⟩
     .have F:(c == 1)=false:=by simp;exact q
      clear n d;go_wp2_with fail;exact⟨⟨0+1,o_,by go_num,(f.alloc _),(b.alloc b.size _)⟩,by simp[intOf]⟩
    .exact absurd L o_
   .by_cases x:1<m
    .have n:n1<=x1:=y.le 1 o_ x;have d:c=1->s1=n1/\s1=x1:=y.one 1 o_ x;have u:¬(m:Int)<=1:=o_;have r:decide ((m:Int)<=1)=false:=decide_eq_false u;have v:(1:Int)<(m:Int):=o_;have s:decide ((1:Int)<(m:Int))=true:=decide_eq_true v;have C:¬x1<n1:=o_;have G:decide (x1<n1)=false:=decide_eq_false C;by_cases q:c=1
     .obtain⟨p,g⟩:=d q;subst p;subst g;subst q;go_wp2_with fail;exact⟨⟨1+1,o_,by go_num,(f.alloc _),(b.alloc b.size _)⟩,by simp[intOf]⟩
     .have F:(c == 1)=false:=by simp;exact q
      clear n d;go_wp2_with fail;exact⟨⟨1+1,o_,by go_num,(f.alloc _),(b.alloc b.size _)⟩,by simp[intOf]⟩
    .obtain⟨p,g,H⟩:=y.none 1 o_ o_;change s1=0 at p;change n1=0 at g;change x1=0 at H;subst p;subst g;subst H;have u:(m:Int)<=1:=o_;have r:decide ((m:Int)<=1)=true:=decide_eq_true u;have v:¬(1:Int)<(m:Int):=o_;have s:decide ((1:Int)<(m:Int))=false:=decide_eq_false v;go_wp2_with fail;exact⟨⟨1+1,o_,by go_num,(f.alloc _),(b.alloc b.size _)⟩,by simp[intOf]⟩
   .by_cases x:2<m
    .have n:n2<=x2:=y.le 2 o_ x;have d:c=1->s2=n2/\s2=x2:=y.one 2 o_ x;have u:¬(m:Int)<=2:=o_;have r:decide ((m:Int)<=2)=false:=decide_eq_false u;have v:(2:Int)<(m:Int):=o_;have s:decide ((2:Int)<(m:Int))=true:=decide_eq_true v;have C:¬x2<n2:=o_;have G:decide (x2<n2)=false:=decide_eq_false C;by_cases q:c=1
     .obtain⟨p,g⟩:=d q;subst p;subst g;subst q;go_wp2_with fail;exact⟨⟨2+1,o_,by go_num,(f.alloc _),(b.alloc b.size _)⟩,by simp[intOf]⟩
     .have F:(c == 1)=false:=by simp;exact q
      clear n d;go_wp2_with fail;exact⟨⟨2+1,o_,by go_num,(f.alloc _),(b.alloc b.size _)⟩,by simp[intOf]⟩
    .obtain⟨p,g,H⟩:=y.none 2 o_ o_;change s2=0 at p;change n2=0 at g;change x2=0 at H;subst p;subst g;subst H;have u:(m:Int)<=2:=o_;have r:decide ((m:Int)<=2)=true:=decide_eq_true u;have v:¬(2:Int)<(m:Int):=o_;have s:decide ((2:Int)<(m:Int))=false:=decide_eq_false v;go_wp2_with fail;exact⟨⟨2+1,o_,by go_num,(f.alloc _),(b.alloc b.size _)⟩,by simp[intOf]⟩
  .obtain rfl:k=3:=o_;go_wp2_with fail;go_ret;exact⟨rfl,b⟩
end
def DR{a b c d}(h:a=b)(k:c=d):Ending.returned (.tuple #[I a,I c]) = .returned (.tuple #[I b,I d]):=by rw[h,k]
def tmod_neg{n}(h:n<0):n.tmod 4294967296 = -((-n) % 4294967296):=by
 have:n = -(-n):=o_;rw[this,Int.neg_tmod,Int.tmod_eq_emod_of_nonneg o_];simp
def QD{x q:Int}(h:x=q*4294967296):x.tdiv 4294967296=q:=by
 grind
def AA{n}(b:fit n)(h:n.tmod 4294967296<0):wrap64 (n.tmod 4294967296+4294967296)=n % 4294967296:=by
 unfold fit at b;have h0:n<0:=r_
 rw[tmod_neg h0]at h⊢;unfold wrap64;omega
def AB{n:Int}(h:0<=n.tmod 4294967296):n.tmod 4294967296=n % 4294967296:=by
 grind
def Ay{n}(b:fit n):wrap64 ((wrap64 (n-n % 4294967296)).tdiv 4294967296)=n / 4294967296:=by
 unfold fit at b;have h1:wrap64 (n-n % 4294967296)=n / 4294967296*4294967296:=by unfold wrap64;omega
 rw[h1,QD rfl];unfold wrap64;omega
def Aj n w(c:fit n) :
 Calls prog 237 #[I n] w λe w'=>e = .returned (.tuple #[I (n / 4294967296),I (n % 4294967296)])/\w=w':=by
 have b:=J c;unfold fit at c;go_in;go_wp2
 .have h:n.tmod _<0:=o_
  go_ret2;refine⟨DR ?_ ?_,rfl⟩
  .rw[AA b h];exact Ay b
  .exact AA b h
 .have h:0<=n.tmod _:=o_
  go_ret2;refine⟨DR ?_ ?_,rfl⟩
  .rw[AB h];exact Ay b
  .grind
def OE{a b c d}(h:a=b)(k:c=d):Ending.returned (.tuple #[I a,.bool c]) = .returned (.tuple #[I b,.bool d]):=by rw[h,k]
def PX h l w(h1 : -8589934592<=h)(h2:h<=8589934592)(u : -8589934592<=l)(l2:l<=8589934592) :
 Calls prog 238 #[I h,I l] w λe w'=>e = .returned (.tuple #[I (cap (h*4294967296+l)),.bool (fits (h*4294967296+l))])/\w=w':=by
 go_in;go_wp2;go_loop [0,1] (λa b=>∃x y:Int,a = I x/\b = I y/\x*4294967296+y=h*4294967296+l /\ -8589934592<=y/\y<=8589934592) (λ_ b=>(intOf b+8589934592).toNat)
 case atStart=>grind
 .obtain⟨x,y,rfl,rfl,g,d,m⟩:=hrel;have f : -8589934600<=x:=o_;have n:x<=8589934600:=o_;have c:=J g;clear g;go_wp2
  .refine⟨⟨_,_,rfl,rfl,?_,?_,?_⟩,?_⟩
   .have:=c.o;omega
   .omega
   .omega
   .simp[intOf];omega
  .go_loop [0,1] (λa b=>∃x y:Int,a = I x/\b = I y/\x*4294967296+y=h*4294967296+l /\ -8589934592<=y/\y<4294967296) (λ_ b=>(4294967296-intOf b).toNat)
   case atStart=>exact⟨x,y,rfl,rfl,c,d,o_⟩
   .clear c f n d m;rename_i p;clear p;obtain⟨x,y,rfl,rfl,g,d,m⟩:=hrel;have f : -8589934600<=x:=o_;have n:x<=8589934600:=o_;have c:=J g;clear g;by_cases s:y<0
    .go_wp2;refine⟨⟨_,_,rfl,rfl,?_,?_,?_⟩,?_⟩
     .have:=c.o;omega
     .omega
     .omega
     .simp[intOf];omega
    .by_cases v : -2147483648<=x/\x<=2147483647
     .obtain⟨q,z⟩:=v;go_wp2;go_ret2;have hk:fit (h*4294967296+l):=by have:=c.o;unfold fit;omega
      rw[pz hk,pJ hk];exact⟨OE c rfl,rfl⟩
     .have hk:¬fit (h*4294967296+l):=by have:=c.o;unfold fit;omega
      have r:=J hk;clear hk;by_cases q:x < -2147483648
      all_goals
       go_wp2;go_ret2;rw[sR r,th r];simp
def Oo(a b:Int):(a / 4294967296+b / 4294967296)*4294967296+(a % 4294967296+b % 4294967296)=a+b:=o_
def DM a b w(c:fit a)(d:fit b) :
 Calls prog 180 #[I a,I b] w λe w'=>e = .returned (.tuple #[I (cap (a+b)),.bool (fits (a+b))])/\w=w':=by
 have m:=J c;have f:=J d;unfold fit at c d;have h1 : -2147483648<=a / 4294967296:=o_;have h2:a / 4294967296<=2147483647:=o_;have u:0<=a % 4294967296:=o_;have q:a % 4294967296<=4294967295:=o_;have r : -2147483648<=b / 4294967296:=o_;have s:b / 4294967296<=2147483647:=o_;have n:0<=b % 4294967296:=o_;have p:b % 4294967296<=4294967295:=o_;have g:=J (Oo a b);clear c d;go_in;go_wp2_with fail;apply(Aj a _ m).mono;rintro e w'⟨rfl,rfl⟩;go_wp2_with fail;apply(Aj b _ f).mono;rintro e w'⟨rfl,rfl⟩;generalize a / 4294967296=x at*;generalize a % 4294967296=y at*;generalize b / 4294967296=z at*;generalize b % 4294967296=t at*;go_wp2_with fail;apply(PX _ _ _ o_ o_ o_ o_).mono;rintro e w'⟨rfl,rfl⟩;go_wp2;go_ret2;rw[g];simp
end Tc
end Go.Proofs.YtibjlpkpljnicaaGreatDoor
