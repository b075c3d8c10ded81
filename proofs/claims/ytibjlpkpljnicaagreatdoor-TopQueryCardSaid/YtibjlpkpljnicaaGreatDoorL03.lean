/- Parts of a proof. -/
import Derived.Test.YtibjlpkpljnicaaGreatDoorL02
import Derived.WalkLawsBesides
import Derived.WalkSpells
import Derived.Deep.RegionHeld3
import Derived.Deep.QuietTactic
import Derived.BigQuiet
import Derived.Deep.Cut
import Derived.Lib.Strings
set_option maxRecDepth 100000
set_option maxHeartbeats 8000000
set_option linter.all false
namespace Go.Proofs.YtibjlpkpljnicaaGreatDoor
namespace Tc
open List Go.RowKit Base Tryz
def below_drewN{B:Nat}{a b:World}(h:Below B a b)(n:Nat):Below B a (b.drewN n):=⟨h.os,h.tape,h.output,h.size,h.block⟩
def ru:∀x y:List UInt8,Op.bytesLess x y=true↔x<y
 | [],[]=>by trivial
 |_::_,[]=>by simp[Op.bytesLess]
 | [],_::_=>by simp[Op.bytesLess]
 |a::x,b::y=>by
  rw[Op.bytesLess,cons_lt_cons_iff,<-ru];simp
def xI{x y:List UInt8}(h1:Op.bytesLess x y=false)(h2:(x == y)=false):Op.bytesLess y x=true:=by
 rw[ru];have c:¬x<y:=by rw[<-ru,h1];simp
 grind
def ry{x y z:List UInt8}(h1:Op.bytesLess x y=true)(h2:Op.bytesLess y z=true):Op.bytesLess x z=true:=by
 rw[ru]at*;grind
def mZ(x:List UInt8):Op.bytesLess x x=false:=by
 rcases h:Op.bytesLess x x with _|_
 .rfl
 .rw[ru]at h;grind
def cM(P:Int->Prop)(w:World)(e:Ending)(w':World):Prop:=∃r:Int,e = .returned (I r)/\P r/\E w w'
def cy(P:Bool->Prop)(w:World)(e:Ending)(w':World):Prop:=∃r:Bool,e = .returned (.bool r)/\P r/\E w w'
def ma(s:ByteArray):Prop:=1<=s.size/\s.size<=16
def OM(s:ByteArray)(w:World)(b:s.size<=maxLen):Calls Tryz.prog 128 #[.string s] w (cy (λr=>r=true->ma s) w):=by
 unfold maxLen at b;have c:Kp (∀r w',(r=true->1<=(s.size:Int)/\(s.size:Int)<=16)->E w _->cy (λr=>r=true->ma s) w _ w'):=λr w' h d=>⟨_,rfl,(λe=>by have:=h e;unfold ma;omega),d⟩;generalize f:cy (λr=>r=true->ma s) w=Q at*;go_enter Tryz.func128,Tryz.ntmps128;go_wp2
 all_goals exact c _ _ o_ bR
def gg(c:UInt8):Prop:=(97<=(c.toNat:Int)/\(c.toNat:Int)<=122)\/(48<=(c.toNat:Int)/\(c.toNat:Int)<=57)\/(c.toNat:Int)=95
def iG(s:ByteArray):Prop:=1<=s.size/\s.size<=12/\∀i(h:i<s.size),gg s[i]
def yH(s:ByteArray)(w:World)(p:s.size<=maxLen):Calls Tryz.prog 54 #[.string s] w (cy (λr=>r=true->iG s) w):=by
 unfold maxLen at p;have d:Kp (∀r w',(r=true->iG s)->E w _->cy (λr=>r=true->iG s) w _ w'):=λr w' h q=>⟨_,rfl,h,q⟩;generalize v:cy (λr=>r=true->iG s) w=Q at*;go_enter Tryz.func54,Tryz.ntmps54;by_cases h1:1<=s.size/\s.size<=12
 .have u:¬(s.size:Int)<1:=o_;go_wp2;go_loopw [3] (λi wr=>∃k:Nat,k<=s.size/\i = I k/\(∀i(h:i<s.size),i<k->gg s[i])/\E w wr) (λi _=>s.size-(intOf i).toNat)
  case atStart=>exact⟨0,o_,rfl,λi h h'=>o_,bR⟩
  .obtain⟨k,hk,rfl,(c:Kp _),(b:Kp _)⟩:=hrel;by_cases n:k<s.size
   .have f:Kp (gg s[k]->∀i h,i<k+1->gg s[i]):=λh i hi g=>by
     by_cases e:i=k
     .grind
     .exact c i hi o_
    go_wp2
    all_goals first
     |exact d _ _ (λh=>by cases h) b
     | (have m:gg s[k]:=by
         unfold gg;first
          |omega
          |grind
        exact⟨⟨_,o_,o_,f m,b⟩,o_⟩)
   . go_wp2;exact d _ _ (λ_=>⟨o_,o_,λi hi=>c i hi o_⟩) b
 .go_wp2_with fail
  all_goals first
   |exact d _ _ (λh=>r_) bR
   |(exfalso;omega)
def eu(l:List ByteArray):Prop:=(∀s∈l,ma s)/\∀i(h:i+1<l.length),Op.bytesLess l[i].toList l[i+1].toList=true
def E9(A:OA)(l:List ByteArray)(c:Nat)(w:World)(U:l.length<=maxLen)(R:∀s∈l,s.size<=maxLen)(z:Row w w.heap.size A (l.map .string)) :
 Calls Tryz.prog 55 #[.slice A l.length c] w (cM (λr=>r=0->eu l) w):=by
 unfold maxLen at U;have B:Kp (∀r w',(r=0->eu l)->E w _->cM (λr=>r=0->eu l) w (.returned (I r)) w'):=λr w' h O=>⟨_,rfl,h,O⟩;generalize u:cM (λr=>r=0->eu l) w=Q at*;have H:=kp z;generalize G:l.length=n at*;go_enter Tryz.func55,Tryz.ntmps55;go_wp2;go_loopw [3] (λi wr=>∃k:Nat,k<=n/\i = I k/\((∀s∈l.take k,ma s)/\∀i(h:i+1<l.length),i+1<k->Op.bytesLess l[i].toList l[i+1].toList=true)/\E w wr) (λi _=>n-(intOf i).toNat)
 case atStart=>exact⟨0,o_,rfl,⟨s_,λi h h'=>o_⟩,bR⟩
 .obtain⟨k,hk,rfl,g,m⟩:=hrel;by_cases C:k<n
  .have f:k<l.length:=o_
   obtain⟨b,off,rfl,O,c0⟩:=Row.at_ ((H.below m).more m.size) (by rw[lM];exact f);rw[getElem_map]at c0;have D:=kp (OM _ wr (R _ (gM f)));generalize hx:(l[k]'f)=x at*;go_wp2_with fail;apply D.mono;rintro e Z⟨r,rfl,z,u⟩;have d:=ay (J m) u;have c1:=al u c0;obtain _|_:=r
   .clear z;go_wp2;exact B _ _ (λh=>o_) d
   .have v:=z rfl;have M:Kp (∀s∈l.take _,ma s):=λs p=>by
     rw[take_succ_eq_append_getElem f]at p;grind
    clear z v;obtain _|k:=k
    .go_wp2;go_quiet (fail);go_wp2;exact⟨⟨1,o_,o_,⟨M,λi h h'=>o_⟩,below_drewN d _⟩,o_⟩
    .have q:k<l.length:=o_;obtain⟨Y,L,W,X,c2⟩:=Row.at_ ((H.below d).more d.size) (by rw[lM];exact q);rw[getElem_map]at c2;cases W;generalize T:(l[k]'q)=y at*;have F:0<(k:Int)+1:=o_;go_wp2;go_quiet (fail);go_wp2
     .exact B _ _ (λh=>o_) (below_drewN d _)
     .rename_i N;refine⟨⟨k+2,o_,o_,⟨M,λi hi V=> ?_⟩,below_drewN d _⟩,o_⟩;by_cases e:i=k
      .subst e;rw[hx,T];exact xI N.1 N.2
      grind
  . go_wp2;exact B _ _ (λ_=>⟨λs p=>g.1 s r_,λi hi=>g.2 i hi o_⟩) m
def cy.mono{P:Bool->Prop}{w:World}{r:Bool}{w':World}(h:P r)(b:E w w'):cy P w (.returned (.bool r)) w':=⟨r,rfl,h,b⟩
def cM.mono{P:Int->Prop}{w:World}{r:Int}{w':World}(h:P r)(b:E w w'):cM P w (.returned (I r)) w':=⟨r,rfl,h,b⟩
abbrev cY(t:dU):AV:=#[T t.name,U t.At t.ar.length t.ct,U t.Au t.up.length t.cu]
abbrev aU(d:au):AV:=#[T d.name,U d.A d.ai.length d.c]
def Oc(t:dU)(w:World)(h:iV w w.heap.size t):Calls Tryz.prog 125 #[.agg (cY t)] w (cy (λ_=>True) w):=by
 unfold cY;have z:=J (λr w' u=>cy.mono (P:=λ_=>True) (w:=w) (r:=r) (w':=w') trivial u);have C:=J h.ar;have F:=h.nt;have B:=h.nu;have q:=h.name;have D:=J h.sz;unfold maxLen at F B q;generalize G:cy (λ_=>True) w=Q at*;clear G;generalize N:t.ar=l at*;clear N;generalize t.name=nm at*;generalize t.At=A at*;generalize t.ct=ct at*;generalize t.Au=Au at*;generalize t.up.length=nu at*;generalize t.cu=cu at*;generalize H:l.length=n at*;by_cases V:(nm.size:Int)<=5000
 all_goals
  go_enter Tryz.func125,Tryz.ntmps125;go_wp2_with fail;go_loopw [3,4] (λM g wr=>∃(k:Nat)(x:Int),k<=n/\k<=221/\M = I x/\g = I k/\aa wr w.heap.size 104 #[T nm,U A n ct,U Au nu cu]/\E w wr) (λ_ g _=>n-(intOf g).toNat)
  case atStart=>exact⟨0,_,av _,o_,rfl,rfl,aa.new _ _ _,(ah _ _).alloc (ae _) _⟩
  .obtain⟨k,x,hk,L,rfl,rfl,e,c⟩:=hrel;obtain⟨W,O,R,_,_,_⟩:=e.three;by_cases f:k<n
   .by_cases v:k<=220
    .have d:k<l.length:=by rw[H];exact f
     obtain⟨b,off,rfl,u,c0⟩:=Row.at_ ((C.below c).more c.size) (k:=k) (by rw[lM];exact d);rw[getElem_map]at c0;have p:=D _ (gM d);unfold maxLen at p;generalize(l[k]'d)=s at*;go_wp2_with fail
     all_goals exact⟨⟨k+1,_,o_,o_,rfl,by go_num,e,c⟩,by simp[intOf];omega⟩
    .have m:¬((k:Nat):Int)<=220:=o_;go_wp2_with fail
     all_goals exact z _ _ c
   .have y:¬((k:Nat):Int)<(n:Int):=o_;go_wp2_with fail
    all_goals exact z _ _ c
def Of(d:au)(w:World)(h:dB w w.heap.size d):Calls Tryz.prog 52 #[.agg (aU d)] w (cy (λ_=>True) w):=by
 have x:=kp (λr w' z=>cy.mono (P:=λ_=>True) (w:=w) (r:=r) (w':=w') trivial z);have F:=h.n;have y:=h.name;have G:=kp Oc;unfold maxLen at F y;generalize N:cy (λ_=>True) w=Q at*;go_enter Tryz.func52,Tryz.ntmps52;go_wp2_with fail;go_loopw [3] (λv wr=>∃(k:Nat),k<=d.ai.length/\k<=7/\v = I k/\aa wr w.heap.size 70 (aU d)/\E w wr) (λv _=>d.ai.length-(intOf v).toNat)
 case atStart=>exact⟨0,av _,o_,rfl,aa.new _ _ _,(ah _ _).alloc (ae _) _⟩
 .obtain⟨k,hk,H,rfl,s,f⟩:=hrel;obtain⟨R,D,_,_⟩:=s.two;by_cases c:k<d.ai.length
  .by_cases V:k<=6
   .have m:=(h.below f).more f.size;obtain⟨b,off,A,z,c0,c1,c2⟩:=m.cU k c;rw[A]at D;have g:=kp (G (d.ai[k]'c) wr (m.ai _ (gM c)));unfold cY at g;clear m A;generalize(d.ai[k]'c).name=x0 at*;generalize(d.ai[k]'c).At=x1 at*;generalize(d.ai[k]'c).ar.length=x2 at*;generalize(d.ai[k]'c).ct=T at*;generalize(d.ai[k]'c).Au=O at*;generalize(d.ai[k]'c).up.length=U at*;generalize(d.ai[k]'c).cu=L at*;go_wp2_with fail;apply g.mono;rintro e M⟨r,rfl,_,p⟩;have q:=ay (J f) p;have u:=bu (J s) p;clear p g;obtain _|_:=r
    .go_wp2_with fail;exact x _ _ q
    .go_wp2_with fail;exact⟨⟨k+1,o_,o_,by go_num,u,q⟩,by simp[intOf];omega⟩
   .have C:¬((k:Nat):Int)<=6:=o_;go_wp2_with fail
    all_goals exact x _ _ f
  .have B:¬((k:Nat):Int)<(d.ai.length:Int):=o_;go_wp2_with fail
   all_goals exact x _ _ f
def OK(A:OA)(l:List Int)(c:Nat)(n:Int)(w:World)(D:l.length<=maxLen)(F:Row w w.heap.size A (l.map (.int .i64))) :
 Calls Tryz.prog 262 #[.slice A l.length c,.int .i64 n] w λe w'=>e = .returned (.bool (decide (n∈l)))/\w=w':=by
 unfold maxLen at D;have C:=kp (show∀k,l[k]? = some n->decide (n∈l)=true fromλk h=>by simp;exact mem_of_getElem? h);have G:Kp ((∀k y,l[k]? = some y->y≠n)->decide (n∈l)=false):=λh=>by
  rw[decide_eq_false_iff_not];intro B;obtain⟨k,hk,e⟩:=getElem_of_mem B;exact h k _ (gE hk) e
 generalize decide (n∈l)=V at*;generalize v:l.length=m at*;go_enter Tryz.func262,Tryz.ntmps262;go_wp2_with fail;go_loop [9] (λi=>∃k:Nat,k<=m/\i = I k/\∀j y,j<k->l[j]? = some y->y≠n) (λi=>m-(intOf i).toNat)
 case atStart=>exact⟨0,av _,rfl,λj y h=>o_⟩
 .obtain⟨k,hk,rfl,f⟩:=hrel;by_cases s:k<m
  .have d:k<l.length:=by rw[v];exact s
   obtain⟨b,off,rfl,H,c0⟩:=Row.at_ F (k:=k) (by rw[lM];exact d);rw[getElem_map]at c0;have u:=J (gE d);generalize(l[k]'d)=y at*;by_cases p:y=n
   .subst p;have E:=J (C k u);go_wp2_with fail;go_ret;exact⟨by rw[E];rfl,rfl⟩
   .have x:(y == n)=false:=by simpa using p
    have q:Kp (∀j z,j<k+1->l[j]? = some z->z≠n):=λj z r g=>by
     by_cases e:j=k
     .subst e;rw[u]at g;injection g with g;rw[<-g];exact p
     .exact f j z o_ g
    clear p;go_wp2_with fail;go_round
    case rel=>exact⟨k+1,o_,by go_num,q⟩
    case measure=>simp[intOf];omega
  .go_wp2_with fail;go_ret;exact⟨by rw[(G (λj y r=>f j y (by have:=(aO r).1;rw[v]at this;omega) r))];rfl,rfl⟩
structure jQ(t:dU)(above:Int):Prop where
 top:above<=0->t.up=[]
 len:0<above->t.up.length=t.ar.length
 most:above<=200
 up:∀n∈t.up,0<=n/\n<above
 all:∀i:Nat,(i:Int)<above->(i:Int)∈t.up
def Pb(t:dU)(above:Int)(w:World)(h:iV w w.heap.size t)(ha:above<=9223372036854775807):Calls Tryz.prog 196 #[.agg (cY t),.int .i64 above] w (cy (λr=>r=true->jQ t above) w):=by
 unfold cY;have HR:=J (λr w' h hb=>cy.mono (P:=λr=>r=true->jQ t above) (w:=w) (r:=r) (w':=w') h hb);have Hr:=J h.up;have hn:=h.nt;have hu:=h.nu;have HT:Kp (t.up=t.up):=rfl;unfold maxLen at hn hu;generalize hQ:cy (λr=>r=true->jQ t above) w=Q at*;have Hlen:Kp (t.up.length=t.up.length/\t.ar.length=t.ar.length):=⟨rfl,rfl⟩;have HIn:=J OK;by_cases ha0:above<=0
 .by_cases hl0:t.up.length=0
  .have hz:((t.up.length:Int) == 0)=true:=by rw[beq_iff_eq];omega
   have Hok:Kp (jQ t above):=⟨λ_=>length_eq_zero_iff.1 hl0,λh=>o_,o_,λn hn=>by rw[length_eq_zero_iff.1 hl0]at hn;simp at hn,λi h=>o_⟩;clear hl0;go_enter Tryz.func196,Tryz.ntmps196;go_wp2_with fail;exact HR _ _ (λ_=>Hok) ((ah _ _).alloc (ae _) _)
  .have hz:((t.up.length:Int) == 0)=false:=by rw[beq_eq_false_iff_ne];omega
   clear hl0;go_enter Tryz.func196,Tryz.ntmps196;go_wp2_with fail;exact HR _ _ (λh=>by cases h) ((ah _ _).alloc (ae _) _)
 .by_cases hll:t.up.length=t.ar.length
  .by_cases h200:above<=200
   .have hne:((t.up.length:Int) != (t.ar.length:Int))=false:=o_
    have hb0:=(ah w.heap.size w).alloc (ae _) (.cells (cY t) 104);have Hb0:=J hb0;have Hr0:=J ((Hr.below hb0).more hb0.size);have HIn0:=J (λi=>HIn t.Au t.up t.cu i _ (by unfold maxLen;omega) Hr0);have HOk:Kp ((∀j n,t.up[j]? = some n->0<=n/\n<above)->(∀i:Nat,(i:Int)<above->(i:Int)∈t.up)->jQ t above):=λg1 g2=>⟨λh=>o_,λ_=>hll,h200,λn hn=>by obtain⟨j,hj,e⟩:=getElem_of_mem hn;exact g1 j n (by rw[gE hj,e]),g2⟩;clear hb0 hll HT Hlen;unfold cY at*;generalize t.name=x0 at*;generalize t.At=x1 at*;generalize t.ar.length=x2 at*;generalize t.ct=x3 at*;generalize t.Au=x4 at*;generalize t.up=up at*;generalize t.cu=x6 at*;generalize hN:up.length=n at*;have Hn:=J hN;clear hN;go_enter Tryz.func196,Tryz.ntmps196;go_wp2_with fail;clear hne;obtain⟨b0,b1,b2,_,_,_⟩:=(aa.new w 104 #[T x0,U x1 x2 x3,U x4 n x6]).three;generalize w.alloc (.cells #[T x0,U x1 x2 x3,U x4 n x6] 104)=W0 at*
    go_loop [28] (λi=>∃k:Nat,k<=n/\i = I k/\∀j y,j<k->up[j]? = some y->0<=y/\y<above) (λi=>n-(intOf i).toNat)
    case atStart=>exact⟨0,av _,rfl,λj y h=>o_⟩
    .obtain⟨k,hk,rfl,(Hok:Kp _)⟩:=hrel;by_cases hlt:k<n
     .have hkl:k<up.length:=by rw[Hn];exact hlt
      obtain⟨b,off,rfl,hb,c0⟩:=Row.at_ Hr0 (k:=k) (by rw[lM];exact hkl);rw[getElem_map]at c0;have Hy:=J (gE hkl);generalize(up[k]'hkl)=y at*;by_cases hy:0<=y/\y<above
      .obtain⟨hy1,hy2⟩:=hy
       have Hnx:Kp (∀j z,j<k+1->up[j]? = some z->0<=z/\z<above):=λj z hj hz=>by
        by_cases e:j=k
        .subst e;rw[Hy]at hz;injection hz with hz
         rw[<-hz];exact⟨hy1,hy2⟩
        .exact Hok j z o_ hz
       go_wp2_with fail
       go_round
       case rel=>exact⟨k+1,o_,by go_num,Hnx⟩
       case measure=>simp[intOf];omega
      .go_wp2_with fail
       all_goals first
        |exact HR _ _ (λh=>by cases h) Hb0
        |(exfalso;omega)
     .have Hup:Kp (∀j y,up[j]? = some y->0<=y/\y<above):=λj y hj=>Hok j y (by have:=(aO hj).1;rw[Hn]at this;omega) hj;go_wp2_with fail
      go_loop [7] (λi=>∃k:Nat,(k:Int)<=above/\i = I k/\∀j:Nat,j<k->(j:Int)∈up) (λi=>(above-intOf i).toNat)
      case atStart=>exact⟨0,o_,rfl,λj h=>o_⟩
      .obtain⟨q,hq,rfl,(Hin:Kp _)⟩:=hrel;by_cases hqa:(q:Int)<above
       .have HI:=J (HIn0 (q:Int));by_cases hm:(q:Int)∈up
        .rw[decide_eq_true hm]at HI
         have Hnx:Kp (∀j:Nat,j<q+1->(j:Int)∈up):=λj hj=>by
          by_cases e:j=q
          .subst e;exact hm
          .exact Hin j o_
         clear hm;go_wp2_with fail;apply HI.mono;rintro e w'⟨rfl,rfl⟩;go_wp2_with fail
         go_round
         case rel=>exact⟨q+1,o_,by go_num,Hnx⟩
         case measure=>simp[intOf];omega
        .rw[decide_eq_false hm]at HI;clear hm;go_wp2_with fail;apply HI.mono;rintro e w'⟨rfl,rfl⟩;go_wp2_with fail;exact HR _ _ (λh=>by cases h) Hb0
       .go_wp2_with fail;exact HR _ _ (λ_=>HOk Hup (λi hi=>Hin i o_)) Hb0
   .have hne:((t.up.length:Int) != (t.ar.length:Int))=false:=o_
    go_enter Tryz.func196,Tryz.ntmps196;go_wp2_with fail;exact HR _ _ (λh=>by cases h) ((ah _ _).alloc (ae _) _)
  .have hne:((t.up.length:Int) != (t.ar.length:Int))=true:=o_
   go_enter Tryz.func196,Tryz.ntmps196;go_wp2_with fail;exact HR _ _ (λh=>by cases h) ((ah _ _).alloc (ae _) _)
end Tc
namespace Tc
open List Go.RowKit Base Go.Proofs.Tryz
structure kS(t:dU)(above:Int):Prop where
 name:iG t.name
 n1:1<=t.ar.length
 n2:t.ar.length<=200
 row:eu t.ar
 tree:jQ t above
def Od(t:dU)(f:Int)(w:World)(h:iV w w.heap.size t)(N:f<=9223372036854775807):Calls prog 126 #[.agg (cY t),I f] w (cM (λr=>r=0->kS t f) w):=by
 have B:=J (λr w' h u=>cM.mono (P:=λr=>r=0->kS t f) (w:=w) (r:=r) (w':=w') h u);have p:=(ah _ w).alloc (ae _) (.cells (cY t) 104);have g:=J p;have h0:=(h.below p).more p.size;have y:=J (aa.new w 104 (cY t));have u:=h.nt;have V:=J (yH _ (w.alloc (.cells (cY t) 104)) h.name);have A:Kp (∀W,Below _ _ W->Calls _ _ #[U _ _ _] W _):=λW x=>E9 _ _ t.ct W o_ h.sz ((h0.ar.below x).more x.size);have L:Kp (∀W,Below _ _ W->Calls _ _ #[.agg _,I f] W _):=λW x=>Pb t f W ((h0.below x).more x.size) N;have E:Kp (iG _->1<=t.ar.length->t.ar.length<=200->eu _->jQ t f->kS t f):=λa b c d e=>⟨a,b,c,d,e⟩;unfold maxLen at u;unfold cY at*;clear h p h0 N;generalize u:cM (λr=>r=0->kS t f) w=Q at*;clear u;generalize iG _=u at*;generalize eu _=u at*;generalize jQ t f=u at*;generalize kS t f=u at*;generalize t.name=x0 at*;generalize t.At=x1 at*;generalize t.ar.length=n at*;generalize t.ct=u at*;generalize t.Au=z at*;generalize t.up.length=G at*;generalize t.cu=D at*;go_in;go_wp2_with fail;generalize w.alloc _=u at*;apply V.mono;rintro e u⟨r,rfl,Z,q⟩;have m:=J q;have D:=bu y q;obtain⟨X,O,Y,_,_,_⟩:=D.three;clear q V;obtain _|_:=r
 . go_wp2;exact B _ _ (λh=>o_) (g.trans (m.mono g.size))
 .by_cases h1:1<=n/\n<=200
  .obtain⟨h1,h2⟩:=h1;go_wp2_with fail;apply(A _ m).mono;rintro e u⟨R,rfl,C,s⟩;have u:=ay m s;have G:=bu D s;have H:=J C;clear s C X O Y;obtain⟨X,O,Y,_,_,_⟩:=G.three;by_cases M:R=0
   .subst M;go_wp2_with fail;apply(L _ u).mono;rintro e y⟨D,rfl,y,v⟩;have z:=ay u v;have F:=J y;clear v y;obtain _|_:=D
    . go_wp2;exact B _ _ (λh=>o_) (g.trans (z.mono g.size))
    . go_wp2;exact B _ _ (λ_=>E (Z o_) h1 h2 (H o_) (F o_)) (g.trans (z.mono g.size))
   .have y:(R != 0)=true:=o_
    go_wp2;exact B _ _ (λh=>absurd h M) (g.trans (u.mono g.size))
  .go_wp2_with fail
   all_goals first
    |exact B _ _ (λh=>o_) (g.trans (m.mono g.size))
    |(exfalso;omega)
def dJ(d:au)(k:Nat):Int:=match d.ai[k+1]? with
 |some t=>(t.ar.length:Nat)
 |none=>0
def FP{w:World}{B:Nat}{d:au}(h:dB w B d)(k:Nat):dJ d k<=9223372036854775807:=by
 unfold dJ;split
 .next t ht=>
  have:=(h.ai t (mem_of_getElem? ht)).nt;unfold maxLen at this;omega
 .omega
def Oe(d:au)(k:Nat)(w:World)(h:dB w w.heap.size d)(hk:k<d.ai.length):Calls Tryz.prog 127 #[.agg (aU d),.int .i64 k] w λe w'=>e = .returned (.int .i64 (dJ d k))/\Below w.heap.size w w':=by
 have p:=h.n;unfold maxLen at p;have f:=(ah _ w).alloc (ae _) (.cells (aU d) 70);by_cases c:k+1<d.ai.length
 .obtain⟨b,off,q,r,c0,c1,c2⟩:=((h.below f).more f.size).cU _ c;have m:=J (show dJ d k=((d.ai[k+1]'c).ar.length) by unfold dJ;rw[gE]);generalize dJ d k=V at*;have g:=J f;unfold aU at*;rw[q]at*;generalize(d.ai[k+1]'c).At=x1 at*;generalize(d.ai[k+1]'c).ar.length=x2 at*;generalize(d.ai[k+1]'c).ct=s at*;go_in;go_wp2;go_ret;exact⟨by rw[m];rfl,g⟩
 .have m:=J (show dJ d k=0 by unfold dJ;grind);generalize dJ d k=V at*;have g:=J f;unfold aU at*;go_enter Tryz.func127,Tryz.ntmps127;go_wp2;go_ret;exact⟨by rw[m];rfl,g⟩
structure da(d:au):Prop where
 name:iG d.name
 n1:1<=d.ai.length
 n2:d.ai.length<=4
 ai:∀k(h:k<d.ai.length),kS d.ai[k] (dJ d k)
 names:∀i k(hk:k<d.ai.length)(hi:i<k),d.ai[i].name≠d.ai[k].name
def qE(d:au)(k:Nat):Prop:=(∀j(h:j<d.ai.length),j<k->kS d.ai[j] (dJ d j))/\∀i j(b:j<d.ai.length)(hi:i<j),j<k->d.ai[i].name≠d.ai[j].name
def qE.next{d:au}{k:Nat}(h:qE d k)(hk:k<d.ai.length)(ht:kS d.ai[k] (dJ d k))(f:∀i(hi:i<k),d.ai[i].name≠d.ai[k].name):qE d (k+1):=by
 refine⟨λj b c=> ?_,λi j b hi c=> ?_⟩
 .by_cases e:j=k
  .grind
  .exact h.1 j b o_
 .by_cases e:j=k
  .grind
  .exact h.2 i j b hi o_
def K8{a b c:Value}{g:Nat}{x0 x1:Value}{m v w':World}{f d:Nat}(e:E v w')
 (h:C v g 0 x0/\C v g 1 x1/\C v f d a/\C v f (d+1) b/\C v f (d+2) c/\E m v) :
 C w' g 0 x0/\C w' g 1 x1/\C w' f d a/\C w' f (d+1) b/\C w' f (d+2) c/\E m w':=by
 obtain⟨h0,h1,h2,p,q,n⟩:=h;exact⟨al e h0,al e h1,al e h2,al e p,al e q,n.trans (e.mono n.size)⟩
def Og(d:au)(w:World)(h:dB w w.heap.size d):Calls prog 53 #[.agg (aU d)] w (cM (λr=>r=0->da d) w):=by
 have HR:=J (λr w' h hb=>cM.mono (P:=λr=>r=0->da d) (w:=w) (r:=r) (w':=w') h hb);have hb0:=(ah _ w).alloc (ae _) (.cells (aU d) 70);have Hb0:=J hb0;have H0:=J ((h.below hb0).more hb0.size);have HB:=J (aa.new w 70 (aU d));have hn:=h.n;have HN:=J (yH _ (w.alloc (.cells (aU d) 70)) h.name);have HOk:Kp (iG _->1<=d.ai.length->d.ai.length<=4->qE d _->da d):=λa b c e=>⟨a,b,c,λk hk=>e.1 k hk hk,λi k hk hi=>e.2 i k hk hi hk⟩;unfold maxLen at hn;clear h hb0;generalize hQ:cM (λr=>r=0->da d) w=Q at*;clear hQ;unfold aU at HB HN Hb0 H0⊢;go_in;go_wp2_with fail;generalize w.alloc _=W0 at*;apply HN.mono;rintro e w1⟨r,rfl,hr,hb1⟩;have Hb1:=J hb1;have HB1:=bu HB hb1;obtain⟨b0,b1,_,_⟩:=HB1.two;have Hr:=J hr;clear hb1 HN hr;obtain _|_:=r
 . go_wp2;exact HR _ _ (λh=>by cases h) (Hb0.trans (Hb1.mono Hb0.size))
 .by_cases h1:1<=d.ai.length/\d.ai.length<=4
  .obtain⟨h1,h2⟩:=h1
   go_wp2;clear b0 b1
   go_loopw [23] (λv23 wr=>∃k:Nat,k<=d.ai.length/\v23 = I k/\qE d k/\E W0 wr) (λv23 _=>d.ai.length-(intOf v23).toNat)
   case atStart=>exact⟨0,av _,rfl,⟨λj _ h=>o_,λi j _ _ h=>o_⟩,Hb1⟩
   .obtain⟨k,hk,rfl,hto,hbe⟩:=hrel;have Hto:=J hto;have Hbe:=J hbe;obtain⟨b0,b1,_,_⟩:=(HB.under hbe).two;clear hto hbe;by_cases hlt:k<d.ai.length
    .have hd:=(H0.below Hbe).more Hbe.size;have HA1:=kp (show∀W,Below _ _ W->Calls _ _ #[.agg #[.string _,.slice _ _ _],.int _ k] W λe w'=>e = .returned _/\Below _ W _ fromλW hW=>Oe d k W ((hd.below hW).more hW.size) o_);have HW1:Kp (∀W,E _ W->Calls _ _ #[.agg #[T (d.ai[k]'hlt).name,U (d.ai[k]'hlt).At (d.ai[k]'hlt).ar.length (d.ai[k]'hlt).ct,U (d.ai[k]'hlt).Au (d.ai[k]'hlt).up.length (d.ai[k]'hlt).cu],I _] W _):=λW hW=>Od _ _ W (((hd.ai _ (gM o_)).below hW).more hW.size) (FP hd k);obtain⟨b,off,hA,hb,c0,c1,c2⟩:=hd.cU k hlt;rw[hA]at b1 HA1
     have Hnx:=J (λa b=>Hto.next hlt a b);have HA2:=J hA;clear hd hA;generalize kS _ _=PT at*;generalize dJ d k=ab at*;go_wp2
     go_region_held3 (λw'=>C w' w.heap.size 0 (T d.name)/\C w' w.heap.size 1 (U (some ⟨b,off,none⟩) d.ai.length d.c)/\C w' b (off+k*3) (T (d.ai[k]'hlt).name)/\C w' b (off+k*3+1) (U (d.ai[k]'hlt).At (d.ai[k]'hlt).ar.length (d.ai[k]'hlt).ct)/\C w' b (off+k*3+2) (U (d.ai[k]'hlt).Au (d.ai[k]'hlt).up.length (d.ai[k]'hlt).cu)/\E wr w')
      (first
        |exact⟨b0,b1,c0,c1,c2,(ah _ _).drew⟩
        |(go_split_ands;with_reducible exact K8 hbx ⟨o_,o_,o_,o_,o_,o_⟩))
      (first
        |(go_at_call 127;go_split_ands;apply(HA1 _ o_).mono;rintro e wx⟨rfl,hbx⟩)
        |(go_at_call 126;go_split_ands;apply(HW1 _ o_).mono;rintro e wx⟨r1,rfl,hr1,hbx⟩))
     rename_i hHeld;have Hr1:=J hr1;have Hb2:=J (Hbe.trans (hHeld.2.2.2.2.2.mono Hbe.size));clear hHeld hr1 c0 c1 c2 b0 b1 HA1 HW1;obtain⟨b0,b1,_,_⟩:=(HB.under Hb2).two;rw[HA2]at b1;by_cases he:r1=0
     .subst he
      go_wp2
      go_loopw [5] (λv5 wr=>∃q:Nat,q<=k/\v5 = I q/\(∀i(hi:i<k),i<q->d.ai[i].name≠(d.ai[k]'hlt).name)/\E W0 wr) (λv5 _=>k-(intOf v5).toNat)
      case atStart=>exact⟨0,av _,rfl,λi _ h=>o_,Hb2⟩
      .clear b0 b1;obtain⟨q,hq,rfl,hno,hbe2⟩:=hrel;have Hno:=J hno;have Hbe2:=J hbe2;obtain⟨b0,b1,_,_⟩:=(HB.under hbe2).two;rw[HA2]at b1;clear hno hbe2;by_cases hqk:q<k
       .have hd:=(H0.below Hbe2).more Hbe2.size;have hql:q<d.ai.length:=o_
        obtain⟨b',off',hA',hb',c0,_,_⟩:=hd.cU k hlt;obtain⟨b'',off'',hA'',hb'',d0,_,_⟩:=hd.cU q hql;rw[HA2]at hA' hA'';cases hA';injection hA'' with hA''
        injection hA'' with e1 e2 _
        subst e1 e2;clear hd;have Hnm:Kp ((d.ai[q]'hql).name=(d.ai[q]'hql).name/\(d.ai[k]'hlt).name=(d.ai[k]'hlt).name):=⟨rfl,rfl⟩
        have Hnx2:Kp (((d.ai[q]'hql).name.toList == (d.ai[k]'hlt).name.toList)=false->∀i(hi:i<k),i<q+1->d.ai[i].name≠(d.ai[k]'hlt).name):=λh i hi hiq=>by
         by_cases e:i=q
         .grind
         .exact Hno i hi o_
        clear Hnm
        generalize(d.ai[q]'hql).name=y at*;generalize(d.ai[k]'hlt).name=x at*;rcases hyx:(y.toList == x.toList)with _|_
        .have Hn3:=J (Hnx2 hyx);go_wp2
         go_quiet (fail)
         go_wp2;exact⟨⟨_,o_,o_,Hn3,below_drewN Hbe2 _⟩,o_⟩
        .go_wp2_with fail
         go_quiet (fail)
         go_wp2;exact HR _ _ (λh=>o_) (Hb0.trans ((below_drewN Hbe2 _).mono Hb0.size))
       .have Hto2:=J (Hnx (Hr1 o_) (λi hi=>Hno i hi o_));go_wp2;exact⟨⟨_,o_,o_,Hto2,Hbe2⟩,o_⟩
     .have hne:(r1 != 0)=true:=o_
      go_wp2;exact HR _ _ (λh=>absurd h he) (Hb0.trans (Hb2.mono Hb0.size))
    .obtain rfl:k=d.ai.length:=o_
     go_wp2;exact HR _ _ (λ_=>HOk (Hr o_) h1 h2 Hto) (Hb0.trans (Hbe.mono Hb0.size))
  .go_wp2_with fail
   all_goals first
    |exact HR _ _ (λh=>o_) (Hb0.trans (Hb1.mono Hb0.size))
    |(exfalso;omega)
end Tc
end Go.Proofs.YtibjlpkpljnicaaGreatDoor
