/- Parts. -/
import Derived.Test.YtibjlpkpljnicaaGreatDoorR02
import Derived.WalkLawsBesides
import Derived.WalkSpells
import Derived.Deep.RegionHeld3
import Derived.Deep.QuietTactic
import Derived.BigQuiet
import Derived.Deep.Cut
import Derived.Lib.Strings
set_option maxRecDepth 100000
set_option maxHeartbeats 8000000
set_option linter.all false
namespace Go.Proofs.YtibjlpkpljnicaaGreatDoor
namespace Tc
open List Go.RowKit Base Tryz
def below_drewN{B:Nat}{a b:World}(h:Below B a b)(n:Nat):Below B a (b.drewN n):=⟨h.os,h.tape,h.output,h.size,h.block⟩
def ru:∀x y:List UInt8,Op.bytesLess x y=true↔x<y
 | [],[]=>by trivial
 |_::_,[]=>by simp[Op.bytesLess]
 | [],_::_=>by simp[Op.bytesLess]
 |a::x,b::y=>by
  rw[Op.bytesLess,cons_lt_cons_iff,<-ru];simp
def xI{x y:List UInt8}(h1:Op.bytesLess x y=false)(h2:(x == y)=false):Op.bytesLess y x=true:=by
 rw[ru];have c:¬x<y:=by rw[<-ru,h1];simp
 grind
def ry{x y z:List UInt8}(h1:Op.bytesLess x y=true)(h2:Op.bytesLess y z=true):Op.bytesLess x z=true:=by
 rw[ru]at*;grind
def mZ(x:List UInt8):Op.bytesLess x x=false:=by
 rcases h:Op.bytesLess x x with _|_
 .rfl
 .rw[ru]at h;grind
def cM(P:Int->Prop)(w:World)(e:Ending)(w':World):Prop:=∃r:Int,e = .returned (I r)/\P r/\E w w'
def cy(P:Bool->Prop)(w:World)(e:Ending)(w':World):Prop:=∃r:Bool,e = .returned (.bool r)/\P r/\E w w'
def ma(s:ByteArray):Prop:=1<=s.size/\s.size<=16
def OM(s:ByteArray)(w:World)(b:s.size<=maxLen):Calls Tryz.prog 128 #[.string s] w (cy (λr=>r=true->ma s) w):=by
 unfold maxLen at b;have c:Kp (∀r w',(r=true->1<=(s.size:Int)/\(s.size:Int)<=16)->E w _->cy (λr=>r=true->ma s) w _ w'):=λr w' h d=>⟨_,rfl,(λe=>by have:=h e;unfold ma;omega),d⟩;generalize f:cy (λr=>r=true->ma s) w=Q at*;go_enter Tryz.func128,Tryz.ntmps128;go_wp2
 all_goals exact c _ _ o_ bR
def gg(c:UInt8):Prop:=(97<=(c.toNat:Int)/\(c.toNat:Int)<=122)\/(48<=(c.toNat:Int)/\(c.toNat:Int)<=57)\/(c.toNat:Int)=95
def iG(s:ByteArray):Prop:=1<=s.size/\s.size<=12/\∀i(h:i<s.size),gg s[i]
def yH(s:ByteArray)(w:World)(p:s.size<=maxLen):Calls Tryz.prog 54 #[.string s] w (cy (λr=>r=true->iG s) w):=by
 unfold maxLen at p;have d:Kp (∀r w',(r=true->iG s)->E w _->cy (λr=>r=true->iG s) w _ w'):=λr w' h q=>⟨_,rfl,h,q⟩;generalize v:cy (λr=>r=true->iG s) w=Q at*;go_enter Tryz.func54,Tryz.ntmps54;by_cases h1:1<=s.size/\s.size<=12
 .have u:¬(s.size:Int)<1:=o_;go_wp2;go_loopw [3] (λi wr=>∃k:Nat,k<=s.size/\i = I k/\(∀i(h:i<s.size),i<k->gg s[i])/\E w wr) (λi _=>s.size-(intOf i).toNat)
  case atStart=>exact⟨0,o_,rfl,λi h h'=>o_,bR⟩
  .obtain⟨k,hk,rfl,(c:Kp _),(b:Kp _)⟩:=hrel;by_cases n:k<s.size
   .have f:Kp (gg s[k]->∀i h,i<k+1->gg s[i]):=λh i hi g=>by
     by_cases e:i=k
     .grind
     .exact c i hi o_
    go_wp2
    all_goals first
     |exact d _ _ (λh=>by cases h) b
     | (have m:gg s[k]:=by
         unfold gg;first
          |omega
          |grind
        exact⟨⟨_,o_,o_,f m,b⟩,o_⟩)
   . go_wp2;exact d _ _ (λ_=>⟨o_,o_,λi hi=>c i hi o_⟩) b
 .go_wp2_with fail
  all_goals first
   |exact d _ _ (λh=>r_) bR
   |(exfalso;omega)
def eu(l:List ByteArray):Prop:=(∀s∈l,ma s)/\∀i(h:i+1<l.length),Op.bytesLess l[i].toList l[i+1].toList=true
def E9(A:OA)(l:List ByteArray)(c:Nat)(w:World)(U:l.length<=maxLen)(R:∀s∈l,s.size<=maxLen)(z:Row w w.heap.size A (l.map .string)) :
 Calls Tryz.prog 55 #[.slice A l.length c] w (cM (λr=>r=0->eu l) w):=by
 unfold maxLen at U;have B:Kp (∀r w',(r=0->eu l)->E w _->cM (λr=>r=0->eu l) w (.returned (I r)) w'):=λr w' h O=>⟨_,rfl,h,O⟩;generalize u:cM (λr=>r=0->eu l) w=Q at*;have H:=kp z;generalize G:l.length=n at*;go_enter Tryz.func55,Tryz.ntmps55;go_wp2;go_loopw [3] (λi wr=>∃k:Nat,k<=n/\i = I k/\((∀s∈l.take k,ma s)/\∀i(h:i+1<l.length),i+1<k->Op.bytesLess l[i].toList l[i+1].toList=true)/\E w wr) (λi _=>n-(intOf i).toNat)
 case atStart=>exact⟨0,o_,rfl,⟨s_,λi h h'=>o_⟩,bR⟩
 .obtain⟨k,hk,rfl,g,m⟩:=hrel;by_cases C:k<n
  .have f:k<l.length:=o_
   obtain⟨b,off,rfl,O,c0⟩:=Row.at_ ((H.below m).more m.size) (by rw[lM];exact f);rw[getElem_map]at c0;have D:=kp (OM _ wr (R _ (gM f)));generalize hx:(l[k]'f)=x at*;go_wp2_with fail;apply D.mono;rintro e Z⟨r,rfl,z,u⟩;have d:=ay (J m) u;have c1:=al u c0;obtain _|_:=r
   .clear z;go_wp2;exact B _ _ (λh=>o_) d
   .have v:=z rfl;have M:Kp (∀s∈l.take _,ma s):=λs p=>by
     rw[take_succ_eq_append_getElem f]at p;grind
    clear z v;obtain _|k:=k
    .go_wp2;go_quiet (fail);go_wp2;exact⟨⟨1,o_,o_,⟨M,λi h h'=>o_⟩,below_drewN d _⟩,o_⟩
    .have q:k<l.length:=o_;obtain⟨Y,L,W,X,c2⟩:=Row.at_ ((H.below d).more d.size) (by rw[lM];exact q);rw[getElem_map]at c2;cases W;generalize T:(l[k]'q)=y at*;have F:0<(k:Int)+1:=o_;go_wp2;go_quiet (fail);go_wp2
     .exact B _ _ (λh=>o_) (below_drewN d _)
     .rename_i N;refine⟨⟨k+2,o_,o_,⟨M,λi hi V=> ?_⟩,below_drewN d _⟩,o_⟩;by_cases e:i=k
      .subst e;rw[hx,T];exact xI N.1 N.2
      grind
  . go_wp2;exact B _ _ (λ_=>⟨λs p=>g.1 s r_,λi hi=>g.2 i hi o_⟩) m
def QJ(s:ByteArray):s.toList.length=s.size:=by rw[Lib.toList_data];rfl
def CT{s:ByteArray}(h:1<=s.size):s.toList.isEmpty=false/\(s.toList == [])=false/\¬s.toList=[]:=by
 have e:=QJ s;grind
def wM{x y:ByteArray}(h:(x.toList == y.toList)=true):x=y:=by
 have h:=eq_of_beq h;rw[Lib.toList_data,Lib.toList_data]at h;cases x with
 |mk b=>cases y with
  |mk c=>exact congrArg _ (Array.toList_inj.1 h)
def QC s w(h:ma s):Calls Tryz.prog 304 #[.string s] w λe w'=>e = .returned (.int .i64 0)/\w=w':=by
 obtain⟨h1,h2⟩:=h;obtain⟨d,c,b⟩:=CT h1;go_enter Tryz.func304,Tryz.ntmps304;go_wp2;go_ret;simp
def yX s w(h:iG s):Calls Tryz.prog 205 #[.string s] w λe w'=>e = .returned (.int .i64 0)/\w=w':=by
 obtain⟨h1,h2,c⟩:=h;obtain⟨m,f,g⟩:=CT h1;go_enter Tryz.func205,Tryz.ntmps205;go_wp2;go_loop [14] (λi=>∃k:Nat,k<=s.size/\i = I k) (λi=>s.size-(intOf i).toNat)
 case atStart=>grind
 .obtain⟨k,hk,rfl⟩:=hrel;by_cases b:k<s.size
  .have d:=c k b;unfold gg at d;go_wp2
   all_goals first
    |(exfalso;omega)
    |(exfalso;simp at*;omega)
    | (go_round
       case rel=>exact⟨k+1,o_,o_⟩
       case measure=>simp[intOf];omega)
  . go_wp2;go_ret;simp
def EW A l c w(u:l.length<=maxLen)(r:Row w w.heap.size A (l.map .string))(q:eu l) :
 Calls Tryz.prog 270 #[.slice A l.length c] w λe w'=>e = .returned (.int .i64 0)/\w=w':=by
 unfold maxLen at u;generalize B:l.length=n at*;go_enter Tryz.func270,Tryz.ntmps270;go_wp2;go_loop [8] (λi=>∃k:Nat,k<=n/\i = I k) (λi=>n-(intOf i).toNat)
 case atStart=>grind
 .obtain⟨k,hk,rfl⟩:=hrel;by_cases m:k<n
  .have d:k<l.length:=o_
   obtain⟨b,off,rfl,E,c0⟩:=Row.at_ r (by rw[lM];exact d);rw[getElem_map]at c0;have g:=J (QC _ w (q.1 _ (gM d)));obtain _|k:=k
   .rw[Nat.add_zero]at c0;generalize(l[0]'d)=x at*;go_wp2_with fail;apply g.mono;rintro e w'⟨rfl,rfl⟩;go_wp2;go_round
    case rel=>exact⟨1,o_,o_⟩
    case measure=>simp[intOf];omega
   .have f:k<l.length:=o_;obtain⟨D,s,z,C,c2⟩:=Row.at_ r (by rw[lM];exact f);rw[getElem_map]at c2;cases z;have v:=q.2 k d;generalize(l[k]'f)=y at*;generalize(l[k+1]'d)=x at*;have p:0<(k:Int)+1:=o_;go_wp2_with fail;apply g.mono;rintro e w'⟨rfl,rfl⟩;go_wp2;go_round
    case rel=>exact⟨k+2,o_,o_⟩
    case measure=>simp[intOf];omega
  . go_wp2;go_ret;simp
def oO(l:List ByteArray)(x:ByteArray)(r:Int):Prop:=(0<=r->∃i:Nat,r=(i:Int)/\l[i]? = some x)/\(r<0->∀i:Nat,l[i]? ≠ some x)
def yE A l c x w(D:l.length<=maxLen)(F:Row w w.heap.size A (l.map .string)) :
 Calls Tryz.prog 56 #[.slice A l.length c,.string x] w (cM (oO l x) w):=by
 unfold maxLen at D;have v:Kp (∀ r w',oO l x r->E w _->cM _ w _ w'):=λr w' h C=>⟨_,rfl,h,C⟩;generalize G:cM _ w=Q at*;generalize B:l.length=n at*;go_enter Tryz.func56,Tryz.ntmps56;go_wp2;go_loop [5] (λi=>∃k:Nat,k<=n/\i = I k/\∀j,j<k->l[j]? ≠ some x) (λi=>n-(intOf i).toNat)
 case atStart=>grind
 .obtain⟨k,hk,rfl,f⟩:=hrel;by_cases q:k<n
  .have d:k<l.length:=o_
   obtain⟨b,off,rfl,C,c0⟩:=Row.at_ F (by rw[lM];exact d);rw[getElem_map]at c0;have z:=J (gE d);generalize(l[k]'d)=y at*;rcases m:(y.toList == x.toList)with _|_
   .have s:Kp (∀j,j<k+1->l[j]? ≠ some x):=λj u=>by
     by_cases e:j=k
     .subst e;rw[z];grind
     .grind
    go_wp2;go_round
    case rel=>exact⟨_,o_,o_,s⟩
    case measure=>simp[intOf];omega
   .have p:=J (wM m);go_wp2;exact v _ _ ⟨λ_=>⟨k,rfl,by rw[z,p]⟩,λh=>o_⟩ bR
  . go_wp2;exact v _ _ ⟨λh=>o_,λ_ j u=>f j r_ u⟩ bR
def Lg x w:Calls Tryz.prog 338 #[.string x] w λe w'=>e = .returned (.bool false)/\w=w':=by
 go_enter Tryz.func338,Tryz.ntmps338;go_wp2;go_ret;simp
def Ca x y w:Calls Tryz.prog 299 #[.string x,.string y] w λe w'=>e = .returned (.bool (Op.bytesLess x.toList y.toList))/\w=w':=by
 go_enter Tryz.func299,Tryz.ntmps299;go_wp2_with(go_at_call 338;apply(Lg _ _).mono;rintro e w'⟨rfl,rfl⟩);go_ret;simp
def eu.lt{l}(h:eu l){i j}(c:i<j)(b:j<l.length):Op.bytesLess (l[i]'(by omega)).toList l[j].toList=true:=by
 induction j with
 |zero=>omega
 |succ j d=>
  by_cases e:i=j
  .subst e;exact h.2 i b
  .exact ry (d o_ o_) (h.2 j b)
def eu.less{l}(h:eu l){i j}(hi:i<l.length)(hj:j<l.length):Op.bytesLess l[i].toList l[j].toList=decide (i<j):=by
 by_cases hij:i<j
 .rw[h.lt o_ hj,decide_eq_true o_]
 .rw[decide_eq_false o_];by_cases e:i=j
  .subst e;exact mZ _
  .rcases hb:Op.bytesLess _ _ with _|_
   .rfl
   .have:=ry hb (h.lt o_ hi);rw[mZ]at this;cases this
def Py A l c(i:Nat) x w(R:l.length<=1000000)(G:Row w w.heap.size A (l.map .string))(F:eu l)(hi:l[i]? = some x) :
 Calls Tryz.prog 263 #[.slice A l.length c,.string x] w λe w'=>e = .returned (.tuple #[.int .i64 i,.bool true])/\Below w.heap.size w w':=by
 have s:=(aO hi).1;have r:l[i]=x:=(aO hi).2;have D:=J G;have z:Kp (∀j y,l[j]? = some y->Op.bytesLess _ x.toList=decide _):=λj y N=>by
  obtain⟨B,rfl⟩:=aO N;rw[<-r];exact F.less B s
 have L:=J hi;clear G F hi r;generalize H:l.length=n at*;go_enter Tryz.func263,Tryz.ntmps263;go_wp2;go_loopw [7,8] (λv C wr=>∃lo hi:Nat,v = I lo/\C = I hi/\lo<=i/\i<=hi/\hi<=n/\E w wr) (λv C _=>(intOf C).toNat-(intOf v).toNat)
 case atStart=>exact⟨0,n,rfl,rfl,o_,o_,o_,bR⟩
 .obtain⟨lo,hi,rfl,rfl,h1,h2,T,d⟩:=hrel;by_cases M:lo<hi
  .have m:(lo+hi) / 2<l.length:=o_
   obtain⟨b,off,rfl,O,c0⟩:=Row.at_ ((D.below d).more d.size) (by rw[lM];exact m);rw[getElem_map]at c0;have u:=z _ _ (gE m);generalize(l[(lo+hi) / 2]'m)=y at*;have f:=J (Ca y x);rw[u]at f;by_cases q:(lo+hi) / 2<i
   .rw[decide_eq_true q]at f;go_wp2_with fail;apply(f _).mono;rintro e w'⟨rfl,rfl⟩;go_wp2;refine⟨⟨_,_,o_,rfl,o_,o_,o_,d⟩,o_⟩
   .rw[decide_eq_false q]at f;go_wp2_with fail;apply(f _).mono;rintro e w'⟨rfl,rfl⟩;go_wp2;refine⟨⟨_,_,rfl,o_,o_,o_,o_,d⟩,o_⟩
  .obtain rfl:i=lo:=o_;have g:i<l.length:=o_
   obtain⟨b,off,rfl,O,c0⟩:=Row.at_ ((D.below d).more d.size) (by rw[lM];exact g);rw[getElem_map]at c0;have p:(l[i]'g)=x:=(aO L).2;rw[p]at c0;clear p;go_wp2;go_ret2;trivial
def ER A l c(i:Nat) x w(d:l.length<=1000000)(b:Row w w.heap.size A (l.map .string))(m:eu l)(hi:l[i]? = some x) :
 Calls Tryz.prog 197 #[.slice A l.length c,.string x] w λe w'=>e = .returned (.tuple #[.int .i64 i,.bool true])/\Below w.heap.size w w':=by
 have g:=kp (Py A l c i x w d b m hi);generalize l.length=n at*;go_enter Tryz.func197,Tryz.ntmps197;go_wp2_with fail;apply g.mono;rintro e w'⟨rfl,f⟩;go_wp2;go_ret2;trivial
end Tc
namespace Tc
open List Go.RowKit Base Go.Proofs.Tryz
def C8{l}(q:eu l)(x:ByteArray):∃i,i<=l.length/\∀(j:Nat) y,l[j]? = some y->Op.bytesLess y.toList x.toList=decide (j<i):=by
 refine⟨(l.takeWhile λy=>Op.bytesLess y.toList x.toList).length,(takeWhile_prefix _).length_le,λj y s=> ?_⟩;obtain⟨g,rfl⟩:=aO s;have b:=takeWhile_append_dropWhile (p:=λy:ByteArray=>Op.bytesLess y.toList x.toList) (l:=l);by_cases h:j<(l.takeWhile λy=>Op.bytesLess y.toList x.toList).length
 .rw[decide_eq_true h];have n:l[j]∈l.takeWhile λy=>Op.bytesLess y.toList x.toList:=r_
  have:=all_eq_true.1 (all_takeWhile) _ n;omega
 .rw[decide_eq_false h];have m:(l.takeWhile λy=>Op.bytesLess y.toList x.toList).length<l.length:=o_
  obtain⟨d,r,hd⟩:∃d r,(l.dropWhile λy=>Op.bytesLess y.toList x.toList)=d::r:=by
   rcases e:(l.dropWhile λy=>Op.bytesLess y.toList x.toList)with _|⟨d,r⟩
   .grind
   grind
  have c:Op.bytesLess d.toList x.toList=false:=by
   have h1:(l.dropWhile λy=>Op.bytesLess y.toList x.toList)≠[]:=r_
   have:=head_dropWhile_not (p:=λy:ByteArray=>Op.bytesLess _ _) h1;grind
  have f:l[(l.takeWhile λy=>Op.bytesLess _ _).length]=d:=r_
  generalize(l.takeWhile λy=>Op.bytesLess _ _).length=i at*;by_cases e:i=j
  .grind
  .rcases u:Op.bytesLess _ _ with _|_
   .rfl
   .have h1:=q.lt (show i<j by omega) g;rw[f]at h1;rw[ry h1 u]at c;cases c
def Lh x w:Calls prog 300 #[T x] w λe w'=>e = .returned (.bool false)/\w=w':=by
 go_in;go_wp2;go_ret;simp
def Px A(l:List ByteArray) c i x w(X:l.length<=1000000)(F:Row w w.heap.size A (l.map .string))(hi:i<=l.length)(g:∀(j:Nat) y,l[j]? = some y->Op.bytesLess y.toList x.toList=decide (j<i)) :
 Calls prog 263 #[.slice A l.length c,.string x] w λe w'=>e = .returned (.tuple #[.int .i64 i,.bool (l[i]?.any λy=>y.toList == x.toList)])/\Below w.heap.size w w':=by
 obtain⟨W,T,L,u⟩:=j4_ Ca Lh F g;have D:Kp (∀b w',b=(l[i]?.any λy=>y.toList == x.toList)->E w w'->(λ(e:Ending) w'=>e = .returned (.tuple #[I i,.bool (l[i]?.any λy=>y.toList == x.toList)])/\E w w') (.returned (.tuple #[N i,.bool b])) w'):=(λb w' h1 h2=>r_);generalize R:(λ(e:Ending) w'=>e = .returned (.tuple #[.int _ i,.bool _])/\Below _ w _)=Q at*;clear F g R;generalize H:l.length=n at*;have v:=J H;clear H;go_in;go_wp2;go_loopw [7,8] (λC z wr=>∃lo hi:Nat,C = .int .i64 lo/\z = .int .i64 hi/\lo<=i/\i<=hi/\hi<=n/\Below w.heap.size w wr) (λC z _=>(intOf z).toNat-(intOf C).toNat)
 case atStart=>exact⟨0,n,rfl,rfl,o_,o_,o_,bR⟩
 .obtain⟨lo,hi,rfl,rfl,h1,h2,Y,s⟩:=hrel;have d:=J s;clear s;by_cases O:lo<hi
  .have p:(lo+hi) / 2<l.length:=by rw[v];omega
   obtain⟨b,off,rfl,V,c0⟩:=Row.at_ ((L.below d).more d.size) (by rw[lM];exact p);rw[getElem_map]at c0;have g:=u _ _ (gE p);generalize(l[(lo+hi) / 2]'p)=y at*;have m:=J (W y x);rw[g]at m;clear g;have U:0<=(lo+(hi:Int)) / 2:=o_;have M:(lo+hi) / 2<(n:Int):=o_;by_cases r:(lo+hi) / 2<i
   .rw[decide_eq_true r]at m;go_wp2_with fail;apply(m _).mono;rintro e w'⟨rfl,rfl⟩;go_wp2;refine⟨⟨_,_,o_,rfl,o_,o_,o_,d⟩,o_⟩
   .rw[decide_eq_false r]at m;go_wp2_with fail;apply(m _).mono;rintro e w'⟨rfl,rfl⟩;go_wp2;refine⟨⟨_,_,rfl,o_,o_,o_,o_,d⟩,o_⟩
  .obtain rfl:i=lo:=o_;by_cases B:i<n
   .have f:i<l.length:=by rw[v];omega
    obtain⟨b,off,rfl,V,c0⟩:=Row.at_ ((L.below d).more d.size) (by rw[lM];exact f);rw[getElem_map]at c0;have Hv:=J (show(l[i]?.any λy=>y.toList == x.toList)=((l[i]'f).toList == x.toList) by rw[gE];rfl);generalize(l[i]'f)=y at*;rcases G:(y.toList == x.toList)with _|_
    .have q:=J (D _ _ (by rw[Hv,G]) d);go_wp2_with fail;apply(T _ _).mono;rintro e w'⟨rfl,rfl⟩;go_wp2;exact q
    .have q:=J (D _ _ (by rw[Hv,G]) d);go_wp2;exact q
   .have q:=J (D false _ (by rw[getElem?_eq_none (by rw[v];omega)];rfl) d);go_wp2;exact q
def EP A(l:List ByteArray) c i x w(g:l.length<=1000000)(f:Row w w.heap.size A (l.map .string))(hi:i<=l.length)(d:∀(j:Nat) y,l[j]? = some y->Op.bytesLess y.toList x.toList=decide (j<i)) :
 Calls prog 197 #[.slice A l.length c,.string x] w λe w'=>e = .returned (.tuple #[.int .i64 i,.bool (l[i]?.any λy=>y.toList == x.toList)])/\Below w.heap.size w w':=by
 have q:=kp (Px A l c i x w g f hi d);clear g f hi d;generalize l[i]?.any (λy=>y.toList == x.toList)=b at*;generalize l.length=n at*;go_in;go_wp2_with fail;apply q.mono;rintro e w'⟨rfl,m⟩;have p:=J m;clear m;go_wp2;go_ret2;trivial
def sc(l:List ByteArray)(lo hi:ByteArray)(w:World)(e:Ending)(w':World):Prop:=∃a b:Nat,e = .returned (.tuple #[N a,N b])/\b<=l.length/\(∀(k:Nat) y,l[k]? = some y->(decide (a<=k)&&decide (k<b))=(!Op.bytesLess y.toList lo.toList && !Op.bytesLess hi.toList y.toList))/\E w w'
def Gv{l}(ho:eu l){lo hi:ByteArray}{i j}(hi1:∀(k:Nat) y,l[k]? = some y->Op.bytesLess y.toList lo.toList=decide (k<i))(hj1:∀(k:Nat) y,l[k]? = some y->Op.bytesLess y.toList hi.toList=decide (k<j)) t(ht:t=if(l[j]?.any λy=>y.toList == hi.toList)=true then j+1 else j) k y(hk:l[k]? = some y) :
 (decide (min i t<=k)&&decide (k<t))=(!Op.bytesLess y.toList lo.toList && !Op.bytesLess hi.toList y.toList):=by
 rw[hi1 k y hk];have h2:Op.bytesLess hi.toList y.toList=decide (t<=k):=by
  by_cases hm:(l[j]?.any λy=>y.toList == hi.toList)=true
  .rw[if_pos hm]at ht;obtain⟨z,hz,hzx⟩:∃z,l[j]? = some z/\(z.toList == hi.toList)=true:=r_
   have hzx:=eq_of_beq hzx;obtain⟨hjl,rfl⟩:=aO hz;obtain⟨hkl,rfl⟩:=aO hk;rw[<-hzx,ho.less,ht]
   congr 1
  .rw[if_neg hm]at ht;have hne:(hi.toList == y.toList)=false:=by
    rcases h:(hi.toList == y.toList)with _|_
    .rfl
    .have h:=eq_of_beq h;exfalso;apply hm;have h3:=hj1 k y hk;rw[h,mZ]at h3;have hjk:j<=k:=r_
     obtain⟨hkl,rfl⟩:=aO hk;have hjl:j<l.length:=o_
     have h4:=hj1 j _ (gE hjl);rw[h,ho.less]at h4;grind
   rw[ht];have h3:=hj1 k y hk;rcases hb:Op.bytesLess _ _ with _|_
   .have:=xI hb hne;grind
   .rcases hc:Op.bytesLess y.toList hi.toList with _|_
    .grind
    .have:=ry hb hc;rw[mZ]at this;cases this
 grind
def Gw A l c lo hi w(C:l.length<=1000000)(x:Row w w.heap.size A (l.map .string))(v:eu l):Calls prog 243 #[.slice A l.length c,.string lo,.string hi] w (sc l lo hi w):=by
 obtain⟨i,r,g⟩:=C8 v lo;obtain⟨j,d,f⟩:=C8 v hi;have D:=kp (λW m=>EP A l c i _ W C ((x.below m).more m.size) r g);have H:=J (λW(m:E w W)=>EP A l c j _ W C ((x.below m).more m.size) d f);have G:Kp (∀t W,t=(if(l[j]?.any λy=>y.toList == hi.toList)=true then j+1 else j)->E w W->sc l _ _ w (.returned (.tuple #[I _,N t])) W):=λt W ht m=>⟨_,t,rfl,r_,Gv v g f t ht,m⟩
 have M:=d;clear x v g f r d;generalize B:sc l _ _ w=Q at*;clear B;generalize(l[i]?.any λy=>y.toList == lo.toList)=V at*;generalize(l[j]?.any λy=>y.toList == hi.toList)=L at*;generalize l.length=n at*;go_in;go_wp2_with fail;apply(D _ bR).mono;rintro e U⟨rfl,u⟩;have p:=J u;clear u;go_wp2_with fail;apply(H _ p).mono;rintro e F⟨rfl,s⟩;have q:=ay p s;clear s;obtain _|_:=L
 .have b:=J (G j F rfl q);obtain h|h:=Nat.lt_or_ge j i
  .rw[Nat.min_eq_right o_]at b;go_wp2
   all_goals first|exact b|(exfalso;omega)
  .rw[Nat.min_eq_left h]at b;go_wp2
   all_goals first|exact b|(exfalso;omega)
 .have b:=J (G (j+1) F rfl q);obtain⟨t,ht⟩:=e_ (j+1);have T:IntKind.i64.wrap (j+1)=t:=by rw[IntWalk.i64_in _ o_];omega
  rw[ht]at b;clear ht;obtain h|h:=Nat.lt_or_ge t i
  .rw[Nat.min_eq_right o_]at b;go_wp2
   all_goals first|exact b|(exfalso;omega)
  .rw[Nat.min_eq_left h]at b;go_wp2
   all_goals first|exact b|(exfalso;omega)
end Tc
namespace Tc
open List Go.RowKit Base Tryz
def cy.mono{P:Bool->Prop}{w:World}{r:Bool}{w':World}(h:P r)(b:E w w'):cy P w (.returned (.bool r)) w':=⟨r,rfl,h,b⟩
def cM.mono{P:Int->Prop}{w:World}{r:Int}{w':World}(h:P r)(b:E w w'):cM P w (.returned (I r)) w':=⟨r,rfl,h,b⟩
abbrev cY(t:dU):AV:=#[T t.name,U t.At t.ar.length t.ct,U t.Au t.up.length t.cu]
abbrev aU(d:au):AV:=#[T d.name,U d.A d.ai.length d.c]
def Oc(t:dU)(w:World)(h:iV w w.heap.size t):Calls Tryz.prog 125 #[.agg (cY t)] w (cy (λ_=>True) w):=by
 unfold cY;have z:=J (λr w' u=>cy.mono (P:=λ_=>True) (w:=w) (r:=r) (w':=w') trivial u);have C:=J h.ar;have F:=h.nt;have B:=h.nu;have q:=h.name;have D:=J h.sz;unfold maxLen at F B q;generalize G:cy (λ_=>True) w=Q at*;clear G;generalize N:t.ar=l at*;clear N;generalize t.name=nm at*;generalize t.At=A at*;generalize t.ct=ct at*;generalize t.Au=Au at*;generalize t.up.length=nu at*;generalize t.cu=cu at*;generalize H:l.length=n at*;by_cases V:(nm.size:Int)<=5000
 all_goals
  go_enter Tryz.func125,Tryz.ntmps125;go_wp2_with fail;go_loopw [3,4] (λM g wr=>∃(k:Nat)(x:Int),k<=n/\k<=221/\M = I x/\g = I k/\aa wr w.heap.size 104 #[T nm,U A n ct,U Au nu cu]/\E w wr) (λ_ g _=>n-(intOf g).toNat)
  case atStart=>exact⟨0,_,o_,o_,rfl,rfl,aa.new _ _ _,bR.alloc o_ _⟩
  .obtain⟨k,x,hk,L,rfl,rfl,e,c⟩:=hrel;obtain⟨W,O,R,_,_,_⟩:=e.three;by_cases f:k<n
   .by_cases v:k<=220
    .have d:k<l.length:=o_
     obtain⟨b,off,rfl,u,c0⟩:=Row.at_ ((C.below c).more c.size) (by rw[lM];exact d);rw[getElem_map]at c0;have p:=D _ (gM d);unfold maxLen at p;generalize(l[k]'d)=s at*;go_wp2
     all_goals exact⟨⟨k+1,_,o_,o_,rfl,o_,e,c⟩,o_⟩
    .have m:¬(k:Int)<=220:=o_;go_wp2
     all_goals exact z _ _ c
   .have y:¬(k:Nat)<(n:Int):=o_;go_wp2
    all_goals exact z _ _ c
def Of(d:au)(w:World)(h:dB w w.heap.size d):Calls Tryz.prog 52 #[.agg (aU d)] w (cy (λ_=>True) w):=by
 have x:=kp (λr w' z=>cy.mono (P:=λ_=>True) (w:=w) (r:=r) (w':=w') trivial z);have F:=h.n;have y:=h.name;have G:=kp Oc;unfold maxLen at F y;generalize N:cy (λ_=>True) w=Q at*;go_enter Tryz.func52,Tryz.ntmps52;go_wp2;go_loopw [3] (λv wr=>∃(k:Nat),k<=d.ai.length/\k<=7/\v = I k/\aa wr w.heap.size 70 (aU d)/\E w wr) (λv _=>d.ai.length-(intOf v).toNat)
 case atStart=>exact⟨0,o_,o_,rfl,aa.new _ _ _,bR.alloc o_ _⟩
 .obtain⟨k,hk,H,rfl,s,f⟩:=hrel;obtain⟨R,D,_,_⟩:=s.two;by_cases c:k<d.ai.length
  .by_cases V:k<=6
   .have m:=(h.below f).more f.size;obtain⟨b,off,A,z,c0,c1,c2⟩:=m.cU k c;rw[A]at D;have g:=kp (G _ _ (m.ai _ (gM c)));unfold cY at g;clear m A;generalize(d.ai[k]'c).name=x0 at*;generalize(d.ai[k]'c).At=x1 at*;generalize(d.ai[k]'c).ar.length=x2 at*;generalize(d.ai[k]'c).ct=T at*;generalize(d.ai[k]'c).Au=O at*;generalize(d.ai[k]'c).up.length=U at*;generalize(d.ai[k]'c).cu=L at*;go_wp2_with fail;apply g.mono;rintro e M⟨r,rfl,_,p⟩;have q:=ay (J f) p;have u:=bu (J s) p;clear p g;obtain _|_:=r
    . go_wp2;exact x _ _ q
    . go_wp2;exact⟨⟨k+1,o_,o_,o_,u,q⟩,o_⟩
   .have C:¬(k:Int)<=6:=o_;go_wp2
    all_goals exact x _ _ f
  .have B:¬(k:Nat)<(d.ai.length:Int):=o_;go_wp2
   all_goals exact x _ _ f
def OK(A:OA)(l:List Int)(c:Nat)(n:Int)(w:World)(D:l.length<=maxLen)(F:Row w w.heap.size A (l.map (.int .i64))) :
 Calls Tryz.prog 262 #[.slice A l.length c,.int .i64 n] w λe w'=>e = .returned (.bool (decide (n∈l)))/\w=w':=by
 unfold maxLen at D;have C:=kp (show∀k,l[k]? = some n->decide _=true fromλk h=>by simp;exact mem_of_getElem? h);have G:Kp ((∀k y,l[k]? = some y->y≠n)->decide (n∈l)=false):=λh=>by
  rw[decide_eq_false_iff_not];intro B;obtain⟨k,hk,e⟩:=getElem_of_mem B;exact h k _ (gE hk) e
 generalize decide (n∈l)=V at*;generalize v:l.length=m at*;go_enter Tryz.func262,Tryz.ntmps262;go_wp2;go_loop [9] (λi=>∃k:Nat,k<=m/\i = I k/\∀j y,j<k->l[j]? = some y->y≠n) (λi=>m-(intOf i).toNat)
 case atStart=>grind
 .obtain⟨k,hk,rfl,f⟩:=hrel;by_cases s:k<m
  .have d:k<l.length:=o_
   obtain⟨b,off,rfl,H,c0⟩:=Row.at_ F (by rw[lM];exact d);rw[getElem_map]at c0;have u:=J (gE d);generalize(l[k]'d)=y at*;by_cases p:y=n
   .subst p;have E:=J (C k u);go_wp2;go_ret;exact⟨by rw[E];rfl,rfl⟩
   .have x:(y == n)=false:=o_
    have q:Kp (∀j z,j<k+1->l[j]? = some z->z≠n):=λj z r g=>by
     by_cases e:j=k
     .subst e;rw[u]at g;grind
     grind
    clear p;go_wp2;go_round
    case rel=>exact⟨_,o_,o_,q⟩
    case measure=>simp[intOf];omega
  . go_wp2;go_ret;exact⟨by rw[(G (λj y r=>f j y r_ r))];rfl,rfl⟩
structure jQ(t:dU)(above:Int):Prop where
 top:above<=0->t.up=[]
 len:0<above->t.up.length=t.ar.length
 most:above<=200
 up:∀n∈t.up,0<=n/\n<above
 all:∀i:Nat,(i:Int)<above->(i:Int)∈t.up
def Pb(t:dU)(above:Int)(w:World)(h:iV w w.heap.size t)(ha:above<=9223372036854775807):Calls Tryz.prog 196 #[.agg (cY t),.int .i64 above] w (cy (λr=>r=true->jQ t above) w):=by
 unfold cY;have HR:=J (λr w' h hb=>cy.mono (P:=λr=>r=true->jQ t above) (w:=w) (r:=r) (w':=w') h hb);have Hr:=J h.up;have hn:=h.nt;have hu:=h.nu;unfold maxLen at hn hu;generalize hQ:cy (λr=>r=true->jQ t _) w=Q at*;have HIn:=J OK;by_cases ha0:above<=0
 .by_cases hl0:t.up.length=0
  .have hz:((t.up.length:Int) == 0)=true:=r_
   have Hok:Kp (jQ t above):=⟨λ_=>length_eq_zero_iff.1 o_,λh=>o_,o_,λn hn=>r_,λi h=>o_⟩;clear hl0;go_enter Tryz.func196,Tryz.ntmps196;go_wp2;exact HR _ _ (λ_=>Hok) (bR.alloc o_ _)
  .have hz:((t.up.length:Int) == 0)=false:=r_
   clear hl0;go_enter Tryz.func196,Tryz.ntmps196;go_wp2;exact HR _ _ (λh=>r_) (bR.alloc (ae _) _)
 .by_cases hll:t.up.length=t.ar.length
  .by_cases h200:above<=200
   .have hne:(t.up.length != (t.ar.length:Int))=false:=o_
    have hb0:=(ah _ w).alloc (ae _) (.cells (cY t) 104);have Hb0:=J hb0;have Hr0:=J ((Hr.below hb0).more hb0.size);have HIn0:=J (λi=>HIn _ _ t.cu i _ (by unfold maxLen;omega) Hr0);have HOk:Kp ((∀j n,t.up[j]? = some n->0<=n/\n<above)->(∀i:Nat,i<above->(i:Int)∈t.up)->jQ t _):=λg1 g2=>⟨λh=>o_,λ_=>hll,o_,λn hn=>by obtain⟨j,hj,e⟩:=getElem_of_mem hn;exact g1 j n (by rw[gE hj,e]),g2⟩;clear hb0 hll;unfold cY at*;generalize t.name=x0 at*;generalize t.At=x1 at*;generalize t.ar.length=x2 at*;generalize t.ct=x3 at*;generalize t.Au=x4 at*;generalize t.up=up at*;generalize t.cu=x6 at*;generalize hN:up.length=n at*;have Hn:=J hN;clear hN;go_enter Tryz.func196,Tryz.ntmps196;go_wp2;clear hne;obtain⟨b0,b1,b2,_,_,_⟩:=(aa.new w 104 #[T x0,U x1 x2 x3,U x4 n x6]).three;generalize w.alloc _=W0 at*
    go_loop [28] (λi=>∃k:Nat,k<=n/\i = I k/\∀j y,j<k->up[j]? = some y->0<=y/\y<above) (λi=>n-(intOf i).toNat)
    case atStart=>exact⟨0,av _,rfl,λj y h=>o_⟩
    .obtain⟨k,hk,rfl,(Hok:Kp _)⟩:=hrel;by_cases hlt:k<n
     .have hkl:k<up.length:=by rw[Hn];omega
      obtain⟨b,off,rfl,hb,c0⟩:=Row.at_ Hr0 (by rw[lM];exact hkl);rw[getElem_map]at c0;have Hy:=J (gE hkl);generalize(up[k]'hkl)=y at*;by_cases hy:0<=y/\y<above
      .obtain⟨hy1,hy2⟩:=hy
       have Hnx:Kp (∀j z,j<k+1->up[j]? = some z->0<=z/\z<above):=λj z hj hz=>by
        by_cases e:j=k
        .subst e;rw[Hy]at hz;grind
        .exact Hok j z o_ hz
       go_wp2
       go_round
       case rel=>exact⟨_,o_,o_,Hnx⟩
       case measure=>simp[intOf];omega
      .go_wp2_with fail
       all_goals first
        |exact HR _ _ (λh=>r_) Hb0
        |(exfalso;omega)
     .have Hup:Kp _:=λj y hj=>Hok j y (by have:=(aO hj).1;rw[Hn]at this;omega) hj;go_wp2
      go_loop [7] (λi=>∃k:Nat,(k:Int)<=above/\i = I k/\∀j:Nat,j<k->(j:Int)∈up) (λi=>(above-intOf i).toNat)
      case atStart=>grind
      .obtain⟨q,hq,rfl,(Hin:Kp _)⟩:=hrel;by_cases hqa:(q:Int)<above
       .have HI:=J (HIn0 q);by_cases hm:(q:Int)∈up
        .rw[decide_eq_true hm]at HI
         have Hnx:Kp (∀j:Nat,j<q+1->(j:Int)∈up):=λj hj=>by
          by_cases e:j=q
          .grind
          .exact Hin j o_
         clear hm;go_wp2_with fail;apply HI.mono;rintro e w'⟨rfl,rfl⟩;go_wp2
         go_round
         case rel=>exact⟨_,o_,o_,Hnx⟩
         case measure=>simp[intOf];omega
        .rw[decide_eq_false hm]at HI;clear hm;go_wp2_with fail;apply HI.mono;rintro e w'⟨rfl,rfl⟩;go_wp2;exact HR _ _ (λh=>r_) Hb0
       . go_wp2;exact HR _ _ (λ_=>HOk Hup (λi hi=>Hin i o_)) Hb0
   .have hne:(t.up.length != (t.ar.length:Int))=false:=o_
    go_enter Tryz.func196,Tryz.ntmps196;go_wp2;exact HR _ _ (λh=>r_) (bR.alloc o_ _)
  .have hne:(t.up.length != (t.ar.length:Int))=true:=o_
   go_enter Tryz.func196,Tryz.ntmps196;go_wp2;exact HR _ _ (λh=>r_) (bR.alloc o_ _)
end Tc
namespace Tc
open List Go.RowKit Base Go.Proofs.Tryz
structure kS(t:dU)(above:Int):Prop where
 name:iG t.name
 n1:1<=t.ar.length
 n2:t.ar.length<=200
 row:eu t.ar
 tree:jQ t above
def Od(t:dU)(f:Int)(w:World)(h:iV w w.heap.size t)(N:f<=9223372036854775807):Calls prog 126 #[.agg (cY t),I f] w (cM (λr=>r=0->kS t f) w):=by
 have B:=J (λr w' h u=>cM.mono (P:=λr=>r=0->kS t f) (w:=w) (r:=r) (w':=w') h u);have p:=(ah _ w).alloc (ae _) (.cells (cY t) 104);have g:=J p;have h0:=(h.below p).more p.size;have y:=J (aa.new w 104 (cY t));have u:=h.nt;have V:=J (yH _ (w.alloc (.cells (cY t) 104)) h.name);have A:Kp (∀W,Below _ _ W->Calls _ _ #[U _ _ _] W _):=λW x=>E9 _ _ t.ct W o_ h.sz ((h0.ar.below x).more x.size);have L:Kp (∀W,Below _ _ W->Calls _ _ #[.agg _,I f] W _):=λW x=>Pb t f W ((h0.below x).more x.size) N;have E:Kp (iG _->1<=t.ar.length->t.ar.length<=200->eu _->jQ t f->kS t f):=λa b c d e=>⟨a,b,c,d,e⟩;unfold maxLen at u;unfold cY at*;clear h p h0 N;generalize u:cM (λr=>r=0->kS t f) w=Q at*;clear u;generalize iG _=u at*;generalize eu _=u at*;generalize jQ t f=u at*;generalize kS t f=u at*;generalize t.name=x0 at*;generalize t.At=x1 at*;generalize t.ar.length=n at*;generalize t.ct=u at*;generalize t.Au=z at*;generalize t.up.length=G at*;generalize t.cu=D at*;go_in;go_wp2_with fail;generalize w.alloc _=u at*;apply V.mono;rintro e u⟨r,rfl,Z,q⟩;have m:=J q;have D:=bu y q;obtain⟨X,O,Y,_,_,_⟩:=D.three;clear q V;obtain _|_:=r
 . go_wp2;exact B _ _ (λh=>o_) (g.trans (m.mono g.size))
 .by_cases h1:1<=n/\n<=200
  .obtain⟨h1,h2⟩:=h1;go_wp2_with fail;apply(A _ m).mono;rintro e u⟨R,rfl,C,s⟩;have u:=ay m s;have G:=bu D s;have H:=J C;clear s C X O Y;obtain⟨X,O,Y,_,_,_⟩:=G.three;by_cases M:R=0
   .subst M;go_wp2_with fail;apply(L _ u).mono;rintro e y⟨D,rfl,y,v⟩;have z:=ay u v;have F:=J y;clear v y;obtain _|_:=D
    . go_wp2;exact B _ _ (λh=>o_) (g.trans (z.mono g.size))
    . go_wp2;exact B _ _ (λ_=>E (Z o_) h1 h2 (H o_) (F o_)) (g.trans (z.mono g.size))
   .have y:(R != 0)=true:=o_
    go_wp2;exact B _ _ (λh=>absurd h M) (g.trans (u.mono g.size))
  .go_wp2_with fail
   all_goals first
    |exact B _ _ (λh=>o_) (g.trans (m.mono g.size))
    |(exfalso;omega)
def dJ(d:au)(k:Nat):Int:=match d.ai[k+1]? with
 |some t=>(t.ar.length:Nat)
 |none=>0
def FP{w:World}{B:Nat}{d:au}(h:dB w B d)(k:Nat):dJ d k<=9223372036854775807:=by
 unfold dJ;split
 .next t ht=>
  have:=(h.ai t (mem_of_getElem? ht)).nt;unfold maxLen at this;omega
 .omega
def Oe(d:au)(k:Nat)(w:World)(h:dB w w.heap.size d)(hk:k<d.ai.length):Calls Tryz.prog 127 #[.agg (aU d),.int .i64 k] w λe w'=>e = .returned (.int .i64 (dJ d k))/\Below w.heap.size w w':=by
 have p:=h.n;unfold maxLen at p;have f:=(ah _ w).alloc (ae _) (.cells (aU d) 70);by_cases c:k+1<d.ai.length
 .obtain⟨b,off,q,r,c0,c1,c2⟩:=((h.below f).more f.size).cU _ c;have m:=J (show dJ d k=((d.ai[k+1]'c).ar.length) by unfold dJ;rw[gE]);generalize dJ d k=V at*;have g:=J f;unfold aU at*;rw[q]at*;generalize(d.ai[k+1]'c).At=x1 at*;generalize(d.ai[k+1]'c).ar.length=x2 at*;generalize(d.ai[k+1]'c).ct=s at*;go_in;go_wp2;go_ret;exact⟨by rw[m];rfl,g⟩
 .have m:=J (show dJ d k=0 by unfold dJ;grind);generalize dJ d k=V at*;have g:=J f;unfold aU at*;go_enter Tryz.func127,Tryz.ntmps127;go_wp2;go_ret;exact⟨by rw[m];rfl,g⟩
structure da(d:au):Prop where
 name:iG d.name
 n1:1<=d.ai.length
 n2:d.ai.length<=4
 ai:∀k(h:k<d.ai.length),kS d.ai[k] (dJ d k)
 names:∀i k(hk:k<d.ai.length)(hi:i<k),d.ai[i].name≠d.ai[k].name
def qE(d:au)(k:Nat):Prop:=(∀j(h:j<d.ai.length),j<k->kS d.ai[j] (dJ d j))/\∀i j(b:j<d.ai.length)(hi:i<j),j<k->d.ai[i].name≠d.ai[j].name
def qE.next{d:au}{k:Nat}(h:qE d k)(hk:k<d.ai.length)(ht:kS d.ai[k] (dJ d k))(f:∀i(hi:i<k),d.ai[i].name≠d.ai[k].name):qE d (k+1):=by
 refine⟨λj b c=> ?_,λi j b hi c=> ?_⟩
 .by_cases e:j=k
  .grind
  .exact h.1 j b o_
 .by_cases e:j=k
  .grind
  .exact h.2 i j b hi o_
def K8{a b c:Value}{g:Nat}{x0 x1:Value}{m v w':World}{f d:Nat}(e:E v w')
 (h:C v g 0 x0/\C v g 1 x1/\C v f d a/\C v f (d+1) b/\C v f (d+2) c/\E m v) :
 C w' g 0 x0/\C w' g 1 x1/\C w' f d a/\C w' f (d+1) b/\C w' f (d+2) c/\E m w':=by
 obtain⟨h0,h1,h2,p,q,n⟩:=h;exact⟨al e h0,al e h1,al e h2,al e p,al e q,n.trans (e.mono n.size)⟩
def Og(d:au)(w:World)(h:dB w w.heap.size d):Calls prog 53 #[.agg (aU d)] w (cM (λr=>r=0->da d) w):=by
 have HR:=J (λr w' h hb=>cM.mono (P:=λr=>r=0->da d) (w:=w) (r:=r) (w':=w') h hb);have hb0:=(ah _ w).alloc (ae _) (.cells (aU d) 70);have Hb0:=J hb0;have H0:=J ((h.below hb0).more hb0.size);have HB:=J (aa.new w 70 (aU d));have hn:=h.n;have HN:=J (yH _ (w.alloc (.cells (aU d) 70)) h.name);have HOk:Kp (iG _->1<=d.ai.length->d.ai.length<=4->qE d _->da d):=λa b c e=>⟨a,b,c,λk hk=>e.1 k hk hk,λi k hk hi=>e.2 i k hk hi hk⟩;unfold maxLen at hn;clear h hb0;generalize hQ:cM (λr=>r=0->da d) w=Q at*;clear hQ;unfold aU at HB HN Hb0 H0⊢;go_in;go_wp2_with fail;generalize w.alloc _=W0 at*;apply HN.mono;rintro e w1⟨r,rfl,hr,hb1⟩;have Hb1:=J hb1;have HB1:=bu HB hb1;obtain⟨b0,b1,_,_⟩:=HB1.two;have Hr:=J hr;clear hb1 HN hr;obtain _|_:=r
 . go_wp2;exact HR _ _ (λh=>by cases h) (Hb0.trans (Hb1.mono Hb0.size))
 .by_cases h1:1<=d.ai.length/\d.ai.length<=4
  .obtain⟨h1,h2⟩:=h1
   go_wp2;clear b0 b1
   go_loopw [23] (λv23 wr=>∃k:Nat,k<=d.ai.length/\v23 = I k/\qE d k/\E W0 wr) (λv23 _=>d.ai.length-(intOf v23).toNat)
   case atStart=>exact⟨0,av _,rfl,⟨λj _ h=>o_,λi j _ _ h=>o_⟩,Hb1⟩
   .obtain⟨k,hk,rfl,hto,hbe⟩:=hrel;have Hto:=J hto;have Hbe:=J hbe;obtain⟨b0,b1,_,_⟩:=(HB.under hbe).two;clear hto hbe;by_cases hlt:k<d.ai.length
    .have hd:=(H0.below Hbe).more Hbe.size;have HA1:=kp (show∀W,Below _ _ W->Calls _ _ #[.agg #[.string _,.slice _ _ _],.int _ k] W λe w'=>e = .returned _/\Below _ W _ fromλW hW=>Oe d k W ((hd.below hW).more hW.size) o_);have HW1:Kp (∀W,E _ W->Calls _ _ #[.agg #[T (d.ai[k]'hlt).name,U (d.ai[k]'hlt).At (d.ai[k]'hlt).ar.length (d.ai[k]'hlt).ct,U (d.ai[k]'hlt).Au (d.ai[k]'hlt).up.length (d.ai[k]'hlt).cu],I _] W _):=λW hW=>Od _ _ W (((hd.ai _ (gM o_)).below hW).more hW.size) (FP hd k);obtain⟨b,off,hA,hb,c0,c1,c2⟩:=hd.cU k hlt;rw[hA]at b1 HA1
     have Hnx:=J (λa b=>Hto.next hlt a b);have HA2:=J hA;clear hd hA;generalize kS _ _=PT at*;generalize dJ d k=ab at*;go_wp2
     go_region_held3 (λw'=>C w' w.heap.size 0 (T d.name)/\C w' w.heap.size 1 (U (some ⟨b,off,none⟩) d.ai.length d.c)/\C w' b (off+k*3) (T (d.ai[k]'hlt).name)/\C w' b (off+k*3+1) (U (d.ai[k]'hlt).At (d.ai[k]'hlt).ar.length (d.ai[k]'hlt).ct)/\C w' b (off+k*3+2) (U (d.ai[k]'hlt).Au (d.ai[k]'hlt).up.length (d.ai[k]'hlt).cu)/\E wr w')
      (first
        |exact⟨b0,b1,c0,c1,c2,(ah _ _).drew⟩
        |(go_split_ands;with_reducible exact K8 hbx ⟨o_,o_,o_,o_,o_,o_⟩))
      (first
        |(go_at_call 127;go_split_ands;apply(HA1 _ o_).mono;rintro e wx⟨rfl,hbx⟩)
        |(go_at_call 126;go_split_ands;apply(HW1 _ o_).mono;rintro e wx⟨r1,rfl,hr1,hbx⟩))
     rename_i hHeld;have Hr1:=J hr1;have Hb2:=J (Hbe.trans (hHeld.2.2.2.2.2.mono Hbe.size));clear hHeld hr1 c0 c1 c2 b0 b1 HA1 HW1;obtain⟨b0,b1,_,_⟩:=(HB.under Hb2).two;rw[HA2]at b1;by_cases he:r1=0
     .subst he
      go_wp2
      go_loopw [5] (λv5 wr=>∃q:Nat,q<=k/\v5 = I q/\(∀i(hi:i<k),i<q->d.ai[i].name≠(d.ai[k]'hlt).name)/\E W0 wr) (λv5 _=>k-(intOf v5).toNat)
      case atStart=>exact⟨0,av _,rfl,λi _ h=>o_,Hb2⟩
      .clear b0 b1;obtain⟨q,hq,rfl,hno,hbe2⟩:=hrel;have Hno:=J hno;have Hbe2:=J hbe2;obtain⟨b0,b1,_,_⟩:=(HB.under hbe2).two;rw[HA2]at b1;clear hno hbe2;by_cases hqk:q<k
       .have hd:=(H0.below Hbe2).more Hbe2.size;have hql:q<d.ai.length:=o_
        obtain⟨b',off',hA',hb',c0,_,_⟩:=hd.cU k hlt;obtain⟨b'',off'',hA'',hb'',d0,_,_⟩:=hd.cU q hql;rw[HA2]at hA' hA'';cases hA';injection hA'' with hA''
        injection hA'' with e1 e2 _
        subst e1 e2;clear hd;have Hnm:Kp ((d.ai[q]'hql).name=(d.ai[q]'hql).name/\(d.ai[k]'hlt).name=(d.ai[k]'hlt).name):=⟨rfl,rfl⟩
        have Hnx2:Kp (((d.ai[q]'hql).name.toList == (d.ai[k]'hlt).name.toList)=false->∀i(hi:i<k),i<q+1->d.ai[i].name≠(d.ai[k]'hlt).name):=λh i hi hiq=>by
         by_cases e:i=q
         .grind
         .exact Hno i hi o_
        clear Hnm
        generalize(d.ai[q]'hql).name=y at*;generalize(d.ai[k]'hlt).name=x at*;rcases hyx:(y.toList == x.toList)with _|_
        .have Hn3:=J (Hnx2 hyx);go_wp2
         go_quiet (fail)
         go_wp2;exact⟨⟨_,o_,o_,Hn3,below_drewN Hbe2 _⟩,o_⟩
        .go_wp2_with fail
         go_quiet (fail)
         go_wp2;exact HR _ _ (λh=>o_) (Hb0.trans ((below_drewN Hbe2 _).mono Hb0.size))
       .have Hto2:=J (Hnx (Hr1 o_) (λi hi=>Hno i hi o_));go_wp2;exact⟨⟨_,o_,o_,Hto2,Hbe2⟩,o_⟩
     .have hne:(r1 != 0)=true:=o_
      go_wp2;exact HR _ _ (λh=>absurd h he) (Hb0.trans (Hb2.mono Hb0.size))
    .obtain rfl:k=d.ai.length:=o_
     go_wp2;exact HR _ _ (λ_=>HOk (Hr o_) h1 h2 Hto) (Hb0.trans (Hbe.mono Hb0.size))
  .go_wp2_with fail
   all_goals first
    |exact HR _ _ (λh=>o_) (Hb0.trans (Hb1.mono Hb0.size))
    |(exfalso;omega)
abbrev aG(s:aN):AV:=#[U s.A s.af.length s.c,U s.Am s.aC.length s.cm]
def Oh(s:aN)(w:World)(h:cQ w w.heap.size s):Calls prog 23 #[.agg (aG s)] w (cy (λ_=>True) w):=by
 have HR:=J (λr w' hb=>cy.mono (P:=λ_=>True) (w:=w) (r:=r) (w':=w') trivial hb);have hb0:=(ah _ w).alloc (ae _) (.cells (aG s) 25);have Hb0:=J hb0;have H0:=J ((h.below hb0).more hb0.size);have HB:=J (aa.new w 25 (aG s));have hn:=h.n;have hnm:=h.nm;have HF:=J Of;unfold maxLen at hn hnm;generalize hQ:cy (λ_=>True) w=Q at*;unfold aG at HB Hb0 H0⊢;go_in;go_wp2;generalize w.alloc _=W0 at*
 go_loopw [3,4] (λv3 v4 wr=>∃(k:Nat)(x:Int),k<=s.af.length/\k<=21/\v3 = I x/\v4 = I k/\E W0 wr) (λ_ v4 _=>s.af.length-(intOf v4).toNat)
 case atStart=>exact⟨0,0,o_,o_,rfl,rfl,ah _ _⟩
 .obtain⟨k,x,hk,hk2,rfl,rfl,hbe⟩:=hrel;obtain⟨b0,b1,_,_⟩:=(HB.under hbe).two;by_cases hgo:k<s.af.length/\k<=20
  .obtain⟨hlt,h20⟩:=hgo;have hs:=(H0.below (J hbe)).more (J hbe).size;obtain⟨b,off,hA,hb,c0,c1⟩:=hs.aj k hlt;rw[hA]at b0;have HFk:=J (HF _ _ (hs.af _ (gM hlt)));have Hda:=J (hs.af _ (gM hlt));have hdn:=(hs.af _ (gM hlt)).n;unfold maxLen at hdn;have HA2:=J hA;unfold aU at HFk;clear hs hA;generalize(s.af[k]'hlt)=d at*;have hi0:0<=(k:Int):=o_
   have hi1:k<(s.af.length:Int):=o_
   have hi2:(k:Int)<=20:=o_
   go_wp2_with fail;apply HFk.mono;rintro e w1⟨r,rfl,_,hb1⟩;have Hb1:=ay (J hbe) hb1;have Hda1:=J ((Hda.below hb1).more hb1.size);have c1':=al hb1 c1;clear c0 c1 b0 b1 hb1 HFk;obtain⟨b0,b1,_,_⟩:=(HB.under Hb1).two;rw[HA2]at b0;obtain _|_:=r
   . go_wp2;exact HR _ _ (Hb0.trans (Hb1.mono Hb0.size))
   .go_wp2_with fail;clear b0 b1 c1'
    go_loopw [3,34] (λv3 v34 wr=>∃(q:Nat)(y:Int),q<=d.ai.length/\v3 = I y/\v34 = I q/\E w1 wr) (λ_ v34 _=>d.ai.length-(intOf v34).toNat)
    case atStart=>exact⟨0,x,o_,rfl,rfl,bR⟩
    .obtain⟨q,y,hq,rfl,rfl,hbe2⟩:=hrel;have Hbe2:=J hbe2;clear hbe2;by_cases hqd:q<d.ai.length
     .obtain⟨b',off',hA',hb',t0,t1,t2⟩:=((Hda1.below Hbe2).more Hbe2.size).cU q hqd;have hi3:0<=(q:Int):=o_
      have hi4:q<(d.ai.length:Int):=o_
      rw[hA'];generalize(d.ai[q]'hqd).name=z0 at*;generalize(d.ai[q]'hqd).At=z1 at*;generalize(d.ai[q]'hqd).ar.length=z2 at*;generalize(d.ai[q]'hqd).ct=z3 at*;generalize(d.ai[q]'hqd).Au=z4 at*;generalize(d.ai[q]'hqd).up.length=z5 at*;generalize(d.ai[q]'hqd).cu=z6 at*;have Hnx:=J (Hbe2.alloc Hbe2.size (.cells #[T z0,U z1 z2 z3,U z4 z5 z6] 104));clear hA';go_wp2
      first
       |exact⟨⟨q+1,_,o_,rfl,o_,Hnx⟩,o_⟩
       |(refine⟨?_,by simp[intOf];omega⟩;(repeat apply Exists.intro);refine And.intro ?_ rfl;exact⟨q+1,_,o_,rfl,by go_num,Hnx⟩)
     . go_wp2;exact⟨⟨k+1,y,o_,o_,rfl,o_,Hb1.trans (Hbe2.mono Hb1.size)⟩,o_⟩
  .have hgo':¬(k<(s.af.length:Int)/\(k:Int)<=20):=o_
   have Hm:=J H0.aC;have Hmz:=J H0.sz;by_cases hlt:(k:Int)<(s.af.length:Int)
   all_goals
    go_wp2
    all_goals first
     |(exfalso;omega)
     |skip
    clear b0 b1
    go_loopw [7,8] (λv7 v8 wr=>∃(q:Nat)(y:Int),q<=s.aC.length/\q<=6/\v7 = I y/\v8 = I q/\E W0 wr) (λ_ v8 _=>s.aC.length-(intOf v8).toNat)
    case atStart=>grind
    .obtain⟨q,y,hq,hq2,rfl,rfl,hbe2⟩:=hrel;obtain⟨b0,b1,_,_⟩:=(HB.under hbe2).two;by_cases hgo2:q<s.aC.length/\q<=5
     .obtain⟨hqm,h5⟩:=hgo2;obtain⟨b',off',hA',hb',t0⟩:=Row.at_ ((Hm.below (J hbe2)).more (J hbe2).size) (by rw[lM];exact hqm);rw[getElem_map]at t0;rw[hA']at b1;have hzz:=Hmz _ (gM hqm);unfold maxLen at hzz;generalize(s.aC[q]'hqm)=z at*;have hi3:0<=(q:Int):=o_
      have hi4:q<(s.aC.length:Int):=o_
      have hi5:(q:Int)<=5:=o_
      clear hA';go_wp2
      all_goals exact⟨⟨q+1,_,o_,o_,rfl,o_,(J hbe2)⟩,o_⟩
     .go_wp2_with fail
      all_goals first
       |exact HR _ _ (Hb0.trans ((J hbe2).mono Hb0.size))
       |(exfalso;omega)
structure cJ(s:aN):Prop where
 n1:1<=s.af.length
 n2:s.af.length<=16
 af:∀k(h:k<s.af.length),da s.af[k]
 names:∀i k(hk:k<s.af.length)(hi:i<k),s.af[i].name≠s.af[k].name
 m1:1<=s.aC.length
 m2:s.aC.length<=3
 aC:∀k(h:k<s.aC.length),iG s.aC[k]
 L2:∀i k(hk:k<s.aC.length)(hi:i<k),s.aC[i]≠s.aC[k]
def qN(s:aN)(k:Nat):Prop:=(∀j(h:j<s.af.length),j<k->da s.af[j])/\∀i j(b:j<s.af.length)(hi:i<j),j<k->s.af[i].name≠s.af[j].name
def qN.next{d:aN}{k:Nat}(h:qN d k)(hk:k<d.af.length)(ht:da d.af[k])(f:∀i(hi:i<k),d.af[i].name≠d.af[k].name):qN d (k+1):=by
 refine⟨λj b c=> ?_,λi j b hi c=> ?_⟩
 .by_cases e:j=k
  .grind
  .exact h.1 j b o_
 .by_cases e:j=k
  .grind
  .exact h.2 i j b hi o_
def qJ(l:List ByteArray)(k:Nat):Prop:=(∀j(h:j<l.length),j<k->iG l[j])/\∀i j(b:j<l.length)(hi:i<j),j<k->l[i]≠l[j]
def qJ.next{l:List ByteArray}{k:Nat}(h:qJ l k)(hk:k<l.length)(ht:iG l[k])(d:∀i(hi:i<k),l[i]≠l[k]):qJ l (k+1):=by
 refine⟨λj b c=> ?_,λi j b hi c=> ?_⟩
 .by_cases e:j=k
  .grind
  .exact h.1 j b o_
 .by_cases e:j=k
  .grind
  .exact h.2 i j b hi o_
def DL(s:aN)(w:World)(h:cQ w w.heap.size s):Calls prog 26 #[.agg (aG s)] w (cM (λr=>r=0->cJ s) w):=by
 have HR:=J (λr w' h hb=>cM.mono (P:=λr=>r=0->cJ s) (w:=w) (r:=r) (w':=w') h hb);have hb0:=(ah _ w).alloc (ae _) (.cells (aG s) 25);have Hb0:=J hb0;have H0:=J ((h.below hb0).more hb0.size);have HB:=J (aa.new w 25 (aG s));have hn:=h.n;have hnm:=h.nm;have HW:=J Og;have HN:=J yH;have HOk:Kp (1<=s.af.length->s.af.length<=16->qN s _->1<=s.aC.length->s.aC.length<=3->qJ _ _->cJ s):=λa b c d e f=>⟨a,b,λk hk=>c.1 k hk hk,λi k hk hi=>c.2 i k hk hi hk,d,e,λk hk=>f.1 k hk hk,λi k hk hi=>f.2 i k hk hi hk⟩;unfold maxLen at hn hnm;generalize hQ:cM (λr=>r=0->cJ s) w=Q at*;unfold aG at HB Hb0 H0⊢;have HBf:Kp (∀W,Below _ _ W->E w W):=λW hW=>Hb0.trans (hW.mono Hb0.size);go_in;by_cases h1:1<=s.af.length/\s.af.length<=16
 .obtain⟨h1,h2⟩:=h1;have h1':¬(s.af.length:Int)<1:=o_
  have h2':¬ 16<(s.af.length:Int):=o_
  go_wp2;generalize w.alloc _=W0 at*
  go_loopw [21] (λv21 wr=>∃k:Nat,k<=s.af.length/\v21 = I k/\qN s k/\E W0 wr) (λv21 _=>s.af.length-(intOf v21).toNat)
  case atStart=>exact⟨0,o_,rfl,⟨λj _ h=>o_,λi j _ _ h=>o_⟩,ah _ _⟩
  .obtain⟨k,hk,rfl,hto,hbe⟩:=hrel;have Hbe:=J hbe;obtain⟨b0,b1,_,_⟩:=(HB.under hbe).two;clear hbe;by_cases hlt:k<s.af.length
   .have hs:=(H0.below Hbe).more Hbe.size;have HW1:=J (HW _ _ (hs.af _ (gM hlt)));unfold aU at HW1;obtain⟨b,off,hA,hb,c0,c1⟩:=hs.aj k hlt;rw[hA]at b0;have HA2:=J hA;have hi0:0<=(k:Int):=o_
    have hi1:k<(s.af.length:Int):=o_
    have Hnx:=J (λa b=>(J hto).next hlt a b);clear hs hA;generalize da _=PD at*;go_wp2_with fail;apply HW1.mono;rintro e w1⟨r1,rfl,(Hr1:Kp _),hb1⟩;have Hb2:=ay Hbe hb1;clear hb1 c0 c1 b0 b1 HW1;by_cases he:r1=0
    .subst he
     go_wp2
     go_loopw [5] (λv5 wr=>∃q:Nat,q<=k/\v5 = I q/\(∀i(hi:i<k),i<q->s.af[i].name≠(s.af[k]'hlt).name)/\E W0 wr) (λv5 _=>k-(intOf v5).toNat)
     case atStart=>exact⟨0,av _,rfl,λi _ h=>o_,Hb2⟩
     .obtain⟨q,hq,rfl,hno,hbe2⟩:=hrel;have Hno:=J hno;have Hbe2:=J hbe2;obtain⟨b0,b1,_,_⟩:=(HB.under hbe2).two;rw[HA2]at b0;clear hno hbe2;by_cases hqk:q<k
      .have hs:=(H0.below Hbe2).more Hbe2.size;have hql:q<s.af.length:=o_
       obtain⟨b',off',hA',hb',c0,_⟩:=hs.aj k hlt;obtain⟨b'',off'',hA'',hb'',d0,_⟩:=hs.aj q hql;rw[HA2]at hA' hA'';injection hA' with hA'
       injection hA' with e1 e2 _
       subst e1 e2;injection hA'' with hA''
       injection hA'' with e1 e2 _
       subst e1 e2
       have Hnx2:Kp (((s.af[q]'hql).name.toList == (s.af[k]'hlt).name.toList)=false->∀i(hi:i<k),i<q+1->s.af[i].name≠(s.af[k]'hlt).name):=λh i hi hiq=>by
        by_cases e:i=q
        .grind
        .exact Hno i hi o_
       have hi2:0<=(q:Int):=o_
       have hi3:q<(s.af.length:Int):=o_
       have hi4:q<(k:Int):=o_
       generalize(s.af[q]'hql).name=y at*;generalize(s.af[k]'hlt).name=x at*;rcases hyx:(y.toList == x.toList)with _|_
       .have Hn3:=J (Hnx2 hyx);go_wp2
        go_quiet (fail)
        go_wp2;exact⟨⟨_,o_,o_,Hn3,below_drewN Hbe2 _⟩,o_⟩
       .go_wp2_with fail
        go_quiet (fail)
        go_wp2;exact HR _ _ (λh=>o_) (HBf _ (below_drewN Hbe2 _))
      .have Hto2:=J (Hnx (Hr1 o_) (λi hi=>Hno i hi o_));go_wp2;exact⟨⟨_,o_,o_,Hto2,Hbe2⟩,o_⟩
    .have hne:(r1 != 0)=true:=by simpa using he
     go_wp2_with fail;exact HR _ _ (λh=>absurd h he) (HBf _ Hb2)
   .obtain rfl:k=s.af.length:=o_
    have Hms:=J H0.aC;have Hmz:=J H0.sz;clear HW H0;generalize s.aC=l at*;by_cases hm:1<=l.length/\l.length<=3
    .obtain⟨hm1,hm2⟩:=hm;have h1':¬(l.length:Int)<1:=o_
     have h2':¬ 3<(l.length:Int):=o_
     go_wp2_with fail
     go_loopw [65] (λv65 wr=>∃k:Nat,k<=l.length/\v65 = I k/\qJ l k/\E W0 wr) (λv65 _=>l.length-(intOf v65).toNat)
     case atStart=>exact⟨0,av _,rfl,⟨λj _ h=>o_,λi j _ _ h=>o_⟩,Hbe⟩
     .obtain⟨j,hj,rfl,hmt,hbe3⟩:=hrel;obtain⟨b0,b1,_,_⟩:=(HB.under hbe3).two;by_cases hlt:j<l.length
      .obtain⟨b,off,hA,hb,c0⟩:=Row.at_ ((Hms.below (J hbe3)).more (J hbe3).size) (by rw[lM];exact hlt);rw[getElem_map]at c0;rw[hA]at b1;have HN1:=J (λW=>HN _ W (Hmz _ (gM hlt)));have HA2:=J hA;have hi0:0<=(j:Int):=o_
       have hi1:j<(l.length:Int):=o_
       have Hnx:=J (λa b=>(J hmt).next hlt a b);clear hA;generalize iG _=PD at*;go_wp2_with fail;apply(HN1 _).mono;rintro e w1⟨r1,rfl,hr1,hb1⟩;have Hr1:=J hr1;have Hb2:=ay (J hbe3) hb1;clear hr1 hb1 c0 b0 b1 HN1;obtain _|_:=r1
       . go_wp2;exact HR _ _ (λh=>o_) (HBf _ Hb2)
       .go_wp2_with fail
        go_loopw [7] (λv7 wr=>∃q:Nat,q<=j/\v7 = I q/\(∀i(hi:i<j),i<q->l[i]≠(l[j]'hlt))/\E W0 wr) (λv7 _=>j-(intOf v7).toNat)
        case atStart=>exact⟨0,av _,rfl,λi _ h=>o_,Hb2⟩
        .obtain⟨q,hq,rfl,hno,hbe2⟩:=hrel;have Hno:=J hno;have Hbe2:=J hbe2;obtain⟨b0,b1,_,_⟩:=(HB.under hbe2).two;rw[HA2]at b1;clear hno hbe2;by_cases hqk:q<j
         .have hql:q<l.length:=o_
          obtain⟨b',off',hA',hb',c0⟩:=Row.at_ ((Hms.below Hbe2).more Hbe2.size) (k:=j) (by rw[lM];omega);obtain⟨b'',off'',hA'',hb'',d0⟩:=Row.at_ ((Hms.below Hbe2).more Hbe2.size) (by rw[lM];omega);rw[getElem_map]at c0 d0;rw[HA2]at hA' hA'';injection hA' with hA'
          injection hA' with e1 e2 _
          subst e1 e2;injection hA'' with hA''
          injection hA'' with e1 e2 _
          subst e1 e2
          have Hnx2:Kp (((l[q]'hql).toList == (l[j]'hlt).toList)=false->∀i(hi:i<j),i<q+1->l[i]≠(l[j]'hlt)):=λh i hi hiq=>by
           by_cases e:i=q
           .subst e;intro hh;rw[hh]at h;simp at h
           .exact Hno i hi o_
          have hi2:0<=(q:Int):=o_
          have hi3:q<(l.length:Int):=o_
          have hi4:q<(j:Int):=o_
          generalize(l[q]'hql)=y at*;generalize(l[j]'hlt)=x at*;rcases hyx:(y.toList == x.toList)with _|_
          .have Hn3:=J (Hnx2 hyx);go_wp2
           go_quiet (fail)
           go_wp2;exact⟨⟨_,o_,o_,Hn3,below_drewN Hbe2 _⟩,o_⟩
          .go_wp2_with fail
           go_quiet (fail)
           go_wp2;exact HR _ _ (λh=>o_) (HBf _ (below_drewN Hbe2 _))
         .have Hto2:=J (Hnx (Hr1 o_) (λi hi=>Hno i hi o_));go_wp2;exact⟨⟨_,o_,o_,Hto2,Hbe2⟩,o_⟩
      .obtain rfl:j=l.length:=o_
       go_wp2;exact HR _ _ (λ_=>HOk h1 h2 (J hto) o_ o_ (J hmt)) (HBf _ (J hbe3))
    .go_wp2_with fail
     all_goals first
      |exact HR _ _ (λh=>o_) (HBf _ Hbe)
      |(exfalso;omega)
 .go_wp2_with fail
  all_goals first
   |exact HR _ _ (λh=>o_) Hb0
   |(exfalso;omega)
structure fT(w:World)(B:Nat)(A:OA)(l:List Rw):Prop where
 n:l.length<=maxLen
 row:Row w B A (l.flatMap ur)
 each:∀r∈l,kQ w B r
def fT.below{w w':World}{B:Nat}{A:OA}{l:List Rw}(h:fT w B A l)(b:Below B w w'):fT w' B A l:=⟨h.n,h.row.below b,λr c=>(h.each r c).below b⟩
def fT.more{w:World}{B b:Nat}{A:OA}{l:List Rw}(h:fT w B A l)(c:B<=b):fT w b A l:=⟨h.n,h.row.more c,λr d=>(h.each r d).more c⟩
def fT.rQ{w:World}{B:Nat}{A:OA}{l:List Rw}(h:fT w B A l)(k:Nat)(hk:k<l.length) :
 ∃b off,A=some ⟨b,off,none⟩/\b<B/\C w b (off+k*2) (U l[k].A l[k].ar.length l[k].c)/\C w b (off+k*2+1) (U l[k].Av l[k].cj.length l[k].cv):=by
 obtain⟨b,off,e,f,d⟩:=Row.rec Eg h.row o_ k hk;exact⟨b,_,e,f,d 0 _ rfl,d 1 _ rfl⟩
def Ol(A:OA)(l:List Rw)(c:Nat)(w:World)(h:fT w w.heap.size A l):Calls prog 24 #[U A l.length c] w (cy (λ_=>True) w):=by
 have H:=J (λr w' G=>cy.mono (P:=λ_=>True) (w:=w) (r:=r) (w':=w') trivial G);have W:=h.n;unfold maxLen at W;generalize u:cy (λ_=>True) w=Q at*;go_in;go_wp2;go_loopw [3,4] (λF v wr=>∃(k:Nat)(x:Int),k<=l.length/\k<=311/\F = I x/\v = I k/\E w wr) (λ_ v _=>l.length-(intOf v).toNat)
 case atStart=>exact⟨0,0,o_,o_,rfl,rfl,ah _ _⟩
 .obtain⟨k,x,hk,T,rfl,rfl,(d:Kp _)⟩:=hrel;by_cases p:k<l.length/\k<=310
  .obtain⟨e,N⟩:=p;have m:=((J h).below d).more d.size;obtain⟨b,off,rfl,G,c0,c1⟩:=m.rQ k e;have R:=J (m.each _ (gM e));have u:=(m.each _ (gM e)).n;have C:=(m.each _ (gM e)).nv;unfold maxLen at u C;generalize(l[k]'e)=r at*;have Y:0<=(k:Int):=o_;have X:k<(l.length:Int):=o_;have Z:(k:Int)<=310:=o_;by_cases s:r.ar.length<=20/\r.cj.length<=20
   .obtain⟨O,M⟩:=s;have u:¬ 20<(r.ar.length:Int):=o_;have u:¬ 20<(r.cj.length:Int):=o_;go_wp2;go_loop [3,39] (λF g=>∃(q:Nat)(y:Int),q<=r.ar.length/\F = I y/\g = I q) (λ_ g=>r.ar.length-(intOf g).toNat)
    case atStart=>grind
    .obtain⟨q,y,u,rfl,rfl⟩:=hrel;by_cases f:q<r.ar.length
     .obtain⟨u,L,B,u,u⟩:=Row.at_ R.ar (by rw[lM];exact f);rw[getElem_map]at u;have D:=R.sz _ (gM f);unfold maxLen at D;rw[B];generalize(r.ar[q]'f)=z at*;have u:0<=(q:Int):=o_;have V:q<(r.ar.length:Int):=o_;go_wp2
      all_goals
       go_round
       case rel=>exact⟨q+1,_,o_,rfl,o_⟩
       case measure=>simp[intOf];omega
     . go_wp2;exact⟨⟨k+1,y,o_,o_,rfl,o_,d⟩,o_⟩
   .go_wp2_with fail
    all_goals first
     |exact H _ _ d
     |(exfalso;omega)
  .go_wp2_with fail
   all_goals first
    |exact H _ _ d
    |(exfalso;omega)
def fin(d:au):List ByteArray:=match d.ai with
 |t::_=>t.ar
 | []=>[]
structure eE(s:aN)(r:Rw)(keys:LN):Prop where
 n:keys.length=s.af.length
 nt:r.ar.length=s.af.length
 nv:r.cj.length=s.aC.length
 at_:∀(i:Nat)(d:au)(t:ByteArray)(k:Nat),s.af[i]? = some d->r.ar[i]? = some t->keys[i]? = some k->(fin d)[k]? = some t
def da.xb{d:au}(h:da d):eu (fin d)/\∃t,d.ai[0]? = some t/\fin d=t.ar:=by
 have h1:=h.n1;unfold fin;rcases hd:d.ai with _|⟨t,ts⟩
 .grind
 .have:=(h.ai 0 (by rw[hd];simp)).row;grind
def eu.inj{l:List ByteArray}(h:eu l){i j:Nat}{x:ByteArray}(hi:l[i]? = some x)(hj:l[j]? = some x):i=j:=by
 obtain⟨h1,e1⟩:=aO hi;obtain⟨h2,e2⟩:=aO hj;obtain hij|hij|hij:=Nat.lt_trichotomy i j
 .have:=h.lt hij h2;rw[e1,e2,mZ]at this;cases this
 .omega
 .have:=h.lt hij h1;rw[e1,e2,mZ]at this;cases this
def eE.eq{s:aN}{r:Rw}{b c:LN}(d:cJ s)(h1:eE s r b)(h2:eE s r c):b=c:=by
 apply ext_getElem (by rw[h1.n,h2.n]);intro i hi e;have hd:i<s.af.length:=by rw[<-h1.n];omega
 have ht:i<r.ar.length:=by rw[h1.nt];omega
 exact(d.af i hd).xb.1.inj (h1.at_ i _ _ _ (gE hd) (gE ht) (gE hi)) (h2.at_ i _ _ _ (gE hd) (gE ht) (gE e))
end Tc
namespace Dv
open List Go.RowKit Base Go.Proofs.Tryz
def aa.dL{w g t a b c d e f}(h:aa w g t #[a,b,c,d,e,f]) :
 (C w g 0 a/\C w g 1 b/\C w g 2 c/\C w g 3 d/\C w g 4 e/\C w g 5 f)/\(w.frozen? (M g 0)=false/\w.frozen? (M g 1)=false/\w.frozen? (M g 2)=false/\w.frozen? (M g 3)=false/\w.frozen? (M g 4)=false/\w.frozen? (M g 5)=false):=
 ⟨⟨h.cell 0,h.cell 1,h.cell 2,h.cell 3,h.cell 4,h.cell 5⟩,⟨h.free 0,h.free 1,h.free 2,h.free 3,h.free 4,h.free 5⟩⟩
structure Dv where
 sec:List ByteArray
 puts:List (Nat×ByteArray)
 fuse:Nat
 reads:Nat
 steps:Nat
 off:Bool
structure Good(s:Dv):Prop where
 lo:16<=s.sec.length
 hi:s.sec.length<=4096
 sec:∀x∈s.sec,x.size=128
 at_:∀p∈s.puts,p.1<s.sec.length
 data:∀p∈s.puts,p.2.size=128
 puts:s.puts.length<=1000000
 fuse:s.fuse<=9223372036854775807
 reads:s.reads<=1000000
 steps:s.steps<=1000000
def mG(l:List (Nat×ByteArray)):LV:=l.flatMap λp=>[I p.1,T p.2]
def DA l k(h:k<l.length):(mG l)[k*2]? = some (I (l[k].1:Nat))/\(mG l)[k*2+1]? = some (T l[k].2):=by
 induction l generalizing k with
 |nil=>simp at h
 |cons a l b=>
  cases k with
  |zero=>trivial
  |succ k=>
   have h':k<l.length:=by grind
   have:=b k h';rw[show(k+1)*2=k*2+2 by omega];exact this
def NU l(p:Nat×ByteArray):mG (l++[p])=mG l++[I p.1,T p.2]:=by
 unfold mG;simp
structure aX(w:World)(B:Nat)(F:Nat->Prop)(d gs c:Nat)(pv:Value)(s:Dv):Prop where
 box:aa w d 170 #[U (some ⟨gs,0,none⟩) s.sec.length c,pv,I s.fuse,I s.reads,I s.steps,.bool s.off]
 sec:w.ownsRow B 9 1 (U (some ⟨gs,0,none⟩) s.sec.length c) s.sec.length (s.sec.map .string)
 puts:w.ownsRow B 347 2 pv s.puts.length (mG s.puts)
 dg:d≠gs
 pd:pv.ownBlock≠some d
 pg:pv.ownBlock≠some gs
 fd:F d
 fg:F gs
 fp:∀k,pv.ownBlock=some k->F k
 own:∀k,F k->B<=k/\k<w.heap.size
 dK:Good s
def nz{w w' p base e size v n xs}(h:w.ownsRow base e size v n xs)(ht:aq p w w')(f:∀k,v.ownBlock=some k->¬p k):w'.ownsRow base e size v n xs:=by
 obtain⟨h1,h2⟩:=h;refine⟨h1,?_⟩;obtain h2|⟨g,cap,cur,c,q,m,r⟩:=h2
 .grind
 .have b:g<w.heap.size:=r_
  exact .inr ⟨g,_,_,c,q,(ht.block g b (f g (by rw[c];rfl))).trans m,r⟩
def aX.ax{w w' B F p d gs c pv s}(h:aX w B F d gs c pv s)(ht:aq p w w')(b:∀k,F k->¬p k):aX w' B F d gs c pv s:=
 ⟨h.box.ax ht (b d h.fd),nz h.sec ht (λk hk=>by simp[Value.ownBlock]at hk;subst hk;exact b _ h.fg),nz h.puts ht (λk hk=>b k (h.fp k hk)),h.dg,h.pd,h.pg,h.fd,h.fg,h.fp,λk hk=>⟨(h.own k hk).1,bh (h.own k hk).2 ht.size⟩,h.dK⟩
def aX.below{w w' B F d gs c pv s}(h:aX w B F d gs c pv s)(b:E w w'):aX w' B F d gs c pv s:=
 h.ax (.below b) (λ_ _ h=>h)
def mK d A n c pv f r s o w(b:aa w d 170 #[U A (n:Nat) c,pv,I f,I r,I s,.bool o])(p:0<n)(m:n<=1000000) :
 Calls prog 157 #[Y d 0] w λe w'=>e = .returned (.bool true)/\w=w':=by
 have g:=(aa.dL b).1;go_in;go_wp2;go_ret;simp
def yO d A n c pv f r s o w(b:aa w d 170 #[U A (n:Nat) c,pv,I f,I r,I s,.bool o])(p:0<n)(g:n<=1000000) :
 Calls prog 78 #[Y d 0] w λe w'=>e = .returned (I n)/\w=w':=by
 have m:=J (mK d A n c _ f r s o w b p g);have q:=(aa.dL b).1;go_in;go_wp2_with fail;apply m.mono;rintro e w'⟨rfl,rfl⟩;go_wp2;go_ret;simp
def Da d A n c pv f r s o w(b:aa w d 170 #[U A (n:Nat) c,pv,I f,I r,I s,.bool o])(p:0<n)(g:n<=1000000) :
 Calls prog 167 #[Y d 0] w λe w'=>e = .returned (.bool o)/\w=w':=by
 have m:=J (mK d A n c _ f r s o w b p g);have q:=(aa.dL b).1;go_in;go_wp2_with fail;apply m.mono;rintro e w'⟨rfl,rfl⟩;go_wp2;go_ret;simp
def Oy d A n c pv f r s w(b:aa w d 170 #[U A (n:Nat) c,pv,I f,I r,I s,.bool true])(p:0<n)(g:n<=1000000) i  :
 Calls prog 224 #[Y d 0,I i] w λe w'=>e = .returned (I 8)/\w=w':=by
 have m:=J (mK d A n c _ f r s _ w b p g);have q:=(aa.dL b).1;go_in;go_wp2_with fail;apply m.mono;rintro e w'⟨rfl,rfl⟩;go_wp2;go_ret;simp
def Ox d A n c pv f r s w(b:aa w d 170 #[U A (n:Nat) c,pv,I f,I r,I s,.bool false])(p:0<n)(g:n<=1000000) i(hi:i<0) :
 Calls prog 224 #[Y d 0,I i] w λe w'=>e = .returned (I 9)/\w=w':=by
 have m:=J (mK d A n c _ f r s _ w b p g);have q:=(aa.dL b).1
 go_in;go_wp2_with fail;apply m.mono;rintro e w'⟨rfl,rfl⟩;go_wp2;go_ret;simp
def Ow d A n c pv f r s w(b:aa w d 170 #[U A (n:Nat) c,pv,I f,I r,I s,.bool false])(q:0<n)(g:n<=1000000) i(hi:(n:Int)<=i) :
 Calls prog 224 #[Y d 0,I i] w λe w'=>e = .returned (I 9)/\w=w':=by
 have m:=J (mK d A n c _ f r s _ w b q g);have u:=(aa.dL b).1;have hd:decide (i<0)=false:=o_
 go_in;go_wp2_with fail;apply m.mono;rintro e w'⟨rfl,rfl⟩;go_wp2;go_ret;simp
def rP d A n c pv f r s w(b:aa w d 170 #[U A (n:Nat) c,pv,I f,I r,I s,.bool false])(q:0<n)(g:n<=1000000) i(h0:0<=i)(hi:i<(n:Int)) :
 Calls prog 224 #[Y d 0,I i] w λe w'=>e = .returned (I 0)/\w=w':=by
 have m:=J (mK d A n c _ f r s _ w b q g);have u:=(aa.dL b).1;have hd:decide (i<0)=false:=o_;have p:decide (n<=i)=false:=o_;go_in;go_wp2_with fail;apply m.mono;rintro e w'⟨rfl,rfl⟩;go_wp2;go_ret;simp
def eF(s:Dv):Dv:=if s.fuse=1 then{ s with fuse:=0,off:=true }else{ s with fuse:=s.fuse-1,steps:=s.steps+1 }
def aq.put{p a b}(h:aq p a b) q v(c:p q.block):aq p a (b.setCell q v):=h.trans (aq.set b q v c)
def aq.cell{d a b}(h:aq (·=d) a b) i v:aq (·=d) a (b.setCell (M d i) v):=aq.put h _ v rfl
def aX.fields{w w' B F d gs c pv s b}(h:aX w B F d gs c pv s)(ht:aq (·=d) w w')(f:aa w' d 170 #[U (some ⟨gs,0,none⟩) b.sec.length c,pv,I b.fuse,I b.reads,I b.steps,.bool b.off])(m:b.sec=s.sec)(n:b.puts=s.puts)(g:Good b):aX w' B F d gs c pv b:=by
 refine⟨f,?_,?_,h.dg,h.pd,h.pg,h.fd,h.fg,h.fp,λk hk=>⟨(h.own k hk).1,bh (h.own k hk).2 ht.size⟩,g⟩
 .rw[m];exact nz h.sec ht (λk hk=>by simp[Value.ownBlock]at hk;subst hk;exactλe=>h.dg e.symm)
 .rw[n];exact nz h.puts ht (λk hk e=>h.pd r_)
def aX.bare{w w' B F d gs c pv s b}(h:aX w B F d gs c pv s)(ht:aq (·=d) w w')(f:aa w' d 170 #[U (some ⟨gs,0,none⟩) b.sec.length c,Z,I b.fuse,I b.reads,I b.steps,.bool b.off])(m:b.sec=s.sec)(n:b.puts=[])(g:Good b):aX w' B F d gs c (Z) b:=by
 refine⟨f,?_,?_,h.dg,by simp[Value.ownBlock],by simp[Value.ownBlock],h.fd,h.fg,λk hk=>by trivial,λk hk=>⟨(h.own k hk).1,bh (h.own k hk).2 ht.size⟩,g⟩
 .rw[m];exact nz h.sec ht (λk hk=>by simp[Value.ownBlock]at hk;subst hk;exactλe=>h.dg e.symm)
 .rw[n];exact⟨rfl,.inl ⟨rfl,rfl⟩⟩
def ED{w B F d gs c pv s}(h:aX w B F d gs c pv s)(n:s.fuse≠1)(y:s.steps<1000000) :
 Calls prog 235 #[Y d 0] w λe w'=>e = .returned (I 0)/\aX w' B F d gs c pv (eF s)/\aq (·=d) w w':=by
 obtain⟨u,v⟩:=aa.dL h.box;have H:=J h;have p:=J n;have hd:((s.fuse:Int) == 1)=false:=o_
 have A:=h.dK.fuse;clear h n;have b:=H.dK;have f:¬s.fuse=1:=p;have g:Good (eF s):=by
  unfold eF;rw[if_neg f];exact⟨b.lo,b.hi,b.sec,b.at_,b.data,b.puts,o_,b.reads,o_⟩
 have key:=J (show∀x:Int,x=(s.fuse-1:Nat)->aX ((w.setCell _ _).setCell _ _) B F d _ c _ _/\aq _ w ((w.setCell _ _).setCell _ _) by
  rintro x rfl;have ht:aq _ w ((w.setCell (M d 2) (I (s.fuse-1:Nat))).setCell (M d 4) (I (s.steps+1))):=aq.cell (aq.cell (aq.refl _ w) _ _) _ _;refine⟨H.fields ht ?_ ?_ ?_ g,ht⟩
  .unfold eF;rw[if_neg f];exact(H.box.set 2 _).set 4 _
  .unfold eF;grind
  .unfold eF;grind)
 clear b g;generalize eF s=z at*;generalize s.fuse=q at*;generalize s.steps=r at*;go_in;go_wp2
 all_goals
  go_ret;exact⟨rfl,key.out _ o_⟩
def shown(sec:List ByteArray)(puts:List (Nat×ByteArray))(i:Nat):ByteArray:=puts.foldl (λa p=>if p.1=i then p.2 else a) (sec.getD i ByteArray.empty)
def Bn(l:List (Nat×ByteArray)) i a(h:∀p∈l,p.1≠i):l.foldl (λa p=>if p.1=i then p.2 else a) a=a:=by
 induction l generalizing a with
 |nil=>rfl
 |cons p l b=>
  grind
def Eo sec puts i(h:∀p∈puts,p.1≠i):shown sec puts i=sec.getD i ByteArray.empty:=Bn _ i _ h
def PI sec puts i j(b:j<puts.length)(c:puts[j].1=i)(h:∀p∈puts.drop (j+1),p.1≠i):shown sec puts i=puts[j].2:=by
 unfold shown;have e:puts=puts.take j++(puts[j]::puts.drop (j+1)):=s_
 generalize d:puts[j]=q at*;rw[e,foldl_append,foldl_cons,if_pos c];exact Bn _ i _ h
def aX.form{w B F d gs c pv s}(h:aX w B F d gs c pv s) :
 ∃A f,pv = U A s.puts.length f/\∀k(hk:k<s.puts.length),∃gp,A=some ⟨gp,0,none⟩/\w.cell? ⟨gp,k*2,none⟩=some (.int .i64 (s.puts[k].1:Nat))/\w.cell? ⟨gp,k*2+1,none⟩=some (.string s.puts[k].2):=by
 have b:=h.puts;obtain⟨e,h0⟩|⟨gp,cap,cur,e,_⟩:=b.2
 .grind
 .subst e;refine⟨_,_,rfl,λk hk=>⟨_,rfl,?_,?_⟩⟩
  .rw[b.cellAt _ o_];exact(DA _ k hk).1
  .rw[b.cellAt _ o_];exact(DA _ k hk).2
def aX.Ek{w B F d gs c pv s}(h:aX w B F d gs c pv s) i(hi:i<s.sec.length):w.cell? ⟨gs,i,none⟩=some (.string (s.sec.getD i ByteArray.empty)):=by
 rw[h.sec.cellAt i o_,getElem?_map,getD_eq_getElem?_getD,gE hi];rfl
def kb(s:Dv):Dv:={ s with reads:=s.reads+1 }
def aX.Ou{w B F d gs c pv s}(h:aX w B F d gs c pv s)(e:s.reads<1000000) :
 aX (w.setCell (M d 3) (I ((s.reads:Int)+1))) B F d gs c pv (kb s)/\aq (·=d) w (w.setCell (M d 3) (I ((s.reads:Int)+1))):=by
 have ht:aq _ w (w.setCell (M d 3) (I (s.reads+1))):=aq.cell (aq.refl _ w) _ _;have b:=h.dK;refine⟨h.fields ht ?_ rfl rfl ⟨b.lo,b.hi,b.sec,b.at_,b.data,b.puts,b.fuse,by show s.reads+1<=_;omega,b.steps⟩,ht⟩;exact h.box.set 3 _
def DP{w B F d gs c pv s}(h:aX w B F d gs c pv s)(W:s.off=false)(hr:s.reads<1000000) i(hi:i<s.sec.length) :
 Calls prog 158 #[Y d 0,I i] w λe w'=>e = .returned (.tuple #[T (shown s.sec s.puts i),I 0])/\aX w' B F d gs c pv (kb s)/\aq (·=d) w w':=by
 have u:=h.dK.lo;have u:=h.dK.hi;have u:=h.dK.puts;have m:=h.box;rw[W]at m;have Z:=J (rP d _ _ c _ _ _ _ w m o_ o_ i o_ o_);obtain⟨h1,ht⟩:=h.Ou hr;obtain⟨⟨X,V,v,C,E,O⟩,N⟩:=aa.dL m;have n:=J h1;have R:=J ht;clear h h1 ht m;go_in;go_wp2_with fail;apply Z.mono;rintro e w'⟨rfl,rfl⟩;go_upto_region 5 with fail;generalize w.setCell _ _=u at*;clear X V v C E O N;obtain⟨⟨X,V,v,C,E,O⟩,N⟩:=aa.dL n.box;obtain⟨A,u,rfl,f⟩:=n.form;have u:=J f;have U:=n.Ek i hi;clear f v C E O N W;simp only[kb]at*;go_wp2;go_loop [7] (λH=>∃(z:Int)(k:Nat),k<=s.puts.length/\H = I z/\z=(k:Int)-1/\∀p∈s.puts.drop k,p.1≠i) (λH=>(intOf H+1).toNat)
 case atStart=>exact⟨_,_,o_,rfl,rfl,s_⟩
 .obtain⟨z,k,hk,rfl,G,b⟩:=hrel;by_cases g:k=0
  .subst g;obtain rfl:z = -1:=o_;have D:Kp (shown _ s.puts i=s.sec.getD i _):=Eo _ _ _ r_;clear b u G hk;generalize s.sec.getD i _=y at*;go_wp2;go_ret2;exact⟨by rw[D];rfl,n,R⟩
  .obtain⟨j,rfl⟩:∃j,k=j+1:=⟨k-1,o_⟩;obtain rfl:z=j:=o_;have L:j<s.puts.length:=o_;obtain⟨gp,rfl,c0,c1⟩:=u j L;have y:j<(s.puts.length:Int):=o_;have y:0<=(j:Int):=o_;by_cases r:s.puts[j].1=i
   .have D:=J (PI s.sec _ i j L r b);have m:((s.puts[j].1:Int) == i)=true:=o_
    clear b u G hk g r;generalize s.puts[j].1=x at*;generalize s.puts[j].2=y at*;go_wp2;go_ret2;exact⟨by rw[D];rfl,n,R⟩
   .have m:((s.puts[j].1:Int) == i)=false:=o_
    have z:=J (show∀p∈s.puts.drop j,p.1≠i by
     intro p q;rw[drop_eq_getElem_cons L]at q;grind)
    clear b u G hk g r;generalize s.puts[j].1=x at*;generalize s.puts[j].2=y at*;go_wp2;go_round
    case rel=>exact⟨_,j,o_,rfl,rfl,z⟩
    case measure=>simp[intOf]
def JP:(prog.info? 347).map (λi=>(i.zero,i.size,i.bytes))=some (some (.agg #[I 0,T ByteArray.empty]),2,24):=k_
def cell_two_new(w:World) x y t:∀j u,[x,y][j]? = some u->(w.alloc (.cells #[x,y] t)).cell? (((M w.heap.size 0):Addr).add j)=some u:=by
 intro j u b;rw[jS,Nat.zero_add,(aa.new w t _).cell];grind
def Rt{P m b o a}{Q:Exit->Act->World->Prop}(E:o.guard=none) s x t(I:o.op = .call { callee:= .builtin .append,args:=#[s,x],argTypes:=#[t,t] }) base e i z bytes(ht:P.underlying t=some (.slice e))(hi:P.info? e=some i)(H:i.zero=some z)(c:i.size=2)(r:i.bytes=bytes)(B:z.cells.size=2) wr p q(C:p.oneCell'=true)(u:q.oneCell'=true) v n xs(G:a.eval s=v)(d:wr.ownsRow base e 2 v n xs)(hx:a.eval x = U (some ⟨wr.heap.size,0,none⟩) 1 1)(L:n<1048576*64)(J:bytes<=256)(D:base<=wr.heap.size)(h:∀f w',w'.ownsRow base e 2 f (n+1) (xs++[p,q])->App wr w' v f->wpList P m Q b (a.put o.dst f) w') :
 wpList P m Q (o::b) a (wr.alloc (.cells #[p,q] e)):=by
 refine wpList_append_own_at _ E s x t I _ e i z 2 _ ht hi H c r B d_ v n _ G (d.alloc _) _ 1 1 _ hx rfl (cell_two_new _ _ _ _) ?_ ?_ ?_ ?_ ?_
 .grind
 .unfold maxLen;omega
 .have:(n+1)*bytes<=(1048576*64)*256:=Nat.mul_le_mul o_ J;omega
 .simp;omega
 .intro f w' h1 h2 _ g;refine h f _ h1 ⟨⟨h2.os,h2.tape,h2.output,aF s_ h2.size,λk hk A=>(h2.block k o_ A).trans (Below.heap_alloc _ _ _ hk)⟩,?_⟩;obtain g|g:=g
  .grind
  .exact .inr ⟨_,g,s_⟩
def MM{w:World}{base e size v n xs}(h:w.ownsRow base e size v n xs):∃A c,v = U A n c:=by
 obtain⟨h,h0⟩|⟨g,cap,cur,h,_⟩:=h.2
 .grind
 grind
section
variable{w:World}{B:Nat}{F:Nat->Prop}{d gs c:Nat}{pv:Value}{s:Dv}
def aX.n0(h:aX w B F d gs c pv s):0<s.sec.length:=by have:=h.dK.lo;omega
def aX.n1(h:aX w B F d gs c pv s):s.sec.length<=1000000:=by have:=h.dK.hi;omega
def aX.pq(h:aX w B F d gs c pv s){b:Bool}(e:s.off=b):aa w d 170 #[U (some ⟨gs,0,none⟩) s.sec.length c,pv,I s.fuse,I s.reads,I s.steps,.bool b]:=e▸h.box
end
def ui(s:Dv)(i:Int):Int:=if s.off then 8 else if i<0\/(s.sec.length:Int)<=i then 9 else 0
def Ov{w B F d gs c pv s}(h:aX w B F d gs c pv s) i :
 Calls prog 224 #[Y d 0,I i] w λe w'=>e = .returned (I (ui s i))/\w=w':=by
 unfold ui;by_cases f:s.off=true
 .rw[if_pos f];exact Oy d _ _ c _ _ _ _ w (h.pq f) h.n0 h.n1 i
 .have b:s.off=false:=r_
  rw[if_neg f];by_cases h0:i<0
  .rw[if_pos (.inl h0)];exact Ox d _ _ c _ _ _ _ w (h.pq b) h.n0 h.n1 i h0
  .by_cases h1:(s.sec.length:Int)<=i
   .rw[if_pos (.inr h1)];exact Ow d _ _ c _ _ _ _ w (h.pq b) h.n0 h.n1 i h1
   .rw[if_neg o_];exact rP d _ _ c _ _ _ _ w (h.pq b) o_ h.n1 i o_ o_
def more(F:Nat->Prop)(w w':World)(k:Nat):Prop:=F k\/(w.heap.size<=k/\k<w'.heap.size)
def lW(s:Dv)(i:Nat)(x:ByteArray):Dv:={ eF s with puts:=s.puts++[(i,x)] }
def wu(B:Nat)(F:Nat->Prop)(d gs c:Nat)(s:Dv)(w:World)(e:Ending)(w':World):Prop:=e = .returned (I 0)/\∃pv,aX w' B (more F w w') d gs c pv s/\aq F w w'
def rR{s}(h:s.fuse≠1):eF s={ s with fuse:=s.fuse-1,steps:=s.steps+1 }:=by unfold eF;grind
def aX.wrote{w r m B F d gs c i pv f s x}(h1:aX r B F d gs c pv s)(ht:aq (·=d) w r)(y:∀k,F k->k<w.heap.size)(p:m.ownsRow B 347 2 f (s.puts.length+1) (mG s.puts++[N i,T x]))(q:App r m pv f)(H:Good { s with puts:=s.puts++[(i,x)] }) :
 aX (m.setCell (M d 1) f) B (more F w (m.setCell (M d 1) f)) d gs c f { s with puts:=s.puts++[(i,x)] }/\aq F w (m.setCell (M d 1) f):=by
 have u:(m.setCell (M d 1) f).heap.size=m.heap.size:=s_;have J:=ht.size;have g:=q.grown;have D:=h1.box.grown g (λe=>h1.pd e.symm);have n:∀k,f.ownBlock=some k->k≠d/\k≠gs/\(F k\/w.heap.size<=k):=by
  intro k hk;obtain e|⟨j,e,L⟩:=q.j4
  .rw[e]at hk;exact⟨λC=>h1.pd r_,λC=>h1.pg r_,.inl (h1.fp k hk)⟩
  .rw[hk]at e;injection e with e;subst e;have O:=(h1.own d h1.fd).2;have R:=(h1.own _ h1.fg).2;omega
 have A:∀k,f.ownBlock=some k->k<m.heap.size:=λk hk=>(p.lt k hk).2;have G:aq _ m (m.setCell (M d 1) f):=aq.cell (aq.refl _ m) _ _;have v:=h1.sec.kept g (.inr (by simp[Value.ownBlock];exactλe=>h1.pg e.symm));refine⟨⟨?_,?_,?_,h1.dg,?_,?_,.inl h1.fd,.inl h1.fg,?_,?_,H⟩,?_⟩
 .exact D.set 1 f
 .exact nz v G (λk hk=>by simp[Value.ownBlock]at hk;subst hk;exactλe=>h1.dg e.symm)
 .show World.ownsRow _ _ _ _ _ (s.puts++[(i,x)]).length (mG (s.puts++[(i,x)]));rw[NU,aE];exact nz p G (λk hk=>(n k hk).1)
 .grind
 .grind
 .intro k hk;rcases(n k hk).2.2 with h|h
  .exact .inl h
  .exact .inr ⟨h,r_⟩
 .intro k hk;rw[u];obtain hk|⟨hk,z⟩:=hk
  .have a:=y k hk;have b:=(h1.own k hk).1;have c:=g.size;omega
  .rw[u]at z;have b:=(h1.own d h1.fd).1;have c:=y d h1.fd;omega
 .have t1:=ht.more (λk hk=>hk▸h1.fd);have t2:aq F r m:=⟨g.os,g.tape,g.output,g.size,λk hk I=>g.block k hk (λe=>I (h1.fp k e.symm))⟩;exact(t1.trans t2).trans (G.more (λk hk=>hk▸h1.fd))
def Rx{w B F d gs c pv s}(h:aX w B F d gs c pv s) i x(ho:s.off=false)(hi:i<s.sec.length)(hx:x.size=128)(D:s.fuse≠1)(y:s.steps<1000000)(z:s.puts.length<1000000) :
 Calls prog 177 #[Y d 0,I i,T x] w (wu B F d gs c (lW s i x) w):=by
 have V:ui s i=0:=by unfold ui;grind
 have X:=J (Ov h i);rw[V]at X;have O:=J (ED h D y);have Z:Good (lW s i x):=by
  have u:=h.dK;have E:=u.fuse;unfold lW;rw[rR D];refine⟨u.lo,u.hi,u.sec,λp g=> ?_,λp g=> ?_,?_,o_,u.reads,o_⟩
  .obtain g|g:=mem_append.1 g
   .exact u.at_ p g
   grind
  .obtain g|g:=mem_append.1 g
   .exact u.data p g
   grind
  .grind
 have H:=J (λk hk=>(h.own k hk).2);have n:=J (show(eF s).puts=s.puts by rw[rR D]);have HQ:Kp (∀e w',e = .returned (I 0)->(∃pv,aX _ B _ d _ c _ _/\aq F w _)->wu B F d gs c (lW s i x) w e w'):=λe w' a b=>⟨a,b⟩;have u:=J Z;obtain⟨i0,E,G,L,R⟩:=info_parts JP;have U:=J z;clear V hi D y h Z ho z;generalize M:wu B F d _ c _ w=Q at*;clear M;go_in;go_wp2_with fail;apply X.mono;rintro e w'⟨rfl,rfl⟩;go_wp2_with fail;apply O.mono;rintro e W⟨rfl,h1,ht⟩;have O:=J h1;have Ht:=J ht;obtain⟨⟨k0,M,M,V,k4,k5⟩,⟨f0,Z,f2,Z,f4,f5⟩⟩:=aa.dL h1.box;have v:=J h1.puts;have q:=J (Nat.le_of_lt (Nat.lt_of_le_of_lt (h1.own d h1.fd).1 (h1.own d h1.fd).2));clear h1 ht k0 M V k4 k5 f0 f2 Z f4 f5;go_wp2_with(at_builtin;refine Rt rfl _ _ _ rfl B 347 _ _ _ underlying168 E G L R rfl W (N i) _ rfl rfl pv _ _ rfl v.out rfl (by rw[n];have:=U.o;omega) d_ q ?_;intro E E f m;obtain⟨E,E,M⟩:=MM f;subst M;have r:=J f;have C:=J m;have A:=O.box.grown m.grown (λe=>O.pd e.symm);obtain⟨⟨G,m1,m2,m3,M,E⟩,⟨n0,n1,n2,L,n4,n5⟩⟩:=aa.dL A;clear f m A G m2 m3 M E n0 n2 L n4 n5);have e:{ eF s with puts:=(eF s).puts++[(i,x)] }=lW s i x:=by unfold lW;rw[n]
 have key:=aX.wrote O Ht H.out r C (by rw[e];exact u);rw[e]at key;exact HQ _ _ rfl ⟨_,key⟩
def aX.laid{w B F d gs c pv s}(h:aX w B F d gs c pv s) i x(hx:x.size=128) :
 aX (w.setCell (M gs i) (T x)) B F d gs c pv { s with sec:=s.sec.set i x }/\aq (·=gs) w (w.setCell (M gs i) (T x)):=by
 have ht:aq _ w (w.setCell (M gs i) (T x)):=aq.cell (aq.refl _ w) _ _;have m:=(h.sec.stored i (T x)).1;have b:=h.dK;have g:(s.sec.set i x).length=s.sec.length:=o_;refine⟨⟨?_,?_,nz h.puts ht (λk hk e=>h.pg r_),h.dg,h.pd,h.pg,h.fd,h.fg,h.fp,λk hk=>⟨(h.own k hk).1,bh (h.own k hk).2 o_⟩,?_⟩,ht⟩
 .show aa _ _ _ #[U _ (s.sec.set i x).length c,pv,_,_,_,_];rw[g];exact h.box.ax ht h.dg
 .show World.ownsRow _ _ _ _ (U _ (s.sec.set i x).length c) (s.sec.set i x).length ((s.sec.set i x).map .string);rw[g,map_set];omega
 .refine⟨by show 16<=(s.sec.set i x).length;rw[g];exact b.lo,by show(s.sec.set i x).length<=_;rw[g];exact b.hi,λy f=> ?_,λp n=>by show p.1<(s.sec.set i x).length;rw[g];exact b.at_ p n,b.data,b.puts,b.fuse,b.reads,b.steps⟩;obtain f|f:=mem_or_eq_of_mem_set f
  .exact b.sec y f
  grind
def Kk{w B F d gs c pv s}(h:aX w B F d gs c pv s) i x(hi:i<s.sec.length)(hx:x.size=128) :
 Calls prog 236 #[Y d 0,.agg #[I i,T x]] w λe w'=>e = .returned (.tuple #[])/\aX w' B F d gs c pv { s with sec:=s.sec.set i x }/\aq (·=gs) w w':=by
 have H:=J (h.laid i x hx);obtain⟨u,y⟩:=aa.dL h.box;have b:=h.Ek i hi;have g:=h.sec.frozenAt i;have m:=h.box.lt;have q:=(h.own _ h.fg).2;have r:i<(s.sec.length:Int):=o_;have p:0<=(i:Int):=o_;clear h;generalize s.sec.getD i _=v at*;go_in;go_wp2;go_region;go_end0;obtain⟨h1,t1⟩:=H;have f:=(ah _ (w.setCell (M gs i) (T x))).alloc (ae _) (.cells #[I i,T x] 347);exact⟨rfl,(h1.below f).below bR.drew,(t1.trans (.below f)).drew⟩
def dX(sec:List ByteArray)(puts:List (Nat×ByteArray)):List ByteArray:=puts.foldl (λa p=>a.set p.1 p.2) sec
def Kg sec(puts:List (Nat×ByteArray)) k(hk:k<puts.length):dX sec (puts.take (k+1))=(dX sec (puts.take k)).set puts[k].1 puts[k].2:=by
 unfold dX;rw[take_succ_eq_append_getElem hk,foldl_append];rfl
def xE sec puts:(dX sec puts).length=sec.length:=by
 unfold dX;induction puts generalizing sec with
 |nil=>rfl
 |cons p l b=>grind
def rV(s:Dv):Dv:={ eF s with sec:=dX s.sec s.puts,puts:=[] }
def aX.synced{w g b B F d gs c pv}{s:Dv}(h:aX b B F d gs c pv { s with sec:=dX s.sec (s.puts.take s.puts.length) })(t1:aq (·=d) w g)(t2:aq (·=gs) g b) :
 aX (b.setCell (M d 1) (Z)) B F d gs c (Z) { s with sec:=dX s.sec s.puts,puts:=[] }/\aq F w (b.setCell (M d 1) (Z)):=by
 rw[take_length]at h;have ht:aq _ b (b.setCell (M d 1) Z):=aq.cell (aq.refl _ b) _ _;have e:=h.dK;refine⟨h.bare ht (h.box.set 1 _) rfl rfl ⟨e.lo,e.hi,e.sec,(λp f=>r_),(λp f=>r_),o_,e.fuse,e.reads,e.steps⟩,?_⟩;exact((t1.more (λk hk=>hk▸h.fd)).trans (t2.more (λk hk=>hk▸h.fg))).trans (ht.more (λk hk=>hk▸h.fd))
def Qp{w B F d gs c pv s}(h:aX w B F d gs c pv s)(W:s.off=false)(z:s.fuse≠1)(n:s.steps<1000000) :
 Calls prog 176 #[.pointer (some ⟨d,0,none⟩)] w λe w'=>e = .returned (.int .i64 0)/\aX w' B F d gs c (.slice none 0 0) (rV s)/\aq F w w':=by
 have U:=kp (rP d _ _ c _ _ _ _ w (h.pq W) h.n0 h.n1 0 o_ (by have:=h.n0;omega));have V:=kp (ED h z n);have T:=kp (show rV s={ eF s with sec:=dX (eF s).sec (eF s).puts,puts:=[] } by unfold rV;rw[rR z]);rw[T];clear h z W n T;generalize eF s=s1 at*;go_in;go_wp2_with fail;apply U.o.mono;rintro e w'⟨rfl,rfl⟩;go_wp2_with fail;apply V.o.mono;rintro e y⟨rfl,h1,ht⟩;obtain⟨⟨L,k1,q,r,v,R⟩,⟨O,X,J,u,G,H⟩⟩:=aa.dL h1.box;obtain⟨A,D,rfl,_⟩:=h1.form;obtain⟨E,Ht,N⟩:=j3_ h1 ht h1.dK.puts;clear h1 ht L q r v R O X J u G H U V;go_wp2;go_loopw [6,22] (λ_ g wr=>∃k:Nat,k<=s1.puts.length/\g = .int .i64 (k:Nat)/\aX wr B F d gs c (.slice A s1.puts.length D) { s1 with sec:=dX s1.sec (s1.puts.take k) }/\aq (·=gs) y wr) (λ_ g _=>s1.puts.length-(intOf g).toNat)
 case atStart=>exact⟨0,o_,rfl,E,aq.refl _ _⟩
 .obtain⟨k,hk,rfl,hd,f⟩:=hrel;by_cases p:k<s1.puts.length
  .obtain⟨A2,Z,M,b⟩:=hd.form;injection M with M _ y;subst M y;obtain⟨gp,rfl,c0,c1⟩:=b k p;have Y:k<(s1.puts.length:Int):=o_
   have y:0<=(k:Int):=o_
   have m:=(ah _ wr).alloc (ae _) (.cells #[.int .i64 (s1.puts[k].1),.string s1.puts[k].2] 347);obtain⟨E,D,I⟩:=j3_ (Kk (hd.below m) s1.puts[k].1 s1.puts[k].2 (hd.dK.at_ _ (gM _)) (hd.dK.data _ (gM _))) (Kg s1.sec _ k p) (f.trans (.below m));have y:=N.o;clear hd f b m;simp only at*;generalize s1.puts[k].1=x at*;generalize s1.puts[k].2=y at*;go_wp2_with fail;apply E.o.mono;rintro e y⟨rfl,h2,t2⟩;have E:=kp h2;have y:=kp (I.o.trans t2);clear h2 t2;go_wp2;refine⟨⟨k+1,o_,rfl,?_,y⟩,o_⟩;rw[D];exact E
  .have E:k=s1.puts.length:=o_
   subst E;obtain⟨⟨L,k1,q,r,v,R⟩,⟨O,X,J,u,G,H⟩⟩:=aa.dL hd.box;have C:=kp (hd.synced Ht f);clear hd f L q r v R O J u G H;go_wp2;go_ret;trivial
end Dv
end Go.Proofs.YtibjlpkpljnicaaGreatDoor
