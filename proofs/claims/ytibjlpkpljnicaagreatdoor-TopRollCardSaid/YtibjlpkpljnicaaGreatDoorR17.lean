/- Parts. -/
import Derived.Test.YtibjlpkpljnicaaGreatDoorR07
import Derived.Maps.OwnRows
import Derived.Maps.RangeWalk
set_option maxRecDepth 100000
set_option maxHeartbeats 8000000
set_option linter.all false
namespace Go.Proofs.YtibjlpkpljnicaaGreatDoor
namespace Tc
open List Go.RowKit Base Go.Maps Go.WideMaps Go.Proofs.Tryz
def gi(key:Nat->Nat)(part:LN)(k:Nat):LN:=part.filter λi=>key i == k
def dh(key:Nat->Nat)(part:LN):List (Nat×LN):=(range 200).filterMap λk=>if gi key part k=[]then none else some (k,gi key part k)
def o9{key part}{g:Nat×LN}:g∈dh key part↔g.1<200/\g.2=gi key part g.1/\g.2≠[]:=by
 unfold dh;grind
def ri key part:(dh key part).Pairwise λa b=>a.1<b.1:=by
 unfold dh;rw[pairwise_filterMap];refine pairwise_lt_range.imp λ{a b} d=> ?_;grind
def Js{key part l}(h1:(l.map Prod.fst).Nodup)(h2:l.Pairwise λa b=>a.1<=b.1)(f:∀g,g∈l↔g.1<200/\g.2=gi key part g.1/\g.2≠[]):l=dh key part:=by
 have v:∀g,g∈l↔g∈dh _ _:=λg=>(f g).trans o9.symm;have m:(dh key part).Nodup:=by
  rw[nodup_iff_pairwise_ne];refine(ri _ _).imp λ{a b} h e=> ?_;rw[e]at h;omega
 have r:l.Nodup:=by
  have:=h1;rw[nodup_iff_pairwise_ne,pairwise_map]at this;rw[nodup_iff_pairwise_ne];exact this.imp λh e=>h o_
 have p:=(perm_ext_iff_of_nodup r m).2 v;refine p.eq_of_pairwise (λa b n u c d=> ?_) h2 ((ri _ _).imp Nat.le_of_lt);grind
def kI(key:Nat->Nat)(pre:LN)(x:Int):List Int:=(pre.filter λi=>(key i:Int) == x).map λi:Nat=>(i:Int)
def rh(zs:List Int):DataW Unit:=match zs with
 | []=> .nil
 |_=> .slice (Go.ChangeShapes.lits .i64 zs) []
structure ki(D:DataW Unit)(key:Nat->Nat)(pre:LN):Prop where
 map:IsMap D
 at_:∀x:Int,D.atKey (.int .i64 x) .nil=rh (kI key pre x)
 has:∀x:Int,Maps.has D (.int .i64 x) = !(kI key pre x).isEmpty
def ki.nil key:ki (.map []:DataW Unit) key []:=⟨isMap_empty,λx=>rfl,λx=>rfl⟩
def Em key pre i x:kI key (pre++[i]) x=if(key i:Int)=x then kI key pre x++[(i:Int)]else kI key pre x:=by
 unfold kI;grind
def ki.put{D key pre}(h:ki D key pre) i:ki (D.put (.int .i64 (key i:Int)) (rh (kI key pre (key i:Int)++[(i:Int)]))) key (pre++[i]):=by
 have hk:WideAt.IsKeyLit (.int .i64 (key i)):=trivial;refine⟨h.map.put _ _,λx=> ?_,λx=> ?_⟩
 .rw[Em];by_cases e:(key i:Int)=x
  .rw[if_pos e,<-e,atKey_put_same h.map hk]
  .rw[if_neg e,atKey_put_other (λb=>e r_)];exact h.at_ x
 .rw[Em];by_cases e:(key i:Int)=x
  .rw[if_pos e,<-e,has_put_same h.map hk];simp
  .rw[if_neg e,has_put_other (λb=>e r_)];exact h.has x
def Ck:∀{a b:List Int},(Go.ChangeShapes.lits .i64 a:List (DataW Unit))=Go.ChangeShapes.lits .i64 b->a=b
 | [],[],_=>rfl
 | [],_::_,h=>by cases h
 |_::_,[],h=>by cases h
 |a::x,b::y,h=>by
  unfold Go.ChangeShapes.lits at h;rw[map_cons,map_cons]at h;injection h with h1 h2;injection h1 with h1;injection h1 with _ h1;rw[h1,Ck h2]
def ki.owned{D key pre}(h:ki D key pre){x}{w:World}{base e v zs}(c:w.ownsInts base e .i64 v zs)(b:D.atKey (.int .i64 x) .nil=rowDatum .i64 v zs):zs=kI key pre x:=by
 rw[h.at_]at b;unfold rh at b;obtain⟨h1,h2⟩|h1:=c.datum (H:=Unit)
 .grind
 .rw[h1]at b;split at b
  .cases b
  .injection b with b;exact(Ck b).symm
def Jh{w:World}{base e v zs}(c:w.ownsInts base e .i64 v zs)(b:zs≠[]):rh zs=rowDatum (H:=Unit) .i64 v zs:=by
 rw[c.datum_pos b];unfold rh;simp
def El key pre(k:Nat):kI key pre (k:Int)=(gi key pre k).map λi:Nat=>(i:Int):=by
 unfold kI gi;grind
def Lj l:(l.map λi:Nat=>(i:Int)).map (Value.int .i64)=an l:=by
 unfold an;simp
def RC w:(zeroValue 84).run prog w = .ok (Z) w:=k_
end Tc
end Go.Proofs.YtibjlpkpljnicaaGreatDoor
