/- Parts. -/
import Derived.Test.YtibjlpkpljnicaaGreatDoorR20
import Derived.Laws.CopyOwn
set_option maxRecDepth 100000
set_option maxHeartbeats 8000000
set_option linter.all false
namespace Go.Proofs.YtibjlpkpljnicaaGreatDoor
namespace Tc
open List Go.RowKit Base Go.Maps Go.WideMaps Go.Proofs.Tryz
def vd(n:Nat)(w:World)(e:Ending)(w':World):Prop:=∃(A:OA)(c:Nat),e = .returned (.tuple #[U A n c,I 0])/\w'.ownsRow w.heap.size 3 1 (U A n c) n (an (range n))/\E w w'
def OP{w gr gw}(h:eM w gr gw mu) n(hn:n<=249) :
 Calls prog 93 #[Y gr 0,N n] w (vd n w):=by
 obtain⟨H,r,s,v,y⟩:=info_parts iK;have R:=J (DO h);have Z:=J (λw'(X:E w w') i(hi:i<249)=>F4 (h.under X) hi);have W:Kp (∀A c w',w'.ownsRow w.heap.size 3 1 (U A n c) n (an (range n))->E w _->vd n w _ w'):=λA c w' h1 h2=>⟨A,c,rfl,h1,h2⟩;generalize M:vd n w=Q at*;obtain⟨c0,c1,_,_⟩:=h.box.two;have O:¬ 249<(n:Int):=o_;have C:¬(n:Int)<0:=o_;clear h M;go_in;go_wp2_with fail;apply R.mono;rintro e w'⟨rfl,rfl⟩;go_wp2;go_loopw [6,7] (λL x wr=>∃(k:Nat)(A:OA)(c:Nat),k<=n/\x = N k/\L = U A k c/\wr.ownsRow w.heap.size 3 1 (U A k c) k (an (range k))/\E w wr) (λ_ x _=>n-(intOf x).toNat)
 case atStart=>exact⟨0,_,0,o_,rfl,rfl,cK _ _ _ _,bR⟩
 .clear c0 c1;obtain⟨k,A,c,hk,rfl,rfl,m,q⟩:=hrel;have g:=J m;have d:=J q;clear m q;by_cases D:k<n
  .have u:=J (Z _ d k o_);have z:k<1048576*64:=o_;go_wp2_with fail;apply u.mono;rintro e w'⟨rfl,rfl⟩;go_wp2_with(at_builtin;apply iP rfl _ _ _ rfl _ 3 H _ 8 underlying84 r s v y rfl _ _ rfl (U A k c) k _ rfl g rfl z d_ d.size;intro u u b f;obtain⟨T,V,G⟩:=bY b;subst G;have p:=J b;have B:=J (f.below d g o_ d.size);clear b f);exact⟨⟨_,T,V,o_,o_,rfl,by rw[range_succ,oh];exact p,B⟩,o_⟩
  .obtain rfl:k=n:=o_;have F:=J (W _ _ _ g d);go_wp2;exact F
def BM:(prog.info? 284).map (λi=>(i.zero,i.size,i.bytes))=some (some (.int .u64 0),1,8):=k_
def tZ{w base g e n xs}(h:w.ownsRow base e 1 (U (some ⟨g,0,none⟩) n n) n xs):aa w g e xs.toArray:=by
 obtain⟨h1,h2⟩:=h;obtain⟨h,_⟩|⟨r,cap,cur,b,_,q,_,_,c,f⟩:=h2
 .cases h
 .injection b with b _ p;injection b with b;injection b with m;subst m p;have:cur.toList=xs:=r_
  have d:cur=xs.toArray:=r_
  rw[<-d];exact q
def vM(w:World)(e:Ending)(w':World):Prop:=∃gr gw:Nat,e = .returned (.tuple #[Y gr 0,I 0])/\eM w' gr gw mu/\w.heap.size<=gr/\w.heap.size<=gw/\E w w'
def OS w:Calls prog 80 #[I 249] w (vM w):=by
 obtain⟨y,g,m,e,n⟩:=info_parts BM;have v:Kp (∀gr gw w',eM _ _ _ _->w.heap.size<=gr->w.heap.size<=gw->E w _->vM w _ w'):=λgr gw w' h1 h2 z u=>⟨_,_,rfl,h1,h2,z,u⟩;generalize A:vM w=Q at*;clear A;go_in;go_wp2_with(at_make;refine wpList_make_full _ rfl _ _ _ rfl _ 284 y _ 1 underlying269 g m e _ _ 4 4 4 rfl rfl rfl rfl o_ (by unfold maxLen;omega) (ae _) ?_;intro r b c;have d:=J b;have f:Kp (E w r):=bR.grown c o_ (λk hk=>r_);clear b c);have q:=tZ (dZ d (ae _));have s:=q.lt;refine v _ _ _ ⟨aa.new _ _ _,?_,rfl,λx hx=> ?_,o_⟩ o_ o_ (f.alloc o_ _)
 .have:=q.alloc (.cells #[U (some ⟨w.heap.size,0,none⟩) 4 4,I 249] 271);rw[show(madeCells (Value.int _ 0).cells _).toList=mu.map _ from(toList_madeCells_one _ 4).trans rfl]at this;omega
 grind
end Tc
end Go.Proofs.YtibjlpkpljnicaaGreatDoor
