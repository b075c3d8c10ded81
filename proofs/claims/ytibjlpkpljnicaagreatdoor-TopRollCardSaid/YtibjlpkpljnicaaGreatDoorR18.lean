/- Parts. -/
import Derived.Test.YtibjlpkpljnicaaGreatDoorR04
import Derived.RangeFuncNested
import Derived.OrdersIn
import Derived.TacticsIn
set_option maxRecDepth 100000
set_option maxHeartbeats 8000000
set_option linter.all false
namespace Go.Proofs.YtibjlpkpljnicaaGreatDoor
namespace Base
open List Go.RowKit
section
variable{P:Program}{ops:Array Oper}{Q:Exit->Act->World->Prop}{S:World->Prop}{t l n:Nat}
def kR(Q:Exit->Act->World->Prop):Exit->Act->World->Prop
 | .panic _,_,_=>False
 | .outgrown,_,_=>False
 |e,a,w=>Q e a w
def kR.normal{a:Act}{w:World}(h:Q .normal a w):kR Q .normal a w:=h
def kR.imp:∀(e:Exit)(a:Act)(w:World),kR Q e a w->Q e a w:=λe a w h=>by
 cases e<;>first|exact h|trivial
def kR.lets:¬LetsOut (kR Q):=λ⟨_,_,h⟩=>h
def xW(b:Array Oper):Bool:=b.all λo=>match o.op with
 | .defer _=>false
 |_=>true
def LC(h:xW ops=true){i:Nat}{o:Oper}(ho:ops[i]? = some o):∀c,o.op ≠ .defer c:=by
 intro c hc;have hm:=Array.mem_of_getElem? ho;have:=Array.all_eq_true_iff_forall_mem.1 h o hm;grind
def P5{row:String}{args:Array Value}{w:World}{R:Value->World->Prop}(h:Rows P row args w R):RowsIn (Fence.wide.inRound l) n P row args w R:=
 λc cs _=>let⟨v,w',r,s⟩:=h c _;⟨v,_,r,stepsIn_wide.2 s⟩
def MF{o:Oper}{a:Act}{w:World}{K:Act->World->Prop}(hd:∀c,o.op ≠ .defer c)(h:o.wp P a w K Q):o.wpIn (Fence.wide.inRound l) n P a w K Q:=by
 unfold Oper.wp at h;unfold Oper.wpIn;refine⟨λf _=>trivial,?_⟩;rw[Fence.inRound_round,Oper.semAt_eq _ _ _ hd];generalize(execOp _ o).run P w=r at h⊢;cases r with
 |ok x w'=>
  cases x with
  |value v=>exact h
  |skip=>exact h
  |defer d=>exact h
  |enter f args=>
   rw[Oper.upon_enter]at h;rw[Oper.uponIn_enter];exact⟨λhh=>by trivial,CallsIn.inRound l (callsIn_wide.2 (h.mono λe w'' he=>o_))⟩
  |row row args=>
   rw[Oper.upon_row]at h;rw[Oper.uponIn_row];exact⟨λhh=>by trivial,P5 h⟩
  |_=>trivial
 |halt x w'=>cases x<;>exact h
def sM{g:Region.Mode}(d:xW ops=true)(e:¬LetsOut Q):∀(b:Nat)(c:Array Bool)(a:Act)(w:World),wpAny P g ops Q b c a w->wpAnyIn (Fence.wide.inRound l) n P g ops Q b c a w
 |0,_,_,_,h=>h
 |b+1,c,a,w,h=>by
  refine⟨h.1,λi hi=> ?_⟩;have h2:=h.2 i hi;unfold wpOp at h2;unfold wpOpIn;rcases f:ops[i]? with _|o
  .rw[f]at h2;exact sM d e b _ a w h2
  .rw[f]at h2;dsimp only at h2⊢;by_cases m:Region.wanted o (yielded ops a.tmps)=true
   .rw[if_pos m]at h2⊢;obtain h2|⟨_,h2⟩:=h2
    .exact Oper.wpIn_mono (λp w' q=>sM d e b _ p _ q) (MF (LC d f) h2)
    grind
   .rw[if_neg m]at h2⊢;exact⟨λ_ _=>trivial,sM d e b _ _ _ h2⟩
def Fo{id:Nat}{a:Act}{w:World}(d:P.follows .mixedOrders=true)(b:xW ops=true)(c:S w.drew)
 (h:S w.drew->dI P .any ops (kR Q) S t ops.size (Array.replicate ops.size false) a w.drew):(Code.region id ops true).wpIn (Fence.wide.inRound l) n P Q a w:=
 wpIn_mono (wpIn_region_any d (sM b kR.lets _ _ _ _ (zh _ _ _ _ (h c)))) kR.imp
end
end Base
end Go.Proofs.YtibjlpkpljnicaaGreatDoor
