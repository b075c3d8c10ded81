/- Parts. -/
import Derived.Test.YtibjlpkpljnicaaGreatDoorR01
import Derived.OrdersHeld
import Derived.Deep.RegionHeld3
import Derived.StillTail
set_option maxRecDepth 100000
set_option maxHeartbeats 8000000
set_option linter.all false
namespace Go.Proofs.YtibjlpkpljnicaaGreatDoor
namespace Base
open List Go.RowKit
section
variable{P:Program}{ops:Array Oper}{Q:Exit->Act->World->Prop}{md:Region.Mode}{S:World->Prop}{t:Nat}
def dI(P:Program)(e:Region.Mode)(c:Array Oper)(Q:Exit->Act->World->Prop)(S:World->Prop)(t:Nat):Nat->Array Bool->Act->World->Prop
 |0,b,a,w=>Region.ready e c b=[]/\Q .normal a w
 |d+1,b,a,w=>
  (Region.ready e c b=[]->Q .normal a w) /\
  ∀i∈Region.ready e c b,wpOp P c Q i (λf w'=>(i≠t->S w')/\dI P e c Q S t d (b.setIfInBounds i true) f w') a w
def zh:∀(b:Nat)(c:Array Bool)(a:Act)(w:World),dI P md ops Q S t b c a w->wpAny P md ops Q b c a w
 |0,_,_,_,h=>h
 |b+1,_,_,_,h=>⟨h.1,λi hi=>wpOp_mono (λd w' h'=>zh b _ d w' h'.2) (h.2 i hi)⟩
def Rf{i:Nat}{oi:Oper}{v:Value}(hi:ops[i]? = some oi)(r:∀(j:Nat)(o:Oper) cs b,ops[j]? = some o->o.op ≠ .select cs b)
 (Z:∀c a w,Q (.panic c) (a.put oi.dst v) w->Q (.panic c) a w)(x:(decide (ops.size<=t)||Region.waitsFor md ops t i)=true) :
 ∀(f:Nat)(d:Array Bool)(a:Act)(w:World),
  (∀j u,ops[j]? = some u->j≠i->d.getD j true=false->(∀e∈u.after,Region.binds md e=true->e.on≠i)->oi.apart ops u=true) ->
  i∈Region.ready md ops d->YieldsIf P ops S oi v a->S w ->
  dI P md ops Q S t f (d.setIfInBounds i true) (a.put oi.dst v) w->dI P md ops Q S t (f+1) d a w:=by
 intro f;induction f with
 |zero=>
  intro d a w _ s F A H;refine⟨λh=>r_,λj E=> ?_⟩;by_cases g:j=i
  .subst g;exact F.wpOp hi A ⟨λ_=>A,H⟩
  .have T:=ready_mono E g;rw[H.1]at T;cases T
 |succ f X=>
  intro d a w n s F A H;refine⟨λh=>r_,λj E=> ?_⟩;by_cases g:j=i
  .subst g;exact F.wpOp hi A ⟨λ_=>A,H⟩
  .obtain⟨z,u,m,C⟩:=mem_ready.1 E;have q:∀e∈u.after,Region.binds _ e=true->e.on≠i:=λe Y U I=>by
    have g1:=C e Y U;have y:=(mem_ready.1 s).1;grind
   have D:j≠t:=by
    rintro rfl;rcases(Bool.or_eq_true _ _).mp x with y|x
    .grind
    .obtain⟨y,L,V,R,N,y⟩:=Region.waitsFor_spec x;grind
   have h2:=wpOp_putIf m (n j u m g z q) (λcs b=>r i _ _ b hi) (λcs b=>r j u _ b m) Z F (H.2 j (ready_mono E g));have p:∀k ok,ops[k]? = some _->k≠i->(d.setIfInBounds j _).getD k _=false ->
    (∀e∈ok.after,Region.binds _ e=true->e.on≠i)->oi.apart _ ok=true:=λk ok hk O B M=>by
    refine n k _ hk O ?_ M;by_cases J:j=k
    .grind
    .rw[getD_set_ne _ J]at B;omega
   refine wpOp_mono (λW w' G=>⟨λ_=>G.2.1 D,X _ W _ p (ready_mono s o_) G.1 (G.2.1 D) ?_⟩) h2;rw[Array.setIfInBounds_comm _ _ g];exact G.2.2
def lr{i:Nat}{oi:Oper}{v:Value}{d:Nat}{b:Array Bool}{a:Act}{w:World}(hi:ops[i]? = some oi)
 (g:Region.noSelect ops=true)(e:(decide (ops.size<=t)||Region.waitsFor md ops t i)=true)(q:Region.free md ops b i=true)(f:(Region.ready md ops b).contains i=true)
 (p:∀c a w,Q (.panic c) (a.put oi.dst v) w->Q (.panic c) a w)(n:YieldsIf P ops S oi v a)(m:S w)
 (h:dI P md ops Q S t d (b.setIfInBounds i true) (a.put oi.dst v) w):dI P md ops Q S t (d+1) b a w:=
 Rf hi (Region.noSelect_spec g) p e d b a w (Region.free_spec hi q) r_ n m h
def Rh{i:Nat}{o:Oper}{c:Nat}{b:Array Bool}{a:Act}{w:World}(e:Region.ready md ops b=[i])(g:ops[i]? = some o)(n:i≠t)
 (h:∀d:Act->World->Prop,Shut (∀a w,S w->(S w->dI P md ops Q S t c (b.setIfInBounds i true) a w)->d a w)->if Region.wanted o (yielded ops a.tmps)=true then Oper.wp P o a w d Q else d (a.put o.dst undef) w) :
 dI P md ops Q S t (c+1) b a w:=by
 refine⟨λh0=>r_,λj m=> ?_⟩;rw[e]at m;obtain rfl:j=i:=by grind
 exact wpOp_step g (λd hK=>h d (λa w f p=>hK a w ⟨λ_=>f,p f⟩))
def fC{o:Oper}{c:Nat}{b:Array Bool}{a:Act}{w:World}(f:Region.ready md ops b=[t])(m:ops[t]? = some o)(d:Region.ready md ops (b.setIfInBounds t true)=[])
 (h:∀e:Act->World->Prop,Shut (∀a w,Q .normal a w->e a w)->if Region.wanted o (yielded ops a.tmps)=true then Oper.wp P o a w e Q else e (a.put o.dst undef) w) :
 dI P md ops Q S t (c+1) b a w:=by
 refine⟨λh0=>r_,λj n=> ?_⟩;rw[f]at n;obtain rfl:j=t:=by grind
 refine wpOp_step m (λe hK=>h e (λa w g=>hK a w ⟨λp=>absurd rfl p,?_⟩));cases c with
 |zero=>trivial
 |succ c=>exact⟨λ_=>g,r_⟩
def bQ{b:Array Bool}{a:Act}{w:World}(d:Region.ready md ops b=[])(h:Q .normal a w) :
 ∀c,dI P md ops Q S t c b a w
 |0=>⟨d,h⟩
 |_+1=>⟨λ_=>h,by rw[d];simp⟩
def br{id:Nat}{a:Act}{w:World}(c:P.follows .mixedOrders=true)(b:S w.drew)
 (h:S w.drew->dI P .any ops Q S t ops.size (Array.replicate ops.size false) a w.drew):(Code.region id ops true).wp P Q a w:=
 wp_region_any c (zh _ _ _ _ (h b))
def qX(f:Region.Mode)(c:Array Oper)(b:Array Bool):Bool:=
 (range c.size).all λj=> !b.getD j false||match c[j]? with
   |some d=>d.after.all λe=> !Region.binds f e||b.getD e.on false
   |none=>true
def AP{b:Array Bool}(h:qX md ops b=true){j:Nat}{d:Oper}(c:ops[j]? = some d)(g:b.getD j false=true):∀e∈d.after,Region.binds md e=true->b.getD e.on false=true:=by
 intro e m f;unfold qX at h;have h1:=all_eq_true.1 h j (mem_range.2 (Array.getElem?_eq_some_iff.1 c).1);rw[g,c]at h1;simp only[Bool.not_true,Bool.false_or]at h1;have h2:=Array.all_eq_true_iff_forall_mem.1 h1 e m;grind
def AQ{b:Array Bool}(h:∀(j:Nat)(c:Oper),ops[j]? = some c->b.getD j false=true->∀e∈c.after,Region.binds md e=true->b.getD e.on false=true){i:Nat}(hi:i∈Region.ready md ops b) :
 ∀(j:Nat)(c:Oper),ops[j]? = some c->(b.setIfInBounds i true).getD j false=true->∀e∈c.after,Region.binds md e=true->(b.setIfInBounds i true).getD e.on false=true:=by
 intro j c m n e q f;by_cases p:i=j
 .subst p;obtain⟨_,o,g,d⟩:=mem_ready.1 hi;rw[m]at g;cases g;exact getD_set_true (d e q f)
 .rw[getD_set_ne _ p]at n;exact getD_set_true (h j c m n e q f)
def zb(c:Region.Mode)(b:Array Oper)(t i:Nat):Bool:=Region.waitsFor c b t i||(range b.size).any λj=>Region.waitsFor c b t j&&Region.waitsFor c b j i
def R0{i:Nat}(h:zb md ops t i=true){b:Array Bool}(r:∀(j:Nat)(q:Oper),ops[j]? = some q->b.getD j false=true->∀e∈q.after,Region.binds md e=true->b.getD e.on false=true)(ht:t∈Region.ready md ops b):b.getD i false=true:=by
 obtain⟨_,s,n,d⟩:=mem_ready.1 ht;have one:∀j,Region.waitsFor md ops t j=true->b.getD j false=true:=λj m=>by
  obtain⟨o,f,e,p,g,c⟩:=Region.waitsFor_spec m;grind
 rcases(Bool.or_eq_true _ _).mp h with h|h
 .grind
 .obtain⟨j,_,m⟩:=any_eq_true.1 h;obtain⟨h1,h2⟩:=(Bool.and_eq_true _ _).mp m;obtain⟨o,f,e,p,g,c⟩:=Region.waitsFor_spec h2;grind
def Rg{i:Nat}{oi:Oper}{v:Value}(hi:ops[i]? = some oi)(hsel:∀(j:Nat)(o:Oper) cs b,ops[j]? = some o->o.op ≠ .select cs b)
 (hQ:∀c a w,Q (.panic c) (a.put oi.dst v) w->Q (.panic c) a w)(hwt:zb md ops t i=true) :
 ∀(fuel:Nat)(listed:Array Bool)(a:Act)(w:World),
  (∀(j:Nat)(oj:Oper),ops[j]? = some oj->listed.getD j false=true->∀e∈oj.after,Region.binds md e=true->listed.getD e.on false=true) ->
  (∀j oj,ops[j]? = some oj->j≠i->listed.getD j true=false->(∀e∈oj.after,Region.binds md e=true->e.on≠i)->oi.apart ops oj=true) ->
  i∈Region.ready md ops listed->YieldsIf P ops S oi v a->S w ->
  dI P md ops Q S t fuel (listed.setIfInBounds i true) (a.put oi.dst v) w->dI P md ops Q S t (fuel+1) listed a w:=by
 intro fuel;induction fuel with
 |zero=>
  intro listed a w _ _ hr hy hS H;refine⟨λh=>r_,λj hj=> ?_⟩;by_cases hji:j=i
  .subst hji;exact hy.wpOp hi hS ⟨λ_=>hS,H⟩
  .have hm:=ready_mono hj o_;rw[H.1]at hm;cases hm
 |succ fuel ih=>
  intro listed a w hc hfree hr hy hS H;refine⟨λh=>r_,λj hj=> ?_⟩;by_cases hji:j=i
  .subst hji;exact hy.wpOp hi hS ⟨λ_=>hS,H⟩
  .obtain⟨hjun,oj,hoj,hall⟩:=mem_ready.1 hj;have hun:listed.getD i false=false:=by
    have g0:=(mem_ready.1 hr).1;obtain h'|h':=Nat.lt_or_ge i listed.size
    .grind
    .grind
   have hnot:∀e∈oj.after,Region.binds md e=true->e.on≠i:=λe he hb heq=>r_
   have hjt:j≠t:=by
    rintro rfl;have:=R0 hwt hc hj;rw[hun]at this;cases this
   have hfree':∀k ok,ops[k]? = some _->k≠i->(listed.setIfInBounds j _).getD k _=false ->
    (∀e∈ok.after,Region.binds _ e=true->e.on≠i)->oi.apart _ ok=true:=λk ok hk hki hun hno=>by
    refine hfree k _ hk o_ ?_ hno;by_cases hjk:j=k
    .grind
    .rw[getD_set_ne _ o_]at hun;omega
   refine wpOp_mono (λa' w' h3=>⟨λ_=>h3.2.1 o_,ih _ _ _ (AQ hc hj) hfree' (ready_mono hr o_) h3.1 (h3.2.1 o_) ?_⟩) (wpOp_putIf hoj (hfree j _ hoj o_ hjun hnot) (λcs b=>hsel i _ _ b hi) (λcs b=>hsel j _ _ b hoj) hQ hy (H.2 j (ready_mono hj o_)));rw[Array.setIfInBounds_comm _ _ o_];grind
def qx{i:Nat}{oi:Oper}{v:Value}{d:Nat}{b:Array Bool}{a:Act}{w:World}(hi:ops[i]? = some oi)
 (m:Region.noSelect ops=true)(e:(qX md ops b&&zb md ops t i)=true)(s:Region.free md ops b i=true)(f:(Region.ready md ops b).contains i=true)
 (r:∀c a w,Q (.panic c) (a.put oi.dst v) w->Q (.panic c) a w)(q:YieldsIf P ops S oi v a)(p:S w)
 (h:dI P md ops Q S t d (b.setIfInBounds i true) (a.put oi.dst v) w):dI P md ops Q S t (d+1) b a w:=
 Rg hi (Region.noSelect_spec m) r ((Bool.and_eq_true _ _).mp e).2 d b a w (λj u g n=>AP ((Bool.and_eq_true _ _).mp e).1 g n) (Region.free_spec hi s) r_ q p h
end
section
variable{P:Program}{ops:Array Oper}{Q:Exit->Act->World->Prop}{md:Region.Mode}{S:World->Prop}{t:Nat}
def fE(P:Program)(e:Region.Mode)(c:Array Oper)(Q:Exit->Act->World->Prop)(S:World->Prop)(t:Nat):Nat->Array Bool->Act->World->Prop
 |0,b,a,w=>Region.ready e c b=[]/\Q .normal a w
 |d+1,b,a,w=>
  (Region.ready e c b=[]->Q .normal a w) /\
  ∀i∈Region.ready e c b,wpOp P c Q i (λf w'=>((b.setIfInBounds i true).getD t false=false->S w')/\fE P e c Q S t d (b.setIfInBounds i true) f w') a w
def Fm:∀(b:Nat)(c:Array Bool)(a:Act)(w:World),fE P md ops Q S t b c a w->wpAny P md ops Q b c a w
 |0,_,_,_,h=>h
 |b+1,_,_,_,h=>⟨h.1,λi hi=>wpOp_mono (λd w' h'=>Fm b _ d w' h'.2) (h.2 i hi)⟩
def reaches(c:Region.Mode)(b:Array Oper):Nat->Nat->Nat->Bool
 |0,t,i=>t == i
 |n+1,t,i=>t == i||(range b.size).any λj=>Region.waitsFor c b t j&&reaches c b n j i
def sg(f:Region.Mode)(c:Array Oper)(b:Array Bool):Prop:=∀(j:Nat)(d:Oper),c[j]? = some d->b.getD j false=true->∀e∈d.after,Region.binds f e=true->b.getD e.on false=true
def R1{b:Array Bool}(g:sg md ops b){t j:Nat}(n:Region.waitsFor md ops t j=true)(ht:b.getD t false=true):b.getD j false=true:=by
 obtain⟨o,f,e,m,d,c⟩:=Region.waitsFor_spec n;rw[<-c];exact g t o f ht e m d
def yF{b:Array Bool}(c:sg md ops b):∀(n t i:Nat),reaches md ops n t i=true->b.getD t false=true->b.getD i false=true
 |0,t,i,h,ht=>by
  have:t=i:=by simpa[reaches]using h
  grind
 |n+1,t,i,h,ht=>by
  unfold reaches at h;rcases(Bool.or_eq_true _ _).mp h with h|h
  .grind
  .obtain⟨j,_,d⟩:=any_eq_true.1 h;obtain⟨h1,h2⟩:=(Bool.and_eq_true _ _).mp d;exact yF c n j i h2 (R1 c h1 ht)
def OB{b:Array Bool}{t j:Nat}(p:t∈Region.ready md ops b)(q:Region.waitsFor md ops t j=true):b.getD j false=true:=by
 obtain⟨_,r,d,c⟩:=mem_ready.1 p;obtain⟨o,g,e,n,m,f⟩:=Region.waitsFor_spec q;grind
def Oz{b:Array Bool}(d:sg md ops b){n t i:Nat}(h:reaches md ops n t i=true)(c:t≠i)(f:t∈Region.ready md ops b):b.getD i false=true:=by
 cases n with
 |zero=>exact absurd (by simpa[reaches]using h) c
 |succ n=>
  unfold reaches at h;rcases(Bool.or_eq_true _ _).mp h with h|h
  .grind
  .obtain⟨j,_,e⟩:=any_eq_true.1 h;obtain⟨h1,h2⟩:=(Bool.and_eq_true _ _).mp e;exact yF d n j i h2 (OB f h1)
def EY{b:Array Bool}{i:Nat}(c:i∈Region.ready md ops b):b.getD i false=false:=by
 have d:=(mem_ready.1 c).1;grind
def Rk{i n:Nat}{oi:Oper}{v:Value}(hi:ops[i]? = some oi)(hsel:∀(j:Nat)(o:Oper) cs b,ops[j]? = some o->o.op ≠ .select cs b)
 (hQ:∀c a w,Q (.panic c) (a.put oi.dst v) w->Q (.panic c) a w)(hwt:reaches md ops n t i=true)(hti:t≠i) :
 ∀(fuel:Nat)(listed:Array Bool)(a:Act)(w:World),
  sg md ops listed ->
  (∀j oj,ops[j]? = some oj->j≠i->listed.getD j true=false->(∀e∈oj.after,Region.binds md e=true->e.on≠i)->oi.apart ops oj=true) ->
  i∈Region.ready md ops listed->YieldsIf P ops S oi v a->S w ->
  fE P md ops Q S t fuel (listed.setIfInBounds i true) (a.put oi.dst v) w->fE P md ops Q S t (fuel+1) listed a w:=by
 intro fuel;induction fuel with
 |zero=>
  intro listed a w _ _ hr hy hS H;refine⟨λh=>r_,λj hj=> ?_⟩;by_cases hji:j=i
  .subst hji;exact hy.wpOp hi hS ⟨λ_=>hS,H⟩
  .have hm:=ready_mono hj o_;rw[H.1]at hm;cases hm
 |succ fuel ih=>
  intro listed a w hc hfree hr hy hS H;refine⟨λh=>r_,λj hj=> ?_⟩;by_cases hji:j=i
  .subst hji;exact hy.wpOp hi hS ⟨λ_=>hS,H⟩
  .obtain⟨hjun,oj,hoj,hall⟩:=mem_ready.1 hj;have hun:=EY hr;have hnot:∀e∈oj.after,Region.binds md e=true->e.on≠i:=λe he hb heq=>r_
   have hjt:j≠t:=by
    rintro rfl;have:=Oz hc hwt o_ hj;rw[hun]at this;cases this
   have htu:listed.getD t false=false:=by
    rcases hb:listed.getD t _ with _|_
    .rfl
    .have:=yF hc n t i hwt hb;grind
   have htu2:((listed.setIfInBounds i true).setIfInBounds j true).getD t false=false:=by
    rw[getD_set_ne _ o_,getD_set_ne _ o_];omega
   have h2:=wpOp_putIf hoj (hfree j _ hoj o_ hjun hnot) (λcs b=>hsel i _ _ b hi) (λcs b=>hsel j _ _ b hoj) hQ hy (H.2 j (ready_mono hj o_));have hfree':∀k ok,ops[k]? = some _->k≠i->(listed.setIfInBounds j _).getD k _=false ->
    (∀e∈ok.after,Region.binds _ e=true->e.on≠i)->oi.apart _ ok=true:=λk ok hk hki hun hno=>by
    refine hfree k _ hk o_ ?_ hno;by_cases hjk:j=k
    .grind
    .rw[getD_set_ne _ o_]at hun;omega
   refine wpOp_mono (λa' w' h3=>⟨λ_=>h3.2.1 htu2,ih _ _ _ (AQ hc hj) hfree' (ready_mono hr o_) h3.1 (h3.2.1 htu2) ?_⟩) h2;rw[Array.setIfInBounds_comm _ _ o_];grind
def Rr{i n:Nat}{oi:Oper}{v:Value}{d:Nat}{b:Array Bool}{a:Act}{w:World}(hi:ops[i]? = some oi)
 (g:Region.noSelect ops=true)(e:(qX md ops b&&reaches md ops n t i&&t != i)=true)(q:Region.free md ops b i=true)(y:(Region.ready md ops b).contains i=true)
 (u:∀c a w,Q (.panic c) (a.put oi.dst v) w->Q (.panic c) a w)(s:YieldsIf P ops S oi v a)(x:S w)
 (h:fE P md ops Q S t d (b.setIfInBounds i true) (a.put oi.dst v) w):fE P md ops Q S t (d+1) b a w:=by
 obtain⟨f,r⟩:=(Bool.and_eq_true _ _).mp e;obtain⟨h1,h2⟩:=(Bool.and_eq_true _ _).mp f;exact Rk hi (Region.noSelect_spec g) u h2 r_ d b a w (λj z p m=>AP h1 p m) (Region.free_spec hi q) r_ s x h
def Fl{i:Nat}{oi:Oper}{v:Value}(hi:ops[i]? = some oi)(q:∀(j:Nat)(o:Oper) cs b,ops[j]? = some o->o.op ≠ .select cs b)
 (V:∀c a w,Q (.panic c) (a.put oi.dst v) w->Q (.panic c) a w)(y:t≠i) :
 ∀(g:Nat)(d:Array Bool)(a:Act)(w:World),
  (∀j s,ops[j]? = some s->j≠i->d.getD j true=false->(∀e∈s.after,Region.binds md e=true->e.on≠i)->oi.apart ops s=true) ->
  i∈Region.ready md ops d->YieldsIf P ops (λ_=>True) oi v a->(d.getD t false=false->S w) ->
  fE P md ops Q S t g (d.setIfInBounds i true) (a.put oi.dst v) w->fE P md ops Q S t (g+1) d a w:=by
 intro g;induction g with
 |zero=>
  intro d a w _ u F M H;refine⟨λh=>r_,λj D=> ?_⟩;by_cases f:j=i
  .subst f;exact F.wpOp hi trivial ⟨λh=>M (by rw[getD_set_ne _ o_]at h;omega),H⟩
  .have N:=ready_mono D f;rw[H.1]at N;cases N
 |succ g U=>
  intro d a w m u F M H;refine⟨λh=>r_,λj D=> ?_⟩;by_cases f:j=i
  .subst f;exact F.wpOp hi trivial ⟨λh=>M (by rw[getD_set_ne _ o_]at h;omega),H⟩
  .obtain⟨C,s,r,A⟩:=mem_ready.1 D;have n:=EY u;have z:∀e∈s.after,Region.binds md e=true->e.on≠i:=λe R T G=>r_
   have h2:=wpOp_putIf r (m j s r f C z) (λcs b=>q i _ _ b hi) (λcs b=>q j s _ b r) V F (H.2 j (ready_mono D f));have p:∀k ok,ops[k]? = some _->k≠i->(d.setIfInBounds j _).getD k _=false ->
    (∀e∈ok.after,Region.binds _ e=true->e.on≠i)->oi.apart _ ok=true:=λk ok hk L n J=>by
    refine m k _ hk L ?_ J;by_cases I:j=k
    .grind
    .rw[getD_set_ne _ I]at n;omega
   have B:∀x:Array Bool,((d.setIfInBounds i _).setIfInBounds j _).getD t _=((d.setIfInBounds j true)).getD t false:=λ_=>by
    rw[Array.setIfInBounds_comm _ _ o_,getD_set_ne _ o_]
   refine wpOp_mono (λO w' E=>⟨λh=>E.2.1 ((B d).trans h),U _ O _ p (ready_mono u o_) E.1 (λh=>E.2.1 ((B d).trans h)) ?_⟩) h2;rw[Array.setIfInBounds_comm _ _ f];exact E.2.2
def Rl{i:Nat}{oi:Oper}{v:Value}{d:Nat}{b:Array Bool}{a:Act}{w:World}(hi:ops[i]? = some oi)
 (f:Region.noSelect ops=true)(e:(t != i)=true)(g:Region.free md ops b i=true)(q:(Region.ready md ops b).contains i=true)
 (n:∀c a w,Q (.panic c) (a.put oi.dst v) w->Q (.panic c) a w)(m:YieldsIf P ops (λ_=>True) oi v a)(p:S w)
 (h:fE P md ops Q S t d (b.setIfInBounds i true) (a.put oi.dst v) w):fE P md ops Q S t (d+1) b a w:=
 Fl hi (Region.noSelect_spec f) n r_ d b a w (Region.free_spec hi g) r_ m (λ_=>p) h
def Rp{i:Nat}{o:Oper}{c:Nat}{b:Array Bool}{a:Act}{w:World}(e:Region.ready md ops b=[i])(m:ops[i]? = some o)(p:i≠t)
 (h:∀d:Act->World->Prop,Shut (∀a w,S w->(S w->fE P md ops Q S t c (b.setIfInBounds i true) a w)->d a w)->if Region.wanted o (yielded ops a.tmps)=true then Oper.wp P o a w d Q else d (a.put o.dst undef) w) :
 fE P md ops Q S t (c+1) b a w:=by
 refine⟨λh0=>r_,λj g=> ?_⟩;rw[e]at g;obtain rfl:j=i:=by grind
 exact wpOp_step m (λd hK=>h d (λa w f n=>hK a w ⟨λ_=>f,n f⟩))
def zg{o:Oper}{c:Nat}{b:Array Bool}{a:Act}{w:World}(g:Region.ready md ops b=[t])(p:ops[t]? = some o)(d:Region.ready md ops (b.setIfInBounds t true)=[]/\(b.setIfInBounds t true).getD t false=true)
 (h:∀e:Act->World->Prop,Shut (∀a w,Q .normal a w->e a w)->if Region.wanted o (yielded ops a.tmps)=true then Oper.wp P o a w e Q else e (a.put o.dst undef) w) :
 fE P md ops Q S t (c+1) b a w:=by
 refine⟨λh0=>r_,λj n=> ?_⟩;rw[g]at n;obtain rfl:j=t:=by grind
 refine wpOp_step p (λe hK=>h e (λa w f=>hK a w ⟨λm=>r_,?_⟩));cases c with
 |zero=>exact⟨d.1,f⟩
 |succ c=>exact⟨λ_=>f,r_⟩
def Rm{o:Oper}{c:Nat}{b:Array Bool}{a:Act}{w:World}(f:Region.ready md ops b=[t])(n:ops[t]? = some o)(d:(b.setIfInBounds t true).getD t false=true)
 (h:∀e:Act->World->Prop,Shut (∀a w,fE P md ops Q S t c (b.setIfInBounds t true) a w->e a w)->if Region.wanted o (yielded ops a.tmps)=true then Oper.wp P o a w e Q else e (a.put o.dst undef) w) :
 fE P md ops Q S t (c+1) b a w:=by
 refine⟨λh0=>r_,λj m=> ?_⟩;rw[f]at m;obtain rfl:j=t:=by grind
 exact wpOp_step n (λe hK=>h e (λa w p=>hK a w ⟨λg=>r_,p⟩))
def Rq{i:Nat}{oi:Oper}{v:Value}{d:Nat}{b:Array Bool}{a:Act}{w:World}(hi:ops[i]? = some oi)
 (g:Region.noSelect ops=true)(e:(t != i&&b.getD t false)=true)(m:Region.free md ops b i=true)(q:(Region.ready md ops b).contains i=true)
 (p:∀c a w,Q (.panic c) (a.put oi.dst v) w->Q (.panic c) a w)(n:YieldsIf P ops (λ_=>True) oi v a)
 (h:fE P md ops Q S t d (b.setIfInBounds i true) (a.put oi.dst v) w):fE P md ops Q S t (d+1) b a w:=by
 obtain⟨h1,h2⟩:=(Bool.and_eq_true _ _).mp e;exact Fl hi (Region.noSelect_spec g) p r_ d b a w (Region.free_spec hi m) r_ n (λf=>r_) h
def Rj{b:Array Bool}{a:Act}{w:World}(d:Region.ready md ops b=[])(h:Q .normal a w) :
 ∀c,fE P md ops Q S t c b a w
 |0=>⟨d,h⟩
 |_+1=>⟨λ_=>h,by rw[d];simp⟩
def uG{id:Nat}{a:Act}{w:World}(c:P.follows .mixedOrders=true)(b:S w.drew)
 (h:S w.drew->fE P .any ops Q S t ops.size (Array.replicate ops.size false) a w.drew):(Code.region id ops true).wp P Q a w:=
 wp_region_any c (Fm _ _ _ _ (h b))
end
section
variable{P:Program}{ops:Array Oper}{Q:Exit->Act->World->Prop}{md:Region.Mode}{S:World->Prop}{t:Nat}
def tS(P:Program)(ops:Array Oper)(Q:Exit->Act->World->Prop)(md:Region.Mode)(S:World->Prop)(i:Nat)(o:Oper)(v:Value)(b m:Array Bool)(a g:Act)(x:Bool):Prop:=ops[i]? = some o/\Region.noSelect ops=true/\x=true/\Region.free md ops b i=true/\(Region.ready md ops b).contains i=true/\(∀c a w,Q (.panic c) (a.put o.dst v) w->Q (.panic c) a w)/\YieldsIf P ops S o v a/\b.setIfInBounds i true=m/\a.put o.dst v=g
def y_{i:Nat}{o:Oper}{v:Value}{b m:Array Bool}{a g:Act}{x:Bool}(hi:ops[i]? = some o:=by exact g_)(n:Region.noSelect ops=true:=by kernel_rfl)(f:x=true:=by kernel_rfl)(r:Region.free md ops b i=true:=by kernel_rfl)(y:(Region.ready md ops b).contains i=true:=by kernel_rfl)
 (u:∀c a w,Q (.panic c) (a.put o.dst v) w->Q (.panic c) a w:=by exactλ_ _ _ h=>h)
 (s:YieldsIf P ops S o v a:=by(refine Or.inl ⟨by rfl,?_⟩;intro w d;(try dsimp only at d);(try dsimp only[cA,gZ]at d);(try dsimp only[cF,eG]at d);(try dsimp only[cC,hJ,cN,iI]at d);go_simp;try exact rfl))
 (q:b.setIfInBounds i true=m:=by first|(simp only[setIfInBounds_toArray,set_cons_zero,set_cons_succ];exact rfl)|exact rfl)
 (p:a.put o.dst v=g:=by first|(simp only[Act.put,setIfInBounds_toArray,set_cons_zero,set_cons_succ];exact rfl)|exact rfl):tS P ops Q md S i o v b m a g x:=⟨hi,n,f,r,y,u,s,q,p⟩
variable{o o1 o2 o3:Oper}{v v1 v2 v3:Value}{e:Nat}{b m m1 m2 m3:Array Bool}{a g g1 g2 g3:Act}{w:World}
def tk(i:Nat)(x:S w)(h:dI P md ops Q S t e m g w)(z:tS P ops Q md S i o v b m a g (decide (ops.size<=t)||Region.waitsFor md ops t i):=by exact y_):dI P md ops Q S t (e+1) b a w:=by
 obtain⟨hi,n,f,r,y,u,s,rfl,rfl⟩:=z;exact lr hi n f r y u s x h
def sk(i:Nat)(x:S w)(h:dI P md ops Q S t e m g w)(z:tS P ops Q md S i o undef b m a g (decide (ops.size<=t)||Region.waitsFor md ops t i):=by exact y_ (s:=Or.inr ⟨by rfl,rfl⟩)):dI P md ops Q S t (e+1) b a w:=tk i x h z
def tu(i:Nat)(x:S w)(h:fE P md ops Q S t e m g w)(z:tS P ops Q md S i o v b m a g (qX md ops b&&reaches md ops 12 t i&&t != i):=by exact y_):fE P md ops Q S t (e+1) b a w:=by
 obtain⟨hi,n,f,r,y,u,s,rfl,rfl⟩:=z;exact Rr hi n f r y u s x h
def tB(i j:Nat)(x:S w)(h:dI P md ops Q S t e m1 g1 w)(z:tS P ops Q md S i o v b m a g (decide (ops.size<=t)||Region.waitsFor md ops t i):=by exact y_)(z1:tS P ops Q md S j o1 v1 m m1 g g1 (decide (ops.size<=t)||Region.waitsFor md ops t j):=by exact y_):dI P md ops Q S t (e+2) b a w:=tk i x (tk j x h z1) z
def eR(i j k:Nat)(x:S w)(h:dI P md ops Q S t e m2 g2 w)(z:tS P ops Q md S i o v b m a g (decide (ops.size<=t)||Region.waitsFor md ops t i):=by exact y_)(z1:tS P ops Q md S j o1 v1 m m1 g g1 (decide (ops.size<=t)||Region.waitsFor md ops t j):=by exact y_)(z2:tS P ops Q md S k o2 v2 m1 m2 g1 g2 (decide (ops.size<=t)||Region.waitsFor md ops t k):=by exact y_):dI P md ops Q S t (e+3) b a w:=tB i j x (tk k x h z2) z z1
def tD(i j k l:Nat)(x:S w)(h:dI P md ops Q S t e m3 g3 w)(z:tS P ops Q md S i o v b m a g (decide (ops.size<=t)||Region.waitsFor md ops t i):=by exact y_)(z1:tS P ops Q md S j o1 v1 m m1 g g1 (decide (ops.size<=t)||Region.waitsFor md ops t j):=by exact y_)(z2:tS P ops Q md S k o2 v2 m1 m2 g1 g2 (decide (ops.size<=t)||Region.waitsFor md ops t k):=by exact y_)(z3:tS P ops Q md S l o3 v3 m2 m3 g2 g3 (decide (ops.size<=t)||Region.waitsFor md ops t l):=by exact y_):dI P md ops Q S t (e+4) b a w:=tB i j x (tB k l x h z2 z3) z z1
def oT(i:Nat){o:Oper}{c:Nat}{b f:Array Bool}{a:Act}{w:World}
 (h:∀e:Act->World->Prop,Shut (∀a w,S w->(S w->dI P md ops Q S t c f a w)->e a w)->if Region.wanted o (yielded ops a.tmps)=true then Oper.wp P o a w e Q else e (a.put o.dst undef) w)
 (n:ops[i]? = some o:=by exact g_)(g:Region.ready md ops b=[i]:=by kernel_rfl)(d:i≠t:=by decide)
 (m:b.setIfInBounds i true=f:=by first|(simp only[setIfInBounds_toArray,set_cons_zero,set_cons_succ];exact rfl)|exact rfl):dI P md ops Q S t (c+1) b a w:=by
 subst m;exact Rh g n d h
def oU(i:Nat){o:Oper}{c:Nat}{b f:Array Bool}{a:Act}{w:World}
 (h:∀e:Act->World->Prop,Shut (∀a w,S w->(S w->fE P md ops Q S t c f a w)->e a w)->if Region.wanted o (yielded ops a.tmps)=true then Oper.wp P o a w e Q else e (a.put o.dst undef) w)
 (n:ops[i]? = some o:=by exact g_)(g:Region.ready md ops b=[i]:=by kernel_rfl)(d:i≠t:=by decide)
 (m:b.setIfInBounds i true=f:=by first|(simp only[setIfInBounds_toArray,set_cons_zero,set_cons_succ];exact rfl)|exact rfl):fE P md ops Q S t (c+1) b a w:=by
 subst m;exact Rp g n d h
def oK{K W:Act->World->Prop}(hK:Shut (∀a w,S w->(S w->W a w)->K a w)){a b:Act}{w:World}(d:S w)(h:S w->W b w)(c:a=b:=by first|(simp only[Act.put,setIfInBounds_toArray,set_cons_zero,set_cons_succ];exact rfl)|exact rfl):K a w:=by
 subst c;exact hK.out _ _ d h
end
end Base
namespace Base
open List Go.RowKit Go.Proofs.Tryz
section
variable{P:Program}{ops:Array Oper}{Q:Exit->Act->World->Prop}{md:Region.Mode}{S:World->Prop}{t:Nat}
def Pk(P:Program)(f:Region.Mode)(c:Array Oper)(Q:Exit->Act->World->Prop)(S:World->Prop)(t d:Nat)(b:Array Bool)(a:Act)(w:World)(i:Nat):Prop:=∃o,c[i]? = some o/\i≠t /\ 
 ∀e:Act->World->Prop,Shut (∀a w,S w->(S w->dI P f c Q S t d (b.setIfInBounds i true) a w)->e a w)->if Region.wanted o (yielded c a.tmps)=true then Oper.wp P o a w e Q else e (a.put o.dst undef) w
def pk{c:Nat}{b:Array Bool}{a:Act}{w:World}{rs:List Nat}(h:∀i∈rs,Pk P md ops Q S t c b a w i)(d:Region.ready md ops b=rs:=by kernel_rfl)(f:rs.isEmpty=false:=by rfl):dI P md ops Q S t (c+1) b a w:=by
 refine⟨λh0=>r_,λj e=> ?_⟩;rw[d]at e;obtain⟨o,m,n,h⟩:=h j e;exact wpOp_step m (λq hK=>h q (λa w g p=>hK a w ⟨λ_=>g,p g⟩))
def lQ{X:Nat->Prop}{i}(h:X i):∀j∈[i],X j:=o_
def yq{X:Nat->Prop}{i rs}(h:X i)(c:∀j∈rs,X j):∀j∈i::rs,X j:=r_
def j'{i c:Nat}{b:Array Bool}{a:Act}{w:World}{o:Oper}(h:∀e:Act->World->Prop,Shut (∀a w,S w->(S w->dI P md ops Q S t c (b.setIfInBounds i true) a w)->e a w)->if Region.wanted o (yielded ops a.tmps)=true then Oper.wp P o a w e Q else e (a.put o.dst undef) w)
 (f:ops[i]? = some o:=by exact g_)(d:i≠t:=by decide):Pk P md ops Q S t c b a w i:=⟨o,f,d,h⟩
end
end Base
end Go.Proofs.YtibjlpkpljnicaaGreatDoor
