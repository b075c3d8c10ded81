/- Parts of a proof. -/
import Derived.Test.YtjopcamkclndlaaGreatH001
import Derived.OrdersHeld
import Derived.StillTail
set_option linter.unusedVariables false
set_option linter.unusedSimpArgs false
set_option maxRecDepth 100000
set_option maxHeartbeats 8000000
namespace Go.Proofs.YtjopcamkclndlaaGreat.Base
open List Go.RowKit
section
variable {P:Program} {an:Array Oper} {Q:Exit->Act->World->Prop} {md:Region.Mode} {S:World->Prop} {t:Nat}
def hZ (P:Program) (md:Region.Mode) (an:Array Oper) (Q:Exit->Act->World->Prop) (S:World->Prop) (t:Nat):Nat->Array Bool->Act->World->Prop
 | 0,listed,a,w=>Region.ready md an listed=[]/\Q .normal a w
 | fuel+1,listed,a,w =>
  (Region.ready md an listed=[]->Q .normal a w) /\
  ∀i∈Region.ready md an listed,wpOp P an Q i (fun a' w'=>(i≠t->S w')/\hZ P md an Q S t fuel (listed.setIfInBounds i true) a' w') a w
theorem Pz:∀ (fuel:Nat) (listed:Array Bool) (a:Act) (w:World),hZ P md an Q S t fuel listed a w->wpAny P md an Q fuel listed a w
 | 0,_,_,_,h=>h
 | fuel+1,_,_,_,h=>⟨h.1,fun i hi=>wpOp_mono (fun a' w' h'=>Pz fuel _ a' w' h'.2) (h.2 i hi)⟩
theorem abS {i:Nat} {oi:Oper} {v:Value} (hi:an[i]? = some oi) (wa:∀ (j:Nat) (o:Oper) cs b,an[j]? = some o->o.op ≠ .select cs b)
 (hQ:∀c a w,Q (.panic c) (a.put oi.dst v) w->Q (.panic c) a w) (hwt:(decide (an.size<=t)||Region.waitsFor md an t i)=true) :
 ∀ (fuel:Nat) (listed:Array Bool) (a:Act) (w:World),
  (∀j oj,an[j]? = some oj->j≠i->listed.getD j true=false->(∀e∈oj.after,Region.binds md e=true->e.on≠i)->oi.apart an oj=true) ->
  i∈Region.ready md an listed->YieldsIf P an S oi v a->S w ->
  hZ P md an Q S t fuel (listed.setIfInBounds i true) (a.put oi.dst v) w->hZ P md an Q S t (fuel+1) listed a w:=by
 intro fuel
 induction fuel with
 | zero =>
  intro listed a w _ hr hy hS H;refine ⟨fun h=>(by rw [h] at hr;cases hr),fun j hj => ?_⟩;by_cases gw:j=i
  .subst gw;exact hy.wpOp hi hS ⟨fun _=>hS,H⟩
  .have hm:=ready_mono hj gw;rw [H.1] at hm;cases hm
 | succ fuel ih =>
  intro listed a w tZ hr hy hS H;refine ⟨fun h=>(by rw [h] at hr;cases hr),fun j hj => ?_⟩;by_cases gw:j=i
  .subst gw;exact hy.wpOp hi hS ⟨fun _=>hS,H⟩
  .have h1:=H.2 j (ready_mono hj gw);obtain ⟨wb,oj,nj,eY⟩:=mem_ready.1 hj;have Bl:∀e∈oj.after,Region.binds md e=true->e.on≠i:=fun e he hb we=>by
    have g1:=eY e he hb;have g0:=(mem_ready.1 hr).1;rw [we] at g1;rcases Nat.lt_or_ge i listed.size with h' | h'
    .simp [h'] at g0 g1;rw [g0] at g1;cases g1
    .simp [Array.getElem?_eq_none h'] at g1
   have Bm:j≠t:=by
    rintro rfl;rcases (Bool.or_eq_true _ _).mp hwt with hl | hwt
    .have hl:=of_decide_eq_true hl;have:=(Array.getElem?_eq_some_iff.1 nj).1;omega
    .obtain ⟨ot,Je,et,het,Nk,ac0⟩:=Region.waitsFor_spec hwt;rw [Je] at nj;injection nj with nj
     subst nj;exact Bl et het Nk ac0
   have h2:=wpOp_putIf nj (tZ j oj nj gw wb Bl) (fun cs b=>wa i oi cs b hi) (fun cs b=>wa j oj cs b nj) hQ hy h1;have Dc:∀k ok,an[k]? = some ok->k≠i->(listed.setIfInBounds j true).getD k true=false ->
    (∀e∈ok.after,Region.binds md e=true->e.on≠i)->oi.apart an ok=true:=fun k ok hk Bn np eG=>by
    refine tZ k ok hk Bn ?_ eG;by_cases pZ:j=k
    .subst pZ;exact wb
    .rw [getD_set_ne true pZ] at np;exact np
   refine wpOp_mono (fun a' w' h3=>⟨fun _=>h3.2.1 Bm,ih (listed.setIfInBounds j true) a' w' Dc (ready_mono hr (Ne.symm gw)) h3.1 (h3.2.1 Bm) ?_⟩) h2;rw [Array.setIfInBounds_comm _ _ gw];exact h3.2.2
theorem vO {i:Nat} {oi:Oper} {v:Value} {fuel:Nat} {listed:Array Bool} {a:Act} {w:World} (hi:an[i]? = some oi)
 (hs:Region.noSelect an=true) (hwt:(decide (an.size<=t)||Region.waitsFor md an t i)=true) (hf:Region.free md an listed i=true) (hr:(Region.ready md an listed).contains i=true)
 (hQ:∀c a w,Q (.panic c) (a.put oi.dst v) w->Q (.panic c) a w) (hy:YieldsIf P an S oi v a) (hS:S w)
 (h:hZ P md an Q S t fuel (listed.setIfInBounds i true) (a.put oi.dst v) w):hZ P md an Q S t (fuel+1) listed a w :=
 abS hi (Region.noSelect_spec hs) hQ hwt fuel listed a w (Region.free_spec hi hf) (by simpa using hr) hy hS h
theorem a5v {i:Nat} {o:Oper} {fuel:Nat} {listed:Array Bool} {a:Act} {w:World} (hr:Region.ready md an listed=[i]) (ho:an[i]? = some o) (zk:i≠t)
 (h:∀K':Act->World->Prop,Shut (∀a w,S w->(S w->hZ P md an Q S t fuel (listed.setIfInBounds i true) a w)->K' a w)->if Region.wanted o (yielded an a.tmps)=true then Oper.wp P o a w K' Q else K' (a.put o.dst undef) w) :
 hZ P md an Q S t (fuel+1) listed a w:=by
 refine ⟨fun h0=>(by rw [hr] at h0;cases h0),fun j hj => ?_⟩;rw [hr] at hj;obtain rfl:j=i:=by simpa using hj
 exact wpOp_step ho (fun K' hK=>h K' (fun a w hS hW=>hK a w ⟨fun _=>hS,hW hS⟩))
theorem rr {o:Oper} {fuel:Nat} {listed:Array Bool} {a:Act} {w:World} (hr:Region.ready md an listed=[t]) (ho:an[t]? = some o) (xU:Region.ready md an (listed.setIfInBounds t true)=[])
 (h:∀K':Act->World->Prop,Shut (∀a w,Q .normal a w->K' a w)->if Region.wanted o (yielded an a.tmps)=true then Oper.wp P o a w K' Q else K' (a.put o.dst undef) w) :
 hZ P md an Q S t (fuel+1) listed a w:=by
 refine ⟨fun h0=>(by rw [hr] at h0;cases h0),fun j hj => ?_⟩;rw [hr] at hj;obtain rfl:j=t:=by simpa using hj
 refine wpOp_step ho (fun K' hK=>h K' (fun a w hq=>hK a w ⟨fun hn=>absurd rfl hn,?_⟩));cases fuel with
 | zero=>exact ⟨xU,hq⟩
 | succ fuel=>exact ⟨fun _=>hq,by rw [xU];simp⟩
theorem dY {listed:Array Bool} {a:Act} {w:World} (hr:Region.ready md an listed=[]) (h:Q .normal a w) :
 ∀fuel,hZ P md an Q S t fuel listed a w
 | 0=>⟨hr,h⟩
 | _+1=>⟨fun _=>h,by rw [hr];simp⟩
theorem dt {id:Nat} {a:Act} {w:World} (hm:P.follows .mixedOrders=true) (hS:S w.drew)
 (h:S w.drew->hZ P .any an Q S t an.size (Array.replicate an.size false) a w.drew):(Code.region id an true).wp P Q a w :=
 wp_region_any hm (Pz _ _ _ _ (h hS))
def IF (md:Region.Mode) (an:Array Oper) (listed:Array Bool):Bool :=
 (range an.size).all fun j => !listed.getD j false||match an[j]? with
   | some oj=>oj.after.all fun e => !Region.binds md e||listed.getD e.on false
   | none=>true
theorem a1g {listed:Array Bool} (h:IF md an listed=true) {j:Nat} {oj:Oper} (hj:an[j]? = some oj) (hl:listed.getD j false=true):∀e∈oj.after,Region.binds md e=true->listed.getD e.on false=true:=by
 intro e he hb;unfold IF at h;have h1:=all_eq_true.1 h j (mem_range.2 (Array.getElem?_eq_some_iff.1 hj).1);rw [hl,hj] at h1;simp only [Bool.not_true,Bool.false_or] at h1;have h2:=Array.all_eq_true_iff_forall_mem.1 h1 e he;rw [hb] at h2;simpa using h2
theorem YC {listed:Array Bool} (h:∀ (j:Nat) (oj:Oper),an[j]? = some oj->listed.getD j false=true->∀e∈oj.after,Region.binds md e=true->listed.getD e.on false=true) {i:Nat} (hi:i∈Region.ready md an listed) :
 ∀ (j:Nat) (oj:Oper),an[j]? = some oj->(listed.setIfInBounds i true).getD j false=true->∀e∈oj.after,Region.binds md e=true->(listed.setIfInBounds i true).getD e.on false=true:=by
 intro j oj hj hl e he hb;by_cases e1:i=j
 .subst e1;obtain ⟨_,o,ho,eY⟩:=mem_ready.1 hi;rw [hj] at ho;injection ho with ho
  subst ho;exact getD_set_true (eY e he hb)
 .rw [getD_set_ne false e1] at hl;exact getD_set_true (h j oj hj hl e he hb)
def QM (md:Region.Mode) (an:Array Oper) (t i:Nat):Bool:=Region.waitsFor md an t i||(range an.size).any fun j=>Region.waitsFor md an t j&&Region.waitsFor md an j i
theorem a7U {i:Nat} (h:QM md an t i=true) {listed:Array Bool} (hc:∀ (j:Nat) (oj:Oper),an[j]? = some oj->listed.getD j false=true->∀e∈oj.after,Region.binds md e=true->listed.getD e.on false=true) (ht:t∈Region.ready md an listed):listed.getD i false=true:=by
 obtain ⟨_,ot,Je,eY⟩:=mem_ready.1 ht;have one:∀j,Region.waitsFor md an t j=true->listed.getD j false=true:=fun j hj=>by
  obtain ⟨o,ho,e,he,hb,Dd⟩:=Region.waitsFor_spec hj;rw [Je] at ho;injection ho with ho
  subst ho;rw [<-Dd];exact eY e he hb
 rcases (Bool.or_eq_true _ _).mp h with h | h
 .exact one i h
 .obtain ⟨j,_,hj⟩:=any_eq_true.1 h;obtain ⟨h1,h2⟩:=(Bool.and_eq_true _ _).mp hj;obtain ⟨o,ho,e,he,hb,Dd⟩:=Region.waitsFor_spec h2;rw [<-Dd];exact hc j o ho (one j h1) e he hb
theorem a7J {i:Nat} {oi:Oper} {v:Value} (hi:an[i]? = some oi) (wa:∀ (j:Nat) (o:Oper) cs b,an[j]? = some o->o.op ≠ .select cs b)
 (hQ:∀c a w,Q (.panic c) (a.put oi.dst v) w->Q (.panic c) a w) (hwt:QM md an t i=true) :
 ∀ (fuel:Nat) (listed:Array Bool) (a:Act) (w:World),
  (∀ (j:Nat) (oj:Oper),an[j]? = some oj->listed.getD j false=true->∀e∈oj.after,Region.binds md e=true->listed.getD e.on false=true) ->
  (∀j oj,an[j]? = some oj->j≠i->listed.getD j true=false->(∀e∈oj.after,Region.binds md e=true->e.on≠i)->oi.apart an oj=true) ->
  i∈Region.ready md an listed->YieldsIf P an S oi v a->S w ->
  hZ P md an Q S t fuel (listed.setIfInBounds i true) (a.put oi.dst v) w->hZ P md an Q S t (fuel+1) listed a w:=by
 intro fuel
 induction fuel with
 | zero =>
  intro listed a w _ _ hr hy hS H;refine ⟨fun h=>(by rw [h] at hr;cases hr),fun j hj => ?_⟩;by_cases gw:j=i
  .subst gw;exact hy.wpOp hi hS ⟨fun _=>hS,H⟩
  .have hm:=ready_mono hj gw;rw [H.1] at hm;cases hm
 | succ fuel ih =>
  intro listed a w hc tZ hr hy hS H;refine ⟨fun h=>(by rw [h] at hr;cases hr),fun j hj => ?_⟩;by_cases gw:j=i
  .subst gw;exact hy.wpOp hi hS ⟨fun _=>hS,H⟩
  .have h1:=H.2 j (ready_mono hj gw);obtain ⟨wb,oj,nj,eY⟩:=mem_ready.1 hj;have np:listed.getD i false=false:=by
    have g0:=(mem_ready.1 hr).1;rcases Nat.lt_or_ge i listed.size with h' | h'
    .simp [h'] at g0 ⊢;exact g0
    .simp [Array.getElem?_eq_none h']
   have Bl:∀e∈oj.after,Region.binds md e=true->e.on≠i:=fun e he hb we=>by
    have g1:=eY e he hb;rw [we,np] at g1;cases g1
   have Bm:j≠t:=by
    rintro rfl;have:=a7U hwt hc hj;rw [np] at this;cases this
   have h2:=wpOp_putIf nj (tZ j oj nj gw wb Bl) (fun cs b=>wa i oi cs b hi) (fun cs b=>wa j oj cs b nj) hQ hy h1;have Dc:∀k ok,an[k]? = some ok->k≠i->(listed.setIfInBounds j true).getD k true=false ->
    (∀e∈ok.after,Region.binds md e=true->e.on≠i)->oi.apart an ok=true:=fun k ok hk Bn np eG=>by
    refine tZ k ok hk Bn ?_ eG;by_cases pZ:j=k
    .subst pZ;exact wb
    .rw [getD_set_ne true pZ] at np;exact np
   refine wpOp_mono (fun a' w' h3=>⟨fun _=>h3.2.1 Bm,ih (listed.setIfInBounds j true) a' w' (YC hc hj) Dc (ready_mono hr (Ne.symm gw)) h3.1 (h3.2.1 Bm) ?_⟩) h2;rw [Array.setIfInBounds_comm _ _ gw];exact h3.2.2
theorem PG {i:Nat} {oi:Oper} {v:Value} {fuel:Nat} {listed:Array Bool} {a:Act} {w:World} (hi:an[i]? = some oi)
 (hs:Region.noSelect an=true) (hwt:(IF md an listed&&QM md an t i)=true) (hf:Region.free md an listed i=true) (hr:(Region.ready md an listed).contains i=true)
 (hQ:∀c a w,Q (.panic c) (a.put oi.dst v) w->Q (.panic c) a w) (hy:YieldsIf P an S oi v a) (hS:S w)
 (h:hZ P md an Q S t fuel (listed.setIfInBounds i true) (a.put oi.dst v) w):hZ P md an Q S t (fuel+1) listed a w :=
 a7J hi (Region.noSelect_spec hs) hQ ((Bool.and_eq_true _ _).mp hwt).2 fuel listed a w (fun j oj hj hl=>a1g ((Bool.and_eq_true _ _).mp hwt).1 hj hl) (Region.free_spec hi hf) (by simpa using hr) hy hS h
end
section
variable {P:Program} {an:Array Oper} {Q:Exit->Act->World->Prop} {md:Region.Mode} {S:World->Prop} {t:Nat}
def jW (P:Program) (md:Region.Mode) (an:Array Oper) (Q:Exit->Act->World->Prop) (S:World->Prop) (t:Nat):Nat->Array Bool->Act->World->Prop
 | 0,listed,a,w=>Region.ready md an listed=[]/\Q .normal a w
 | fuel+1,listed,a,w =>
  (Region.ready md an listed=[]->Q .normal a w) /\
  ∀i∈Region.ready md an listed,wpOp P an Q i (fun a' w'=>((listed.setIfInBounds i true).getD t false=false->S w')/\jW P md an Q S t fuel (listed.setIfInBounds i true) a' w') a w
theorem YS:∀ (fuel:Nat) (listed:Array Bool) (a:Act) (w:World),jW P md an Q S t fuel listed a w->wpAny P md an Q fuel listed a w
 | 0,_,_,_,h=>h
 | fuel+1,_,_,_,h=>⟨h.1,fun i hi=>wpOp_mono (fun a' w' h'=>YS fuel _ a' w' h'.2) (h.2 i hi)⟩
def reaches (md:Region.Mode) (an:Array Oper):Nat->Nat->Nat->Bool
 | 0,t,i=>t == i
 | n+1,t,i=>t == i||(range an.size).any fun j=>Region.waitsFor md an t j&&reaches md an n j i
def ME (md:Region.Mode) (an:Array Oper) (listed:Array Bool):Prop:=∀ (j:Nat) (oj:Oper),an[j]? = some oj->listed.getD j false=true->∀e∈oj.after,Region.binds md e=true->listed.getD e.on false=true
theorem a8J {listed:Array Bool} (hc:ME md an listed) {t j:Nat} (hw:Region.waitsFor md an t j=true) (ht:listed.getD t false=true):listed.getD j false=true:=by
 obtain ⟨o,ho,e,he,hb,Dd⟩:=Region.waitsFor_spec hw;rw [<-Dd];exact hc t o ho ht e he hb
theorem PA {listed:Array Bool} (hc:ME md an listed):∀ (n t i:Nat),reaches md an n t i=true->listed.getD t false=true->listed.getD i false=true
 | 0,t,i,h,ht=>by
  have:t=i:=by simpa [reaches] using h
  rw [<-this];exact ht
 | n+1,t,i,h,ht=>by
  unfold reaches at h;rcases (Bool.or_eq_true _ _).mp h with h | h
  .have:t=i:=by simpa using h
   rw [<-this];exact ht
  .obtain ⟨j,_,hj⟩:=any_eq_true.1 h;obtain ⟨h1,h2⟩:=(Bool.and_eq_true _ _).mp hj;exact PA hc n j i h2 (a8J hc h1 ht)
theorem aa2 {listed:Array Bool} {t j:Nat} (hr:t∈Region.ready md an listed) (hw:Region.waitsFor md an t j=true):listed.getD j false=true:=by
 obtain ⟨_,ot,Je,eY⟩:=mem_ready.1 hr;obtain ⟨o,ho,e,he,hb,Dd⟩:=Region.waitsFor_spec hw;rw [Je] at ho;injection ho with ho
 subst ho;rw [<-Dd];exact eY e he hb
theorem a5O {listed:Array Bool} (hc:ME md an listed) {n t i:Nat} (h:reaches md an n t i=true) (oS:t≠i) (hr:t∈Region.ready md an listed):listed.getD i false=true:=by
 cases n with
 | zero=>exact absurd (by simpa [reaches] using h) oS
 | succ n =>
  unfold reaches at h;rcases (Bool.or_eq_true _ _).mp h with h | h
  .exact absurd (by simpa using h) oS
  .obtain ⟨j,_,hj⟩:=any_eq_true.1 h;obtain ⟨h1,h2⟩:=(Bool.and_eq_true _ _).mp hj;exact PA hc n j i h2 (aa2 hr h1)
theorem Y7 {listed:Array Bool} {i:Nat} (hr:i∈Region.ready md an listed):listed.getD i false=false:=by
 have g0:=(mem_ready.1 hr).1;rcases Nat.lt_or_ge i listed.size with h' | h'
 .simp [h'] at g0 ⊢;exact g0
 .simp [Array.getElem?_eq_none h']
theorem a9T {i n:Nat} {oi:Oper} {v:Value} (hi:an[i]? = some oi) (wa:∀ (j:Nat) (o:Oper) cs b,an[j]? = some o->o.op ≠ .select cs b)
 (hQ:∀c a w,Q (.panic c) (a.put oi.dst v) w->Q (.panic c) a w) (hwt:reaches md an n t i=true) (oS:t≠i) :
 ∀ (fuel:Nat) (listed:Array Bool) (a:Act) (w:World),
  ME md an listed ->
  (∀j oj,an[j]? = some oj->j≠i->listed.getD j true=false->(∀e∈oj.after,Region.binds md e=true->e.on≠i)->oi.apart an oj=true) ->
  i∈Region.ready md an listed->YieldsIf P an S oi v a->S w ->
  jW P md an Q S t fuel (listed.setIfInBounds i true) (a.put oi.dst v) w->jW P md an Q S t (fuel+1) listed a w:=by
 intro fuel
 induction fuel with
 | zero =>
  intro listed a w _ _ hr hy hS H;refine ⟨fun h=>(by rw [h] at hr;cases hr),fun j hj => ?_⟩;by_cases gw:j=i
  .subst gw;exact hy.wpOp hi hS ⟨fun _=>hS,H⟩
  .have hm:=ready_mono hj gw;rw [H.1] at hm;cases hm
 | succ fuel ih =>
  intro listed a w hc tZ hr hy hS H;refine ⟨fun h=>(by rw [h] at hr;cases hr),fun j hj => ?_⟩;by_cases gw:j=i
  .subst gw;exact hy.wpOp hi hS ⟨fun _=>hS,H⟩
  .have h1:=H.2 j (ready_mono hj gw);obtain ⟨wb,oj,nj,eY⟩:=mem_ready.1 hj;have np:=Y7 hr;have Bl:∀e∈oj.after,Region.binds md e=true->e.on≠i:=fun e he hb we=>by
    have g1:=eY e he hb;rw [we,np] at g1;cases g1
   have Bm:j≠t:=by
    rintro rfl;have:=a5O hc hwt oS hj;rw [np] at this;cases this
   have htu:listed.getD t false=false:=by
    rcases hb:listed.getD t false with _ | _
    .rfl
    .have:=PA hc n t i hwt hb;rw [np] at this;cases this
   have a1p:((listed.setIfInBounds i true).setIfInBounds j true).getD t false=false:=by
    rw [getD_set_ne false Bm,getD_set_ne false (Ne.symm oS)];exact htu
   have h2:=wpOp_putIf nj (tZ j oj nj gw wb Bl) (fun cs b=>wa i oi cs b hi) (fun cs b=>wa j oj cs b nj) hQ hy h1;have Dc:∀k ok,an[k]? = some ok->k≠i->(listed.setIfInBounds j true).getD k true=false ->
    (∀e∈ok.after,Region.binds md e=true->e.on≠i)->oi.apart an ok=true:=fun k ok hk Bn np eG=>by
    refine tZ k ok hk Bn ?_ eG;by_cases pZ:j=k
    .subst pZ;exact wb
    .rw [getD_set_ne true pZ] at np;exact np
   refine wpOp_mono (fun a' w' h3=>⟨fun _=>h3.2.1 a1p,ih (listed.setIfInBounds j true) a' w' (YC hc hj) Dc (ready_mono hr (Ne.symm gw)) h3.1 (h3.2.1 a1p) ?_⟩) h2;rw [Array.setIfInBounds_comm _ _ gw];exact h3.2.2
theorem a8Z {i n:Nat} {oi:Oper} {v:Value} {fuel:Nat} {listed:Array Bool} {a:Act} {w:World} (hi:an[i]? = some oi)
 (hs:Region.noSelect an=true) (hwt:(IF md an listed&&reaches md an n t i&&t != i)=true) (hf:Region.free md an listed i=true) (hr:(Region.ready md an listed).contains i=true)
 (hQ:∀c a w,Q (.panic c) (a.put oi.dst v) w->Q (.panic c) a w) (hy:YieldsIf P an S oi v a) (hS:S w)
 (h:jW P md an Q S t fuel (listed.setIfInBounds i true) (a.put oi.dst v) w):jW P md an Q S t (fuel+1) listed a w:=by
 obtain ⟨RS,h3⟩:=(Bool.and_eq_true _ _).mp hwt;obtain ⟨h1,h2⟩:=(Bool.and_eq_true _ _).mp RS;exact a9T hi (Region.noSelect_spec hs) hQ h2 (by simpa using h3) fuel listed a w (fun j oj hj hl=>a1g h1 hj hl) (Region.free_spec hi hf) (by simpa using hr) hy hS h
theorem YT {i:Nat} {oi:Oper} {v:Value} (hi:an[i]? = some oi) (wa:∀ (j:Nat) (o:Oper) cs b,an[j]? = some o->o.op ≠ .select cs b)
 (hQ:∀c a w,Q (.panic c) (a.put oi.dst v) w->Q (.panic c) a w) (oS:t≠i) :
 ∀ (fuel:Nat) (listed:Array Bool) (a:Act) (w:World),
  (∀j oj,an[j]? = some oj->j≠i->listed.getD j true=false->(∀e∈oj.after,Region.binds md e=true->e.on≠i)->oi.apart an oj=true) ->
  i∈Region.ready md an listed->YieldsIf P an (fun _=>True) oi v a->(listed.getD t false=false->S w) ->
  jW P md an Q S t fuel (listed.setIfInBounds i true) (a.put oi.dst v) w->jW P md an Q S t (fuel+1) listed a w:=by
 intro fuel
 induction fuel with
 | zero =>
  intro listed a w _ hr hy hS H;refine ⟨fun h=>(by rw [h] at hr;cases hr),fun j hj => ?_⟩;by_cases gw:j=i
  .subst gw;exact hy.wpOp hi trivial ⟨fun h=>hS (by rw [getD_set_ne false (Ne.symm oS)] at h;exact h),H⟩
  .have hm:=ready_mono hj gw;rw [H.1] at hm;cases hm
 | succ fuel ih =>
  intro listed a w tZ hr hy hS H;refine ⟨fun h=>(by rw [h] at hr;cases hr),fun j hj => ?_⟩;by_cases gw:j=i
  .subst gw;exact hy.wpOp hi trivial ⟨fun h=>hS (by rw [getD_set_ne false (Ne.symm oS)] at h;exact h),H⟩
  .have h1:=H.2 j (ready_mono hj gw);obtain ⟨wb,oj,nj,eY⟩:=mem_ready.1 hj;have np:=Y7 hr;have Bl:∀e∈oj.after,Region.binds md e=true->e.on≠i:=fun e he hb we=>by
    have g1:=eY e he hb;rw [we,np] at g1;cases g1
   have h2:=wpOp_putIf nj (tZ j oj nj gw wb Bl) (fun cs b=>wa i oi cs b hi) (fun cs b=>wa j oj cs b nj) hQ hy h1;have Dc:∀k ok,an[k]? = some ok->k≠i->(listed.setIfInBounds j true).getD k true=false ->
    (∀e∈ok.after,Region.binds md e=true->e.on≠i)->oi.apart an ok=true:=fun k ok hk Bn np eG=>by
    refine tZ k ok hk Bn ?_ eG;by_cases pZ:j=k
    .subst pZ;exact wb
    .rw [getD_set_ne true pZ] at np;exact np
   have fj:∀x:Array Bool,((listed.setIfInBounds i true).setIfInBounds j true).getD t false=((listed.setIfInBounds j true)).getD t false:=fun _=>by
    rw [Array.setIfInBounds_comm _ _ (Ne.symm gw),getD_set_ne false (Ne.symm oS)]
   refine wpOp_mono (fun a' w' h3=>⟨fun h=>h3.2.1 ((fj listed).trans h),ih (listed.setIfInBounds j true) a' w' Dc (ready_mono hr (Ne.symm gw)) h3.1 (fun h=>h3.2.1 ((fj listed).trans h)) ?_⟩) h2;rw [Array.setIfInBounds_comm _ _ gw];exact h3.2.2
theorem aa' {i:Nat} {oi:Oper} {v:Value} {fuel:Nat} {listed:Array Bool} {a:Act} {w:World} (hi:an[i]? = some oi)
 (hs:Region.noSelect an=true) (oS:(t != i)=true) (hf:Region.free md an listed i=true) (hr:(Region.ready md an listed).contains i=true)
 (hQ:∀c a w,Q (.panic c) (a.put oi.dst v) w->Q (.panic c) a w) (hy:YieldsIf P an (fun _=>True) oi v a) (hS:S w)
 (h:jW P md an Q S t fuel (listed.setIfInBounds i true) (a.put oi.dst v) w):jW P md an Q S t (fuel+1) listed a w :=
 YT hi (Region.noSelect_spec hs) hQ (by simpa using oS) fuel listed a w (Region.free_spec hi hf) (by simpa using hr) hy (fun _=>hS) h
theorem abe {i:Nat} {o:Oper} {fuel:Nat} {listed:Array Bool} {a:Act} {w:World} (hr:Region.ready md an listed=[i]) (ho:an[i]? = some o) (zk:i≠t)
 (h:∀K':Act->World->Prop,Shut (∀a w,S w->(S w->jW P md an Q S t fuel (listed.setIfInBounds i true) a w)->K' a w)->if Region.wanted o (yielded an a.tmps)=true then Oper.wp P o a w K' Q else K' (a.put o.dst undef) w) :
 jW P md an Q S t (fuel+1) listed a w:=by
 refine ⟨fun h0=>(by rw [hr] at h0;cases h0),fun j hj => ?_⟩;rw [hr] at hj;obtain rfl:j=i:=by simpa using hj
 exact wpOp_step ho (fun K' hK=>h K' (fun a w hS hW=>hK a w ⟨fun _=>hS,hW hS⟩))
theorem Rq {o:Oper} {fuel:Nat} {listed:Array Bool} {a:Act} {w:World} (hr:Region.ready md an listed=[t]) (ho:an[t]? = some o) (xU:Region.ready md an (listed.setIfInBounds t true)=[]/\(listed.setIfInBounds t true).getD t false=true)
 (h:∀K':Act->World->Prop,Shut (∀a w,Q .normal a w->K' a w)->if Region.wanted o (yielded an a.tmps)=true then Oper.wp P o a w K' Q else K' (a.put o.dst undef) w) :
 jW P md an Q S t (fuel+1) listed a w:=by
 refine ⟨fun h0=>(by rw [hr] at h0;cases h0),fun j hj => ?_⟩;rw [hr] at hj;obtain rfl:j=t:=by simpa using hj
 refine wpOp_step ho (fun K' hK=>h K' (fun a w hq=>hK a w ⟨fun hn=>(by rw [xU.2] at hn;cases hn),?_⟩));cases fuel with
 | zero=>exact ⟨xU.1,hq⟩
 | succ fuel=>exact ⟨fun _=>hq,by rw [xU.1];simp⟩
theorem Y8 {o:Oper} {fuel:Nat} {listed:Array Bool} {a:Act} {w:World} (hr:Region.ready md an listed=[t]) (ho:an[t]? = some o) (xU:(listed.setIfInBounds t true).getD t false=true)
 (h:∀K':Act->World->Prop,Shut (∀a w,jW P md an Q S t fuel (listed.setIfInBounds t true) a w->K' a w)->if Region.wanted o (yielded an a.tmps)=true then Oper.wp P o a w K' Q else K' (a.put o.dst undef) w) :
 jW P md an Q S t (fuel+1) listed a w:=by
 refine ⟨fun h0=>(by rw [hr] at h0;cases h0),fun j hj => ?_⟩;rw [hr] at hj;obtain rfl:j=t:=by simpa using hj
 exact wpOp_step ho (fun K' hK=>h K' (fun a w hq=>hK a w ⟨fun hn=>(by rw [xU] at hn;cases hn),hq⟩))
theorem aaD {i:Nat} {oi:Oper} {v:Value} {fuel:Nat} {listed:Array Bool} {a:Act} {w:World} (hi:an[i]? = some oi)
 (hs:Region.noSelect an=true) (oS:(t != i&&listed.getD t false)=true) (hf:Region.free md an listed i=true) (hr:(Region.ready md an listed).contains i=true)
 (hQ:∀c a w,Q (.panic c) (a.put oi.dst v) w->Q (.panic c) a w) (hy:YieldsIf P an (fun _=>True) oi v a)
 (h:jW P md an Q S t fuel (listed.setIfInBounds i true) (a.put oi.dst v) w):jW P md an Q S t (fuel+1) listed a w:=by
 obtain ⟨h1,h2⟩:=(Bool.and_eq_true _ _).mp oS;exact YT hi (Region.noSelect_spec hs) hQ (by simpa using h1) fuel listed a w (Region.free_spec hi hf) (by simpa using hr) hy (fun hh=>by rw [h2] at hh;cases hh) h
theorem Z0 {listed:Array Bool} {a:Act} {w:World} (hr:Region.ready md an listed=[]) (h:Q .normal a w) :
 ∀fuel,jW P md an Q S t fuel listed a w
 | 0=>⟨hr,h⟩
 | _+1=>⟨fun _=>h,by rw [hr];simp⟩
theorem IX {id:Nat} {a:Act} {w:World} (hm:P.follows .mixedOrders=true) (hS:S w.drew)
 (h:S w.drew->jW P .any an Q S t an.size (Array.replicate an.size false) a w.drew):(Code.region id an true).wp P Q a w :=
 wp_region_any hm (YS _ _ _ _ (h hS))
end
section
variable {P:Program} {an:Array Oper} {Q:Exit->Act->World->Prop} {md:Region.Mode} {S:World->Prop} {t:Nat}
theorem tk (i:Nat) {oi:Oper} {v:Value} {fuel:Nat} {listed l':Array Bool} {a a':Act} {w:World} (hS:S w) (h:hZ P md an Q S t fuel l' a' w)
 (hi:an[i]? = some oi:=by (simp only [getElem?_toArray,getElem?_cons_succ,getElem?_cons_zero];exact rfl))
 (hs:Region.noSelect an=true:=by kernel_rfl) (hwt:(decide (an.size<=t)||Region.waitsFor md an t i)=true:=by kernel_rfl) (hf:Region.free md an listed i=true:=by kernel_rfl) (hr:(Region.ready md an listed).contains i=true:=by kernel_rfl)
 (hQ:∀c a w,Q (.panic c) (a.put oi.dst v) w->Q (.panic c) a w:=by exact fun _ _ _ h=>h)
 (hy:YieldsIf P an S oi v a:=by (refine Or.inl ⟨by rfl,?_⟩;intro w dq;(try dsimp only at dq);(try dsimp only [cA,oQ] at dq);(try dsimp only [cF,kF] at dq);(try dsimp only [cC,nV,cN,jU] at dq);go_simp;try exact rfl))
 (hl:listed.setIfInBounds i true=l':=by first | (simp only [setIfInBounds_toArray,set_cons_zero,set_cons_succ];exact rfl) | exact rfl)
 (ha:a.put oi.dst v=a':=by first | (simp only [Act.put,setIfInBounds_toArray,set_cons_zero,set_cons_succ];exact rfl) | exact rfl):hZ P md an Q S t (fuel+1) listed a w:=by
 subst hl ha;exact vO hi hs hwt hf hr hQ hy hS h
theorem sk (i:Nat) {oi:Oper} {fuel:Nat} {listed l':Array Bool} {a a':Act} {w:World} (hS:S w) (h:hZ P md an Q S t fuel l' a' w)
 (hi:an[i]? = some oi:=by (simp only [getElem?_toArray,getElem?_cons_succ,getElem?_cons_zero];exact rfl))
 (hs:Region.noSelect an=true:=by kernel_rfl) (hwt:(decide (an.size<=t)||Region.waitsFor md an t i)=true:=by kernel_rfl) (hf:Region.free md an listed i=true:=by kernel_rfl) (hr:(Region.ready md an listed).contains i=true:=by kernel_rfl)
 (hQ:∀c a w,Q (.panic c) (a.put oi.dst undef) w->Q (.panic c) a w:=by exact fun _ _ _ h=>h)
 (hy:YieldsIf P an S oi undef a:=by exact Or.inr ⟨by rfl,rfl⟩)
 (hl:listed.setIfInBounds i true=l':=by first | (simp only [setIfInBounds_toArray,set_cons_zero,set_cons_succ];exact rfl) | exact rfl)
 (ha:a.put oi.dst undef=a':=by first | (simp only [Act.put,setIfInBounds_toArray,set_cons_zero,set_cons_succ];exact rfl) | exact rfl):hZ P md an Q S t (fuel+1) listed a w:=by
 subst hl ha;exact vO hi hs hwt hf hr hQ hy hS h
theorem tu (i:Nat) {oi:Oper} {v:Value} {fuel:Nat} {listed l':Array Bool} {a a':Act} {w:World} (hS:S w) (h:jW P md an Q S t fuel l' a' w)
 (hi:an[i]? = some oi:=by (simp only [getElem?_toArray,getElem?_cons_succ,getElem?_cons_zero];exact rfl))
 (hs:Region.noSelect an=true:=by kernel_rfl) (hwt:(IF md an listed&&reaches md an 12 t i&&t != i)=true:=by kernel_rfl) (hf:Region.free md an listed i=true:=by kernel_rfl) (hr:(Region.ready md an listed).contains i=true:=by kernel_rfl)
 (hQ:∀c a w,Q (.panic c) (a.put oi.dst v) w->Q (.panic c) a w:=by exact fun _ _ _ h=>h)
 (hy:YieldsIf P an S oi v a:=by (refine Or.inl ⟨by rfl,?_⟩;intro w dq;(try dsimp only at dq);(try dsimp only [cA,oQ] at dq);(try dsimp only [cF,kF] at dq);(try dsimp only [cC,nV,cN,jU] at dq);go_simp;try exact rfl))
 (hl:listed.setIfInBounds i true=l':=by first | (simp only [setIfInBounds_toArray,set_cons_zero,set_cons_succ];exact rfl) | exact rfl)
 (ha:a.put oi.dst v=a':=by first | (simp only [Act.put,setIfInBounds_toArray,set_cons_zero,set_cons_succ];exact rfl) | exact rfl):jW P md an Q S t (fuel+1) listed a w:=by
 subst hl ha;exact a8Z hi hs hwt hf hr hQ hy hS h
theorem tB (i j:Nat) {oi:Oper} {oj:Oper} {vi:Value} {vj:Value} {fuel:Nat} {listed l1 l2:Array Bool} {a a1 a2:Act} {w:World} (hS:S w) (h:hZ P md an Q S t fuel l2 a2 w)
 (FK:an[i]? = some oi:=by (simp only [getElem?_toArray,getElem?_cons_succ,getElem?_cons_zero];exact rfl)) (Jf:Region.noSelect an=true:=by kernel_rfl) (Jg:(decide (an.size<=t)||Region.waitsFor md an t i)=true:=by kernel_rfl) (Jh:Region.free md an listed i=true:=by kernel_rfl) (Ji:(Region.ready md an listed).contains i=true:=by kernel_rfl)
 (Jj:∀c a w,Q (.panic c) (a.put oi.dst vi) w->Q (.panic c) a w:=by exact fun _ _ _ h=>h)
 (Jk:YieldsIf P an S oi vi a:=by (refine Or.inl ⟨by rfl,?_⟩;intro w dq;(try dsimp only at dq);(try dsimp only [cA,oQ] at dq);(try dsimp only [cF,kF] at dq);(try dsimp only [cC,nV,cN,jU] at dq);go_simp;try exact rfl))
 (FM:listed.setIfInBounds i true=l1:=by first|(simp only [setIfInBounds_toArray,set_cons_zero,set_cons_succ];exact rfl)|exact rfl)
 (Jl:a.put oi.dst vi=a1:=by first|(simp only [Act.put,setIfInBounds_toArray,set_cons_zero,set_cons_succ];exact rfl)|exact rfl)
 (hij:an[j]? = some oj:=by (simp only [getElem?_toArray,getElem?_cons_succ,getElem?_cons_zero];exact rfl)) (Jm:Region.noSelect an=true:=by kernel_rfl) (Jn:(decide (an.size<=t)||Region.waitsFor md an t j)=true:=by kernel_rfl) (Jo:Region.free md an l1 j=true:=by kernel_rfl) (De:(Region.ready md an l1).contains j=true:=by kernel_rfl)
 (Jp:∀c a w,Q (.panic c) (a.put oj.dst vj) w->Q (.panic c) a w:=by exact fun _ _ _ h=>h)
 (Jq:YieldsIf P an S oj vj a1:=by (refine Or.inl ⟨by rfl,?_⟩;intro w dq;(try dsimp only at dq);(try dsimp only [cA,oQ] at dq);(try dsimp only [cF,kF] at dq);(try dsimp only [cC,nV,cN,jU] at dq);go_simp;try exact rfl))
 (Jr:l1.setIfInBounds j true=l2:=by first|(simp only [setIfInBounds_toArray,set_cons_zero,set_cons_succ];exact rfl)|exact rfl)
 (Js:a1.put oj.dst vj=a2:=by first|(simp only [Act.put,setIfInBounds_toArray,set_cons_zero,set_cons_succ];exact rfl)|exact rfl):hZ P md an Q S t (fuel+2) listed a w:=by
 subst FM Jl Jr Js;exact vO FK Jf Jg Jh Ji Jj Jk hS (vO hij Jm Jn Jo De Jp Jq hS h)
theorem mX (i j k:Nat) {oi:Oper} {oj:Oper} {ok:Oper} {vi:Value} {vj:Value} {vk:Value} {fuel:Nat} {listed l1 l2 l3:Array Bool} {a a1 a2 a3:Act} {w:World} (hS:S w) (h:hZ P md an Q S t fuel l3 a3 w)
 (FK:an[i]? = some oi:=by (simp only [getElem?_toArray,getElem?_cons_succ,getElem?_cons_zero];exact rfl)) (Jf:Region.noSelect an=true:=by kernel_rfl) (Jg:(decide (an.size<=t)||Region.waitsFor md an t i)=true:=by kernel_rfl) (Jh:Region.free md an listed i=true:=by kernel_rfl) (Ji:(Region.ready md an listed).contains i=true:=by kernel_rfl)
 (Jj:∀c a w,Q (.panic c) (a.put oi.dst vi) w->Q (.panic c) a w:=by exact fun _ _ _ h=>h)
 (Jk:YieldsIf P an S oi vi a:=by (refine Or.inl ⟨by rfl,?_⟩;intro w dq;(try dsimp only at dq);(try dsimp only [cA,oQ] at dq);(try dsimp only [cF,kF] at dq);(try dsimp only [cC,nV,cN,jU] at dq);go_simp;try exact rfl))
 (FM:listed.setIfInBounds i true=l1:=by first|(simp only [setIfInBounds_toArray,set_cons_zero,set_cons_succ];exact rfl)|exact rfl)
 (Jl:a.put oi.dst vi=a1:=by first|(simp only [Act.put,setIfInBounds_toArray,set_cons_zero,set_cons_succ];exact rfl)|exact rfl)
 (hij:an[j]? = some oj:=by (simp only [getElem?_toArray,getElem?_cons_succ,getElem?_cons_zero];exact rfl)) (Jm:Region.noSelect an=true:=by kernel_rfl) (Jn:(decide (an.size<=t)||Region.waitsFor md an t j)=true:=by kernel_rfl) (Jo:Region.free md an l1 j=true:=by kernel_rfl) (De:(Region.ready md an l1).contains j=true:=by kernel_rfl)
 (Jp:∀c a w,Q (.panic c) (a.put oj.dst vj) w->Q (.panic c) a w:=by exact fun _ _ _ h=>h)
 (Jq:YieldsIf P an S oj vj a1:=by (refine Or.inl ⟨by rfl,?_⟩;intro w dq;(try dsimp only at dq);(try dsimp only [cA,oQ] at dq);(try dsimp only [cF,kF] at dq);(try dsimp only [cC,nV,cN,jU] at dq);go_simp;try exact rfl))
 (Jr:l1.setIfInBounds j true=l2:=by first|(simp only [setIfInBounds_toArray,set_cons_zero,set_cons_succ];exact rfl)|exact rfl)
 (Js:a1.put oj.dst vj=a2:=by first|(simp only [Act.put,setIfInBounds_toArray,set_cons_zero,set_cons_succ];exact rfl)|exact rfl)
 (oR:an[k]? = some ok:=by (simp only [getElem?_toArray,getElem?_cons_succ,getElem?_cons_zero];exact rfl)) (wh:Region.noSelect an=true:=by kernel_rfl) (Df:(decide (an.size<=t)||Region.waitsFor md an t k)=true:=by kernel_rfl) (FN:Region.free md an l2 k=true:=by kernel_rfl) (ua:(Region.ready md an l2).contains k=true:=by kernel_rfl)
 (S1:∀c a w,Q (.panic c) (a.put ok.dst vk) w->Q (.panic c) a w:=by exact fun _ _ _ h=>h)
 (lC:YieldsIf P an S ok vk a2:=by (refine Or.inl ⟨by rfl,?_⟩;intro w dq;(try dsimp only at dq);(try dsimp only [cA,oQ] at dq);(try dsimp only [cF,kF] at dq);(try dsimp only [cC,nV,cN,jU] at dq);go_simp;try exact rfl))
 (ko:l2.setIfInBounds k true=l3:=by first|(simp only [setIfInBounds_toArray,set_cons_zero,set_cons_succ];exact rfl)|exact rfl)
 (FO:a2.put ok.dst vk=a3:=by first|(simp only [Act.put,setIfInBounds_toArray,set_cons_zero,set_cons_succ];exact rfl)|exact rfl):hZ P md an Q S t (fuel+3) listed a w:=by
 subst FM Jl Jr Js ko FO;exact vO FK Jf Jg Jh Ji Jj Jk hS (vO hij Jm Jn Jo De Jp Jq hS (vO oR wh Df FN ua S1 lC hS h))
theorem tD (i j k l:Nat) {oi:Oper} {oj:Oper} {ok:Oper} {ol:Oper} {vi:Value} {vj:Value} {vk:Value} {vl:Value} {fuel:Nat} {listed l1 l2 l3 l4:Array Bool} {a a1 a2 a3 a4:Act} {w:World} (hS:S w) (h:hZ P md an Q S t fuel l4 a4 w)
 (FK:an[i]? = some oi:=by (simp only [getElem?_toArray,getElem?_cons_succ,getElem?_cons_zero];exact rfl)) (Jf:Region.noSelect an=true:=by kernel_rfl) (Jg:(decide (an.size<=t)||Region.waitsFor md an t i)=true:=by kernel_rfl) (Jh:Region.free md an listed i=true:=by kernel_rfl) (Ji:(Region.ready md an listed).contains i=true:=by kernel_rfl)
 (Jj:∀c a w,Q (.panic c) (a.put oi.dst vi) w->Q (.panic c) a w:=by exact fun _ _ _ h=>h)
 (Jk:YieldsIf P an S oi vi a:=by (refine Or.inl ⟨by rfl,?_⟩;intro w dq;(try dsimp only at dq);(try dsimp only [cA,oQ] at dq);(try dsimp only [cF,kF] at dq);(try dsimp only [cC,nV,cN,jU] at dq);go_simp;try exact rfl))
 (FM:listed.setIfInBounds i true=l1:=by first|(simp only [setIfInBounds_toArray,set_cons_zero,set_cons_succ];exact rfl)|exact rfl)
 (Jl:a.put oi.dst vi=a1:=by first|(simp only [Act.put,setIfInBounds_toArray,set_cons_zero,set_cons_succ];exact rfl)|exact rfl)
 (hij:an[j]? = some oj:=by (simp only [getElem?_toArray,getElem?_cons_succ,getElem?_cons_zero];exact rfl)) (Jm:Region.noSelect an=true:=by kernel_rfl) (Jn:(decide (an.size<=t)||Region.waitsFor md an t j)=true:=by kernel_rfl) (Jo:Region.free md an l1 j=true:=by kernel_rfl) (De:(Region.ready md an l1).contains j=true:=by kernel_rfl)
 (Jp:∀c a w,Q (.panic c) (a.put oj.dst vj) w->Q (.panic c) a w:=by exact fun _ _ _ h=>h)
 (Jq:YieldsIf P an S oj vj a1:=by (refine Or.inl ⟨by rfl,?_⟩;intro w dq;(try dsimp only at dq);(try dsimp only [cA,oQ] at dq);(try dsimp only [cF,kF] at dq);(try dsimp only [cC,nV,cN,jU] at dq);go_simp;try exact rfl))
 (Jr:l1.setIfInBounds j true=l2:=by first|(simp only [setIfInBounds_toArray,set_cons_zero,set_cons_succ];exact rfl)|exact rfl)
 (Js:a1.put oj.dst vj=a2:=by first|(simp only [Act.put,setIfInBounds_toArray,set_cons_zero,set_cons_succ];exact rfl)|exact rfl)
 (oR:an[k]? = some ok:=by (simp only [getElem?_toArray,getElem?_cons_succ,getElem?_cons_zero];exact rfl)) (wh:Region.noSelect an=true:=by kernel_rfl) (Df:(decide (an.size<=t)||Region.waitsFor md an t k)=true:=by kernel_rfl) (FN:Region.free md an l2 k=true:=by kernel_rfl) (ua:(Region.ready md an l2).contains k=true:=by kernel_rfl)
 (S1:∀c a w,Q (.panic c) (a.put ok.dst vk) w->Q (.panic c) a w:=by exact fun _ _ _ h=>h)
 (lC:YieldsIf P an S ok vk a2:=by (refine Or.inl ⟨by rfl,?_⟩;intro w dq;(try dsimp only at dq);(try dsimp only [cA,oQ] at dq);(try dsimp only [cF,kF] at dq);(try dsimp only [cC,nV,cN,jU] at dq);go_simp;try exact rfl))
 (ko:l2.setIfInBounds k true=l3:=by first|(simp only [setIfInBounds_toArray,set_cons_zero,set_cons_succ];exact rfl)|exact rfl)
 (FO:a2.put ok.dst vk=a3:=by first|(simp only [Act.put,setIfInBounds_toArray,set_cons_zero,set_cons_succ];exact rfl)|exact rfl)
 (lv:an[l]? = some ol:=by (simp only [getElem?_toArray,getElem?_cons_succ,getElem?_cons_zero];exact rfl)) (qb:Region.noSelect an=true:=by kernel_rfl) (hwl:(decide (an.size<=t)||Region.waitsFor md an t l)=true:=by kernel_rfl) (oV:Region.free md an l3 l=true:=by kernel_rfl) (nw:(Region.ready md an l3).contains l=true:=by kernel_rfl)
 (hQl:∀c a w,Q (.panic c) (a.put ol.dst vl) w->Q (.panic c) a w:=by exact fun _ _ _ h=>h)
 (rP:YieldsIf P an S ol vl a3:=by (refine Or.inl ⟨by rfl,?_⟩;intro w dq;(try dsimp only at dq);(try dsimp only [cA,oQ] at dq);(try dsimp only [cF,kF] at dq);(try dsimp only [cC,nV,cN,jU] at dq);go_simp;try exact rfl))
 (dR:l3.setIfInBounds l true=l4:=by first|(simp only [setIfInBounds_toArray,set_cons_zero,set_cons_succ];exact rfl)|exact rfl)
 (qT:a3.put ol.dst vl=a4:=by first|(simp only [Act.put,setIfInBounds_toArray,set_cons_zero,set_cons_succ];exact rfl)|exact rfl):hZ P md an Q S t (fuel+4) listed a w:=by
 subst FM Jl Jr Js ko FO dR qT;exact vO FK Jf Jg Jh Ji Jj Jk hS (vO hij Jm Jn Jo De Jp Jq hS (vO oR wh Df FN ua S1 lC hS (vO lv qb hwl oV nw hQl rP hS h)))
theorem oT (i:Nat) {o:Oper} {fuel:Nat} {listed l':Array Bool} {a:Act} {w:World}
 (h:∀K':Act->World->Prop,Shut (∀a w,S w->(S w->hZ P md an Q S t fuel l' a w)->K' a w)->if Region.wanted o (yielded an a.tmps)=true then Oper.wp P o a w K' Q else K' (a.put o.dst undef) w)
 (ho:an[i]? = some o:=by (simp only [getElem?_toArray,getElem?_cons_succ,getElem?_cons_zero];exact rfl)) (hr:Region.ready md an listed=[i]:=by kernel_rfl) (zk:i≠t:=by decide)
 (hl:listed.setIfInBounds i true=l':=by first | (simp only [setIfInBounds_toArray,set_cons_zero,set_cons_succ];exact rfl) | exact rfl):hZ P md an Q S t (fuel+1) listed a w:=by
 subst hl;exact a5v hr ho zk h
theorem oU (i:Nat) {o:Oper} {fuel:Nat} {listed l':Array Bool} {a:Act} {w:World}
 (h:∀K':Act->World->Prop,Shut (∀a w,S w->(S w->jW P md an Q S t fuel l' a w)->K' a w)->if Region.wanted o (yielded an a.tmps)=true then Oper.wp P o a w K' Q else K' (a.put o.dst undef) w)
 (ho:an[i]? = some o:=by (simp only [getElem?_toArray,getElem?_cons_succ,getElem?_cons_zero];exact rfl)) (hr:Region.ready md an listed=[i]:=by kernel_rfl) (zk:i≠t:=by decide)
 (hl:listed.setIfInBounds i true=l':=by first | (simp only [setIfInBounds_toArray,set_cons_zero,set_cons_succ];exact rfl) | exact rfl):jW P md an Q S t (fuel+1) listed a w:=by
 subst hl;exact abe hr ho zk h
theorem oK {K W:Act->World->Prop} (hK:Shut (∀a w,S w->(S w->W a w)->K a w)) {a a':Act} {w:World} (hS:S w) (h:S w->W a' w) (ha:a=a':=by first | (simp only [Act.put,setIfInBounds_toArray,set_cons_zero,set_cons_succ];exact rfl) | exact rfl):K a w:=by
 subst ha;exact hK.out _ _ hS h
end
end Go.Proofs.YtjopcamkclndlaaGreat.Base
namespace Go.Proofs.YtjopcamkclndlaaGreat.Tc
open List Go.RowKit Base
theorem vV:(Tryz.prog.info? 3).map (fun i=>(i.zero,i.size,i.bytes))=some (some (.int .i64 0),1,8):=by kernel_rfl
def aP (l:LN):LV:=l.map fun (k:Nat) => .int .i64 (k:Int)
theorem CG (l:LN) (k:Nat):aP (l++[k])=aP l++[.int .i64 (k:Int)]:=by unfold aP;simp
theorem ke (l:LN):(aP l).length=l.length:=by unfold aP;simp
theorem nX {w:World} {base a1q:Nat} {e:TypeId} {size:Nat} {v:Value} {n:Nat} {xs:LV} (h:w.ownsRow base e size v n xs) (hb:a1q<=base):w.ownsRow a1q e size v n xs:=by
 obtain ⟨h1,h2⟩:=h;refine ⟨h1,?_⟩;rcases h2 with h2 | ⟨g,cap,cur,r1,r2,r3⟩
 .exact .inl h2
 .exact .inr ⟨g,cap,cur,r1,by omega,r3⟩
theorem gL (w:World) (base:Nat) (e:TypeId) (size:Nat):w.ownsRow base e size (.slice none 0 0) 0 []:=⟨by simp,.inl ⟨rfl,rfl⟩⟩
theorem eV {w w':World} {base:Nat} {e:TypeId} {size:Nat} {v:Value} {n:Nat} {xs:LV} (h:w.ownsRow base e size v n xs) (hb:Below w.heap.size w w'):w'.ownsRow base e size v n xs:=by
 obtain ⟨h1,h2⟩:=h;refine ⟨h1,?_⟩;rcases h2 with h2 | ⟨g,cap,cur,r1,r2,r3,r4⟩
 .exact .inl h2
 .have ae:g<w.heap.size:=by
   rcases Nat.lt_or_ge g w.heap.size with hh | hh
   .exact hh
   .rw [Array.getElem?_eq_none hh] at r3;cases r3
  exact .inr ⟨g,cap,cur,r1,r2,(hb.block g ae).trans r3,r4⟩
def LO (s:aW) (r:Rw) (w:World) (e:Ending) (w':World):Prop:=∃ (v:Value) (n:Int),e = .returned (.tuple #[v,.int .i64 n])/\(n=0->∃keys,ju s r keys/\w'.ownsRow w.heap.size 3 1 v keys.length (aP keys))/\((∃keys,ju s r keys)->n=0)/\Below w.heap.size w w'
abbrev kK (r:Rw):AV:=#[.slice r.A r.aQ.length r.c,.slice r.Av r.dP.length r.cv]
def ER (s:aW) (r:Rw) (k:Nat) (keys:LN):Prop:=keys.length=k/\∀ (i:Nat) (d:cR) (t:ByteArray) (q:Nat),i<k->s.ak[i]? = some d->r.aQ[i]? = some t->keys[i]? = some q->(fin d)[q]? = some t
theorem ER.next {s:aW} {r:Rw} {k:Nat} {keys:LN} (h:ER s r k keys) {q:Nat} {d:cR} {t:ByteArray} (hd:s.ak[k]? = some d) (ht:r.aQ[k]? = some t) (hq:(fin d)[q]? = some t):ER s r (k+1) (keys++[q]):=by
 refine ⟨by rw [aS,h.1];rfl,fun i d' t' q' hi o8 lY wi => ?_⟩;by_cases e:i=k
 .subst e;rw [hd] at o8;rw [ht] at lY;injection o8 with o8
  injection lY with lY
  rw [getElem?_append_right (by rw [h.1];exact ah _),h.1] at wi;simp at wi;rw [<-o8,<-lY,<-wi];exact hq
 .rw [getElem?_append_left (by rw [h.1];omega)] at wi;exact h.2 i d' t' q' (by omega) o8 lY wi
theorem a00 (s:aW) (r:Rw) (w:World) (h:gW w w.heap.size s) (hr:vH w w.heap.size r) (ho:dO s):Calls Tryz.prog 20 #[.agg (cj s),.agg (kK r)] w (LO s r w):=by
 have ub:=kp (show ∀ (n:Int) w',n≠0->(∀keys,¬ju s r keys)->Below w.heap.size w w'->LO s r w (.returned (.tuple #[.slice none 0 0,.int .i64 n])) w' from fun n w' hn hk hb=>⟨_,n,rfl,fun e=>absurd e hn,fun ⟨keys,h⟩=>absurd h (hk keys),hb⟩);have gQ:=kp (show ∀v keys w',ju s r keys->w'.ownsRow w.heap.size 3 1 v keys.length (aP keys)->Below w.heap.size w w'->LO s r w (.returned (.tuple #[v,.int .i64 0])) w' from fun v keys w' h1 h2 hb=>⟨v,0,rfl,fun _=>⟨keys,h1,h2⟩,fun _=>rfl,hb⟩);have ax:=(aq w.heap.size w).alloc (ah _) (.cells (cj s) 25);have au:=ax.alloc ax.size (.cells (kK r) 60);have ay:=kp au;have aV:=kp ((aa.new w 25 (cj s)).alloc (.cells (kK r) 60));have bM:=kp (aa.lay (w:=w.alloc (.cells (cj s) 25)) (g:=w.heap.size+1) (t:=60) (cs:=kK r) (by simp));have H0:=kp ((h.below au).more au.size);have ib:=kp ((hr.below au).more au.size);have qe:=kp (show ((w.alloc (.cells (cj s) 25)).alloc (.cells (kK r) 60)).heap.size=w.heap.size+2 by simp);have hn:=h.n;have ma:=h.nm;have wo:=hr.n;have S3:=hr.nv;have Ho:=kp ho;have S4:=kp a9M;obtain ⟨i0,cG,cI,cH,cJ⟩:=info_parts vV;unfold maxLen at hn ma wo S3;clear h hr ho au ax;generalize hQ:LO s r w=Q at *;clear hQ;unfold cj kK at *;go_enter Tryz.func20,Tryz.ntmps20;by_cases Nl:r.aQ.length=s.ak.length
 .by_cases Nn:r.dP.length=s.aU.length
  .have nz:=kp (And.intro Nl Nn);have e1:((r.aQ.length:Int) != (s.ak.length:Int))=false:=by simp;omega
   have e2:((r.dP.length:Int) != (s.aU.length:Int))=false:=by simp;omega
   have ac1:r.aQ.length<=s.ak.length:=by omega
   clear Nl Nn;go_wp2_with fail;clear e1 e2;generalize (w.alloc (.cells #[.slice s.A s.ak.length s.c,.slice s.Am s.aU.length s.cm] 25)).alloc (.cells #[.slice r.A r.aQ.length r.c,.slice r.Av r.dP.length r.cv] 60)=W0 at *
   go_loopw [6,28] (fun v6 wq wr=>∃ (k:Nat) (keys:LN) (A:OA) (c:Nat),k<=r.aQ.length/\wq = .int .i64 k/\v6 = .slice A k c/\ER s r k keys/\wr.ownsRow W0.heap.size 3 1 (.slice A k c) k (aP keys)/\Below W0.heap.size W0 wr) (fun _ wq _=>r.aQ.length-(intOf wq).toNat)
   case atStart=>exact ⟨0,[],none,0,aZ _,rfl,rfl,⟨rfl,fun i _ _ _ h=>by omega⟩,gL _ _ _ _,aq _ _⟩
   case round =>
    obtain ⟨k,keys,A,c,hk,rfl,rfl,fH,aE,aC⟩:=hrel;have fU:=kp fH;have bF:=kp aE;have ai:=kp aC;obtain ⟨b0,b1,_,_⟩:=(aV.o.under aC).two;obtain ⟨q0,q1,_,_⟩:=(bM.o.under aC).two;clear fH aE aC;by_cases ae:k<r.aQ.length
    .have bE:k<s.ak.length:=by omega
     have hs:=(H0.o.below ai.o).more ai.o.size;have wu:=(ib.o.below ai.o).more ai.o.size;obtain ⟨b,off,hA,hb,c0,c1⟩:=hs.aj k bE;obtain ⟨bt,ot,FP,Nk,t0⟩:=Row.at_ wu.aQ (k:=k) (by rw [lM];exact ae);rw [getElem_map] at t0;rw [hA] at b0;rw [FP] at q0;have eH:=Ho.o.ak k bE;obtain ⟨_,tr,xV,sO⟩:=eH.Py;have pX:=hs.ak _ (gM bE);have Bo:0<(s.ak[k]'bE).aw.length:=eH.n1;obtain ⟨bd,od,Jt,xW,d0,d1,d2⟩:=pX.dm 0 Bo;have sP:(s.ak[k]'bE).aw[0]'Bo=tr:=by rw [gE Bo] at xV;injection xV
     rw [sP] at d0 d1 d2;have ud:=pX.aw tr (mem_of_getElem? xV);rw [Jt] at c1;rw [Nat.zero_mul,Nat.add_zero] at d1;have Dg:=kp (show ∀W,Below wr.heap.size wr W->Calls Tryz.prog 55 #[.slice tr.At tr.aQ.length tr.ct,.string (r.aQ[k]'ae)] W (fT (Iu tr.aQ (r.aQ[k]'ae)) W) from fun W hW=>S4.o tr.At tr.aQ tr.ct (r.aQ[k]'ae) W ud.nt ((ud.aQ.below hW).more hW.size));have dw:=kp (show ∀i:Nat,tr.aQ[i]? = some (r.aQ[k]'ae)->ER s r (k+1) (keys++[i]) from fun i hi=>fU.o.next (gE bE) (gE ae) (by rw [sO];exact hi))
     have Dh:=kp (show (∀i:Nat,tr.aQ[i]? ≠ some (r.aQ[k]'ae))->∀keys,¬ju s r keys from fun h keys qf=>by
      have aA:k<keys.length:=by rw [qf.n];exact bE
      have:=qf.at_ k _ _ _ (gE bE) (gE ae) (gE aA);rw [sO] at this
      exact h _ this)
     have h2:=eH.n2;have e3:(((s.ak[k]'bE).aw.length:Int) == 0)=false:=by rw [beq_eq_false_iff_ne];omega
     have dz:(0:Int)<=(k:Int):=by omega
     have df:(k:Int)<(s.ak.length:Int):=by omega
     have jd:(k:Int)<(r.aQ.length:Int):=by omega
     have tY:(0:Int)<((s.ak[k]'bE).aw.length:Int):=by omega
     clear hs wu hA FP eH xV sO pX Jt sP ud d0 d2 c0 b1 q1;generalize (s.ak[k]'bE).aw.length=nd at *;generalize (s.ak[k]'bE).c=cd at *;generalize (r.aQ[k]'ae)=x at *;go_wp2_with fail;refine wp_region_noPanic ?_;refine dt (t:=99) (S:=(fun w'=>w'.cell? ⟨w.heap.size,0,none⟩=some (.slice (some ⟨b,off,none⟩) s.ak.length s.c)/\w'.cell? ⟨w.heap.size+1,0,none⟩=some (.slice (some ⟨bt,ot,none⟩) r.aQ.length r.c)/\w'.cell? ⟨b,off+k*2+1,none⟩=some (.slice (some ⟨bd,od,none⟩) nd cd)/\w'.cell? ⟨bd,od+1,none⟩=some (.slice tr.At tr.aQ.length tr.ct)/\w'.cell? ⟨bt,ot+k,none⟩=some (.string x))) (by kernel_rfl) ⟨b0,q0,c1,d1,t0⟩ (fun ad => ?_);refine tD 0 1 2 3 ad ?_;refine tD 4 5 6 7 ad ?_;refine tD 8 9 10 11 ad ?_;refine tB 12 13 ad ?_;refine oT 14 fun K hK=>?_
     go_simp
     refine (Dg.o _ (aq _ _).drew).mono ?_;rintro e w1 ⟨n,rfl,ej,ax⟩;have aM:=kp (show Below wr.heap.size wr w1 from (aq _ _).drew.trans ax);have xX:=kp ej;clear ax ej;refine oK hK ?_ fun af=>?_
     .exact ⟨aL aM.o b0,aL aM.o q0,aL aM.o c1,aL aM.o d1,aL aM.o t0⟩
     replace ad:=af;clear hK K af;refine tk 15 ad ?_;refine dY (by kernel_rfl) ?_ _
     try clear ad
     refine NoPanic.normal ?_;have aF:=kp (ai.o.trans (aM.o.mono ai.o.size));have fI:=kp (eV bF.o aM.o);clear b0 q0 c1 d1 t0 Dg;by_cases S5:n<0
     .have ac2:n<0:=S5;have ac3:=kp (Dh.o (xX.o.2 S5));go_wp2_with fail;exact ub.o _ _ (by decide) ac3.o (ay.o.trans (aF.o.mono ay.o.size))
     .obtain ⟨i,hi,oS⟩:=xX.o.1 (by omega);subst hi;have Hk2:=kp (dw.o i oS);have ac2:¬ (i:Int)<0:=by omega
      have o9:=kp aF.o.size;have cz:k<1048576*64:=by have:=Ho.o.n2;omega
      clear S5 oS
      go_wp2_with (at_builtin;refine tE rfl (.tmp 56) (.tmp 58) 27 rfl W0.heap.size 3 i0 (.int .i64 0) 8 Tryz.underlying27 cG cI cH cJ rfl w1 (.int .i64 (i:Int)) rfl (.slice A k c) k (aP keys) rfl fI.o rfl cz (by decide) o9.o ?_;intro v5 w5 aY bV;obtain ⟨A5,c5,h5⟩:=iq aY;subst h5;have cP:=kp aY;have bZ:=kp (bV.below aF.o fI.o (ah _) o9.o);clear aY bV)
      exact ⟨⟨k+1,keys++[i],A5,c5,by omega,by go_num,rfl,Hk2.o,by rw [CG];exact cP.o,bZ.o⟩,by simp [intOf];omega⟩
    .obtain rfl:k=r.aQ.length:=by omega
     have rS:=kp (show ju s r keys from ⟨by rw [fU.o.1];exact nz.o.1,nz.o.1,nz.o.2,fun i d t q h1 h2 h3=>fU.o.2 i d t q (by have:=(bS h2).1;omega) h1 h2 h3⟩);have S8:=kp fU.o.1;have S9:=kp ay.o.size;go_wp2_with fail;exact gQ.o _ keys _ rS.o (by rw [S8.o];exact nX bF.o S9.o) (ay.o.trans (ai.o.mono ay.o.size))
  .have e1:((r.aQ.length:Int) != (s.ak.length:Int))=false:=by simp;omega
   have e2:((r.dP.length:Int) != (s.aU.length:Int))=true:=by simp;omega
   have Dh:=kp (show ∀keys,¬ju s r keys from fun keys hk=>Nn hk.nv);clear Nl Nn;go_wp2_with fail;exact ub.o _ _ (by decide) Dh.o ay.o
 .have e1:((r.aQ.length:Int) != (s.ak.length:Int))=true:=by simp;omega
  have Dh:=kp (show ∀keys,¬ju s r keys from fun keys hk=>Nl hk.nt);go_wp2_with fail;exact ub.o _ _ (by decide) Dh.o ay.o
structure qI (s:aW) (l:List Rw):Prop where
 eF:dO s
 n:l.length<=300
 rows:∀r∈l,∃keys,ju s r keys
theorem a5V (s:aW) (A:OA) (l:List Rw) (c:Nat) (w:World) (h:gW w w.heap.size s) (hr:j6 w w.heap.size A l):Calls Tryz.prog 18 #[.agg (cj s),.slice A l.length c] w (fT (fun r=>r=0->qI s l) w):=by
 have HR:=kp (fun r w' h hb=>fT.mono (P:=fun r=>r=0->qI s l) (w:=w) (r:=r) (w':=w') h hb);have au:=(aq w.heap.size w).alloc (ah _) (.cells (cj s) 25);have ay:=kp au;have HB:=kp (aa.new w 25 (cj s));have H0:=kp ((h.below au).more au.size);have ib:=kp ((hr.below au).more au.size);have hn:=hr.n;have HW:=kp (a7B s (w.alloc (.cells (cj s) 25)) ((h.below au).more au.size));have rR:=kp a00;have pY:=kp (show dO s->l.length<=300->(∀r∈l,∃keys,ju s r keys)->qI s l from fun a b c=>⟨a,b,c⟩);unfold maxLen at hn;clear h hr au;generalize hQ:fT (fun r=>r=0->qI s l) w=Q at *;clear hQ;unfold cj at HB ay H0 ib HW ⊢;have ni:=kp (show ∀W,Below (w.alloc (.cells #[.slice s.A s.ak.length s.c,.slice s.Am s.aU.length s.cm] 25)).heap.size (w.alloc (.cells #[.slice s.A s.ak.length s.c,.slice s.Am s.aU.length s.cm] 25)) W->Below w.heap.size w W from fun W hW=>ay.o.trans (hW.mono ay.o.size));obtain ⟨z0,z1,_,_⟩:=HB.o.two;go_enter Tryz.func18,Tryz.ntmps18;go_wp2_with fail;refine HW.o.mono ?_;clear z0 z1;generalize w.alloc (.cells #[.slice s.A s.ak.length s.c,.slice s.Am s.aU.length s.cm] 25)=W0 at *;rintro e w1 ⟨n,rfl,ej,ax⟩;have xX:=kp ej;have aM:=kp ax;clear ej ax HW;by_cases he:n=0
 .subst he;have xR:((0:Int) != 0)=false:=by simp
  have No:=kp (xX.o rfl);clear xX;by_cases a1r:l.length<=300
  .have FQ:¬ (300:Int)<(l.length:Int):=by omega
   go_wp2_with fail;clear FQ
   go_loopw [20] (fun v20 wr=>∃k:Nat,k<=l.length/\v20 = .int .i64 k/\(∀r∈l.take k,∃keys,ju s r keys)/\Below W0.heap.size W0 wr) (fun v20 _=>l.length-(intOf v20).toNat)
   case atStart=>exact ⟨0,aZ _,rfl,by simp,aM.o⟩
   case round =>
    obtain ⟨k,hk,rfl,fH,aC⟩:=hrel;have fU:=kp fH;have ai:=kp aC;clear fH aC;by_cases ae:k<l.length
    .have oW:=(ib.o.below ai.o).more ai.o.size;have wv:=(H0.o.below ai.o).more ai.o.size;obtain ⟨b,off,rfl,hb,c0,c1⟩:=oW.J6 k ae;have nB:=oW.each _ (gM ae)
     have ue:=kp (show (∃keys,ju s (l[k]'ae) keys)->∀r∈l.take (k+1),∃keys,ju s r keys from fun h r hr=>by
      rw [take_succ_eq_append_getElem ae] at hr;rcases mem_append.1 hr with hr | hr
      .exact fU.o r hr
      .rw [mem_singleton.1 hr];exact h)
     have eQ:=(aq wr.heap.size wr).alloc (ah _) (.cells (kK (l[k]'ae)) 60);have mc:=kp (rR.o s (l[k]'ae) _ ((wv.below eQ).more eQ.size) ((nB.below eQ).more eQ.size) No.o);have rT:=aR ai eQ;have me:=kp ((HB.o.under ai.o).under eQ);have jz:=kp (aa.new wr 60 (kK (l[k]'ae)));unfold kK at mc rT me jz;unfold cj at mc;have dz:(0:Int)<=(k:Int):=by omega
     have df:(k:Int)<(l.length:Int):=by omega
     clear oW wv nB eQ;generalize ua:(l[k]'ae)=r at *;clear ua;go_upto_region 9 with fail
     clear c0 c1;generalize wr.alloc (.cells #[.slice r.A r.aQ.length r.c,.slice r.Av r.dP.length r.cv] 60)=W2 at *;obtain ⟨b0,b1,_,_⟩:=me.o.two;obtain ⟨q0,q1,_,_⟩:=jz.o.two;go_wp2_with fail;refine mc.o.mono ?_;rintro e w2 ⟨v,n,rfl,eZ,_,aH⟩;have Di:=kp eZ;have aF:=aR rT aH;clear eZ aH b0 b1 q0 q1 mc;by_cases he:n=0
     .subst he;have dw:=kp (ue.o (by obtain ⟨keys,cz,_⟩:=Di.o rfl;exact ⟨keys,cz⟩));clear Di;go_wp2_with fail;exact ⟨⟨k+1,by omega,by go_num,dw.o,aF.o⟩,by simp [intOf];omega⟩
     .have av:(n != 0)=true:=by simpa using he
      go_wp2_with fail;exact HR.o _ _ (fun h=>absurd h he) (ni.o _ aF.o)
    .go_wp2_with fail;exact HR.o _ _ (fun _=>pY.o No.o a1r (fun r hr=>fU.o r (by rw [take_of_length_le (by omega)];exact hr))) (ni.o _ ai.o)
  .have FQ:(300:Int)<(l.length:Int):=by omega
   go_wp2_with fail;exact HR.o _ _ (fun h=>by cases h) (ni.o _ aM.o)
 .have av:(n != 0)=true:=by simpa using he
  go_wp2_with fail;exact HR.o _ _ (fun h=>absurd h he) (ni.o _ aM.o)
structure Ag where
 c:Int
 s0:Int
 n0:Int
 x0:Int
 s1:Int
 n1:Int
 x1:Int
 s2:Int
 n2:Int
 x2:Int
abbrev cA (w:World) (b o:Nat) (x:Ag):Prop:=w.cell? ⟨b,o,none⟩=some (.int .i64 x.c)/\w.cell? ⟨b,o+1,none⟩=some (.int .i64 x.s0)/\w.cell? ⟨b,o+2,none⟩=some (.int .i64 x.n0)/\w.cell? ⟨b,o+3,none⟩=some (.int .i64 x.x0)/\w.cell? ⟨b,o+4,none⟩=some (.int .i64 x.s1)/\w.cell? ⟨b,o+5,none⟩=some (.int .i64 x.n1)/\w.cell? ⟨b,o+6,none⟩=some (.int .i64 x.x1)/\w.cell? ⟨b,o+7,none⟩=some (.int .i64 x.s2)/\w.cell? ⟨b,o+8,none⟩=some (.int .i64 x.n2)/\w.cell? ⟨b,o+9,none⟩=some (.int .i64 x.x2)
abbrev oQ (w:World) (b:Nat) (x:Ag):Prop:=w.cell? ⟨b,0,none⟩=some (.int .i64 x.c)/\w.cell? ⟨b,1,none⟩=some (.int .i64 x.s0)/\w.cell? ⟨b,2,none⟩=some (.int .i64 x.n0)/\w.cell? ⟨b,3,none⟩=some (.int .i64 x.x0)/\w.cell? ⟨b,4,none⟩=some (.int .i64 x.s1)/\w.cell? ⟨b,5,none⟩=some (.int .i64 x.n1)/\w.cell? ⟨b,6,none⟩=some (.int .i64 x.x1)/\w.cell? ⟨b,7,none⟩=some (.int .i64 x.s2)/\w.cell? ⟨b,8,none⟩=some (.int .i64 x.n2)/\w.cell? ⟨b,9,none⟩=some (.int .i64 x.x2)
abbrev bj (a:Ag):AV:=#[.int .i64 a.c,.int .i64 a.s0,.int .i64 a.n0,.int .i64 a.x0,.int .i64 a.s1,.int .i64 a.n1,.int .i64 a.x1,.int .i64 a.s2,.int .i64 a.n2,.int .i64 a.x2]
theorem aa.eS {w:World} {g:Nat} {t:TypeId} {a0 a1 a2 a3 a4 a5 a6 a7 a8 a9:Value} (h:aa w g t #[a0,a1,a2,a3,a4,a5,a6,a7,a8,a9]) :
 (w.cell? ⟨g,0,none⟩=some a0/\w.cell? ⟨g,1,none⟩=some a1/\w.cell? ⟨g,2,none⟩=some a2/\w.cell? ⟨g,3,none⟩=some a3/\w.cell? ⟨g,4,none⟩=some a4/\w.cell? ⟨g,5,none⟩=some a5/\w.cell? ⟨g,6,none⟩=some a6/\w.cell? ⟨g,7,none⟩=some a7/\w.cell? ⟨g,8,none⟩=some a8/\w.cell? ⟨g,9,none⟩=some a9) /\
 (w.frozen? ⟨g,0,none⟩=false/\w.frozen? ⟨g,1,none⟩=false/\w.frozen? ⟨g,2,none⟩=false/\w.frozen? ⟨g,3,none⟩=false/\w.frozen? ⟨g,4,none⟩=false/\w.frozen? ⟨g,5,none⟩=false/\w.frozen? ⟨g,6,none⟩=false/\w.frozen? ⟨g,7,none⟩=false/\w.frozen? ⟨g,8,none⟩=false/\w.frozen? ⟨g,9,none⟩=false) :=
 ⟨⟨h.cell 0,h.cell 1,h.cell 2,h.cell 3,h.cell 4,h.cell 5,h.cell 6,h.cell 7,h.cell 8,h.cell 9⟩,⟨h.free 0,h.free 1,h.free 2,h.free 3,h.free 4,h.free 5,h.free 6,h.free 7,h.free 8,h.free 9⟩⟩
theorem aa.vF {w:World} {g:Nat} {t:TypeId} {a0 a1 a2 a3 a4 a5 a6 a7 a8 a9:Value} (v0 v1 v2 v3 v4 v5 v6 v7 v8 v9:Value) (h:aa w g t #[a0,a1,a2,a3,a4,a5,a6,a7,a8,a9]) :
 aa ((((((((((w.setCell ⟨g,0,none⟩ v0).setCell ⟨g,1,none⟩ v1).setCell ⟨g,2,none⟩ v2).setCell ⟨g,3,none⟩ v3).setCell ⟨g,4,none⟩ v4).setCell ⟨g,5,none⟩ v5).setCell ⟨g,6,none⟩ v6).setCell ⟨g,7,none⟩ v7).setCell ⟨g,8,none⟩ v8).setCell ⟨g,9,none⟩ v9) g t #[v0,v1,v2,v3,v4,v5,v6,v7,v8,v9]:=by
 have h0:aa _ g t #[v0,a1,a2,a3,a4,a5,a6,a7,a8,a9]:=h.set 0 v0;have h1:aa _ g t #[v0,v1,a2,a3,a4,a5,a6,a7,a8,a9]:=h0.set 1 v1;have h2:aa _ g t #[v0,v1,v2,a3,a4,a5,a6,a7,a8,a9]:=h1.set 2 v2;have h3:aa _ g t #[v0,v1,v2,v3,a4,a5,a6,a7,a8,a9]:=h2.set 3 v3;have h4:aa _ g t #[v0,v1,v2,v3,v4,a5,a6,a7,a8,a9]:=h3.set 4 v4;have h5:aa _ g t #[v0,v1,v2,v3,v4,v5,a6,a7,a8,a9]:=h4.set 5 v5;have h6:aa _ g t #[v0,v1,v2,v3,v4,v5,v6,a7,a8,a9]:=h5.set 6 v6;have h7:aa _ g t #[v0,v1,v2,v3,v4,v5,v6,v7,a8,a9]:=h6.set 7 v7;have h8:aa _ g t #[v0,v1,v2,v3,v4,v5,v6,v7,v8,a9]:=h7.set 8 v8;have h9:aa _ g t #[v0,v1,v2,v3,v4,v5,v6,v7,v8,v9]:=h8.set 9 v9;exact h9
theorem Below.vF {w w':World} {B g:Nat} (v0 v1 v2 v3 v4 v5 v6 v7 v8 v9:Value) (h:Below B w w') (hg:B<=g) :
 Below B w ((((((((((w'.setCell ⟨g,0,none⟩ v0).setCell ⟨g,1,none⟩ v1).setCell ⟨g,2,none⟩ v2).setCell ⟨g,3,none⟩ v3).setCell ⟨g,4,none⟩ v4).setCell ⟨g,5,none⟩ v5).setCell ⟨g,6,none⟩ v6).setCell ⟨g,7,none⟩ v7).setCell ⟨g,8,none⟩ v8).setCell ⟨g,9,none⟩ v9) :=
 (((((((((h.setCell (p:=⟨g,0,none⟩) hg v0).setCell (p:=⟨g,1,none⟩) hg v1).setCell (p:=⟨g,2,none⟩) hg v2).setCell (p:=⟨g,3,none⟩) hg v3).setCell (p:=⟨g,4,none⟩) hg v4).setCell (p:=⟨g,5,none⟩) hg v5).setCell (p:=⟨g,6,none⟩) hg v6).setCell (p:=⟨g,7,none⟩) hg v7).setCell (p:=⟨g,8,none⟩) hg v8).setCell (p:=⟨g,9,none⟩) hg v9
def pv (l:List Int) (i:Nat):Int:=(l[i]?).getD 0
def lQ (l:List Int) (k:Nat):Ag:=⟨1,pv (l.take k) 0,pv (l.take k) 0,pv (l.take k) 0,pv (l.take k) 1,pv (l.take k) 1,pv (l.take k) 1,pv (l.take k) 2,pv (l.take k) 2,pv (l.take k) 2⟩
def iD (l:List Int):Ag:=lQ l l.length
def aO:Ag:=⟨0,0,0,0,0,0,0,0,0,0⟩
theorem Rf (l:List Int) (k i:Nat):pv (l.take k) i=if i<k then pv l i else 0:=by
 unfold pv;rw [getElem?_take];split<;>rfl
theorem YG (l:List Int) (k:Nat) (h:l.length<=3) (hk:l.length<=k):lQ l k=iD l:=by
 unfold iD lQ;rw [take_of_length_le hk,take_of_length_le (ah _)]
theorem a0j (l:List Int):lQ l 0=⟨1,0,0,0,0,0,0,0,0,0⟩:=by simp [lQ,pv]
theorem LU (l:List Int):lQ l 1=⟨1,pv l 0,pv l 0,pv l 0,0,0,0,0,0,0⟩:=by simp [lQ,Rf]
theorem N0 (l:List Int):lQ l 2=⟨1,pv l 0,pv l 0,pv l 0,pv l 1,pv l 1,pv l 1,0,0,0⟩:=by simp [lQ,Rf]
theorem YY (l:List Int):lQ l 3=⟨1,pv l 0,pv l 0,pv l 0,pv l 1,pv l 1,pv l 1,pv l 2,pv l 2,pv l 2⟩:=by simp [lQ,Rf]
def PM (a:Ag) (w:World) (e:Ending) (w':World):Prop:=e = .returned (.agg (bj a))/\Below w.heap.size w w'
theorem a7d (A:OA) (l:List Int) (c:Nat) (w:World) (hl:l.length<=3) (hr:Row w w.heap.size A (l.map (.int .i64))):Calls Tryz.prog 21 #[.slice A l.length c] w (PM (iD l) w):=by
 have Hr:=kp hr;have HQ:=kp (show ∀w',Below w.heap.size w w'->PM (iD l) w (.returned (.agg (bj (iD l)))) w' from fun w' h=>⟨rfl,h⟩);generalize hQ:PM (iD l) w=Q at *;clear hQ hr;have ax:=(aq w.heap.size w).alloc (ah _) (.cells (bj aO) 54);have au:=ax.alloc ax.size (.cells (bj (lQ l 0)) 54);have ay:=kp au;have aV:=kp ((aa.new w 54 (bj aO)).alloc (.cells (bj (lQ l 0)) 54));have bM:=kp (aa.lay (w:=w.alloc (.cells (bj aO) 54)) (g:=w.heap.size+1) (t:=54) (cs:=bj (lQ l 0)) (by simp));clear au ax;generalize hN:l.length=n at *;have Hn:=kp hN;clear hN;go_enter Tryz.func21,Tryz.ntmps21;go_wp2_with fail
 go_loopw [4] (fun v4 wr=>∃k:Nat,k<=n/\v4 = .int .i64 k/\aa wr w.heap.size 54 (bj aO)/\aa wr (w.heap.size+1) 54 (bj (lQ l k))/\Below w.heap.size w wr) (fun v4 _=>n-(intOf v4).toNat)
 case atStart=>exact ⟨0,aZ _,rfl,aV.o,bM.o,ay.o⟩
 case round =>
  obtain ⟨k,hk,rfl,Ju,fu,aC⟩:=hrel;have jA:=kp Ju;have ai:=kp aC;clear Ju aC;by_cases ae:k<n
  .have aA:k<l.length:=by rw [Hn.o];exact ae
   obtain ⟨b,off,rfl,hb,c0⟩:=Row.at_ ((Hr.o.below ai.o).more ai.o.size) (k:=k) (by rw [lM];exact aA);rw [getElem_map] at c0;have dz:(0:Int)<=(k:Int):=by omega
   match k,hk,ae,aA,fu,c0,dz with
   | 0,hk,ae,aA,fu,c0,dz => ?_
   | 1,hk,ae,aA,fu,c0,dz => ?_
   | 2,hk,ae,aA,fu,c0,dz => ?_
   | k+3,hk,ae,aA,fu,c0,dz=>omega
   .rw [a0j] at fu;rw [Nat.add_zero] at c0;have iu:=kp fu;obtain ⟨⟨a0,a1,a2,a3,a4,a5,a6,a7,a8,a9⟩,fD⟩:=aa.eS fu;have qg:=kp (show pv l 0=(l[0]'aA) by unfold pv;rw [gE aA];rfl);have df:(0:Int)<(n:Int):=by omega
    have jd:((0:Nat):Int)<(n:Int):=by omega
    clear fu;generalize (l[0]'aA)=y at *;go_wp2_with fail;refine wp_region_noPanic ?_;refine dt (t:=16) (S:=(fun w'=>w'.cell? ⟨b,off,none⟩=some (.int .i64 y)/\w'.cell? ⟨w.heap.size+1,1,none⟩=some (.int .i64 0)/\w'.cell? ⟨w.heap.size+1,2,none⟩=some (.int .i64 0)/\w'.cell? ⟨w.heap.size+1,3,none⟩=some (.int .i64 0))) (by kernel_rfl) ⟨c0,a1,a2,a3⟩ (fun ad => ?_);refine tD 0 1 2 3 ad ?_;refine tD 4 5 6 7 ad ?_;refine tD 8 9 10 11 ad ?_;refine tB 12 13 ad ?_;refine PG (i:=14) (oi := ?op14) (v := ?vp14) ?ap14 (by kernel_rfl) (by kernel_rfl) (by kernel_rfl) (by kernel_rfl) (fun _ _ _ h=>h) ?bp14 ad ?cp14
    case ap14=>(simp only [getElem?_toArray,getElem?_cons_succ,getElem?_cons_zero];exact rfl)
    case bp14=>(refine Or.inl ⟨by rfl,?_⟩;intro w dq;(try dsimp only at dq);go_simp;try exact rfl)
    try simp only [Act.put,setIfInBounds_toArray,set_cons_zero,set_cons_succ]
    refine tk 15 ad ?_;refine rr (o := ?op16) (by kernel_rfl) ?ap16 (by kernel_rfl) (fun K hK => ?bp16)
    case ap16=>(simp only [getElem?_toArray,getElem?_cons_succ,getElem?_cons_zero];exact rfl)
    obtain ⟨ic,oX,x3',Jv⟩:=ad;have ad:=ic
    go_simp
    refine hK.out _ _ ?_;clear hK K ad;refine NoPanic.normal ?_
    try simp only [Act.put,setIfInBounds_toArray,set_cons_zero,set_cons_succ]
    go_wp2_with fail;refine ⟨⟨1,by omega,by go_num,?_,?_,?_⟩,by simp [intOf];omega⟩
    .exact ((jA.o.drew.bX (p:=⟨w.heap.size+1,1,none⟩) (by simp) _).bX (p:=⟨w.heap.size+1,2,none⟩) (by simp) _).bX (p:=⟨w.heap.size+1,3,none⟩) (by simp) _
    .rw [LU,qg.o];exact ((iu.o.drew.set 1 (.int .i64 y)).set 2 (.int .i64 y)).set 3 (.int .i64 y)
    .exact ((ai.o.drew.setCell (p:=⟨w.heap.size+1,1,none⟩) (by simp) _).setCell (p:=⟨w.heap.size+1,2,none⟩) (by simp) _).setCell (p:=⟨w.heap.size+1,3,none⟩) (by simp) _
   .rw [LU] at fu;have iu:=kp fu;obtain ⟨⟨a0,a1,a2,a3,a4,a5,a6,a7,a8,a9⟩,fD⟩:=aa.eS fu;have qg:=kp (show pv l 1=(l[1]'aA) by unfold pv;rw [gE aA];rfl);have df:(1:Int)<(n:Int):=by omega
    have jd:((1:Nat):Int)<(n:Int):=by omega
    clear fu;generalize (l[1]'aA)=y at *;go_wp2_with fail;refine wp_region_noPanic ?_;refine dt (t:=16) (S:=(fun w'=>w'.cell? ⟨b,off+1,none⟩=some (.int .i64 y)/\w'.cell? ⟨w.heap.size+1,4,none⟩=some (.int .i64 0)/\w'.cell? ⟨w.heap.size+1,5,none⟩=some (.int .i64 0)/\w'.cell? ⟨w.heap.size+1,6,none⟩=some (.int .i64 0))) (by kernel_rfl) ⟨c0,a4,a5,a6⟩ (fun ad => ?_);refine tD 0 1 2 3 ad ?_;refine tD 4 5 6 7 ad ?_;refine tD 8 9 10 11 ad ?_;refine tB 12 13 ad ?_;refine PG (i:=14) (oi := ?oq14) (v := ?vq14) ?aq14 (by kernel_rfl) (by kernel_rfl) (by kernel_rfl) (by kernel_rfl) (fun _ _ _ h=>h) ?bq14 ad ?cq14
    case aq14=>(simp only [getElem?_toArray,getElem?_cons_succ,getElem?_cons_zero];exact rfl)
    case bq14=>(refine Or.inl ⟨by rfl,?_⟩;intro w dq;(try dsimp only at dq);go_simp;try exact rfl)
    try simp only [Act.put,setIfInBounds_toArray,set_cons_zero,set_cons_succ]
    refine tk 15 ad ?_;refine rr (o := ?oq16) (by kernel_rfl) ?aq16 (by kernel_rfl) (fun K hK => ?bq16)
    case aq16=>(simp only [getElem?_toArray,getElem?_cons_succ,getElem?_cons_zero];exact rfl)
    obtain ⟨ic,oX,x3',Jv⟩:=ad;have ad:=ic
    go_simp
    refine hK.out _ _ ?_;clear hK K ad;refine NoPanic.normal ?_
    try simp only [Act.put,setIfInBounds_toArray,set_cons_zero,set_cons_succ]
    go_wp2_with fail;refine ⟨⟨2,by omega,by go_num,?_,?_,?_⟩,by simp [intOf];omega⟩
    .exact ((jA.o.drew.bX (p:=⟨w.heap.size+1,4,none⟩) (by simp) _).bX (p:=⟨w.heap.size+1,5,none⟩) (by simp) _).bX (p:=⟨w.heap.size+1,6,none⟩) (by simp) _
    .rw [N0,qg.o];exact ((iu.o.drew.set 4 (.int .i64 y)).set 5 (.int .i64 y)).set 6 (.int .i64 y)
    .exact ((ai.o.drew.setCell (p:=⟨w.heap.size+1,4,none⟩) (by simp) _).setCell (p:=⟨w.heap.size+1,5,none⟩) (by simp) _).setCell (p:=⟨w.heap.size+1,6,none⟩) (by simp) _
   .rw [N0] at fu;have iu:=kp fu;obtain ⟨⟨a0,a1,a2,a3,a4,a5,a6,a7,a8,a9⟩,fD⟩:=aa.eS fu;have qg:=kp (show pv l 2=(l[2]'aA) by unfold pv;rw [gE aA];rfl);have df:(2:Int)<(n:Int):=by omega
    have jd:((2:Nat):Int)<(n:Int):=by omega
    clear fu;generalize (l[2]'aA)=y at *;go_wp2_with fail;refine wp_region_noPanic ?_;refine dt (t:=16) (S:=(fun w'=>w'.cell? ⟨b,off+2,none⟩=some (.int .i64 y)/\w'.cell? ⟨w.heap.size+1,7,none⟩=some (.int .i64 0)/\w'.cell? ⟨w.heap.size+1,8,none⟩=some (.int .i64 0)/\w'.cell? ⟨w.heap.size+1,9,none⟩=some (.int .i64 0))) (by kernel_rfl) ⟨c0,a7,a8,a9⟩ (fun ad => ?_);refine tD 0 1 2 3 ad ?_;refine tD 4 5 6 7 ad ?_;refine tD 8 9 10 11 ad ?_;refine tB 12 13 ad ?_;refine PG (i:=14) (oi := ?or14) (v := ?vr14) ?ar14 (by kernel_rfl) (by kernel_rfl) (by kernel_rfl) (by kernel_rfl) (fun _ _ _ h=>h) ?br14 ad ?cr14
    case ar14=>(simp only [getElem?_toArray,getElem?_cons_succ,getElem?_cons_zero];exact rfl)
    case br14=>(refine Or.inl ⟨by rfl,?_⟩;intro w dq;(try dsimp only at dq);go_simp;try exact rfl)
    try simp only [Act.put,setIfInBounds_toArray,set_cons_zero,set_cons_succ]
    refine tk 15 ad ?_;refine rr (o := ?or16) (by kernel_rfl) ?ar16 (by kernel_rfl) (fun K hK => ?br16)
    case ar16=>(simp only [getElem?_toArray,getElem?_cons_succ,getElem?_cons_zero];exact rfl)
    obtain ⟨ic,oX,x3',Jv⟩:=ad;have ad:=ic
    go_simp
    refine hK.out _ _ ?_;clear hK K ad;refine NoPanic.normal ?_
    try simp only [Act.put,setIfInBounds_toArray,set_cons_zero,set_cons_succ]
    go_wp2_with fail;refine ⟨⟨3,by omega,by go_num,?_,?_,?_⟩,by simp [intOf];omega⟩
    .exact ((jA.o.drew.bX (p:=⟨w.heap.size+1,7,none⟩) (by simp) _).bX (p:=⟨w.heap.size+1,8,none⟩) (by simp) _).bX (p:=⟨w.heap.size+1,9,none⟩) (by simp) _
    .rw [YY,qg.o];exact ((iu.o.drew.set 7 (.int .i64 y)).set 8 (.int .i64 y)).set 9 (.int .i64 y)
    .exact ((ai.o.drew.setCell (p:=⟨w.heap.size+1,7,none⟩) (by simp) _).setCell (p:=⟨w.heap.size+1,8,none⟩) (by simp) _).setCell (p:=⟨w.heap.size+1,9,none⟩) (by simp) _
  .obtain rfl:k=n:=by omega
   rw [YG l k (by rw [Hn.o];exact hl) (by rw [Hn.o];exact ah _)] at fu;have iu:=kp fu;clear fu;generalize iD l=a at *;obtain ⟨⟨a0,a1,a2,a3,a4,a5,a6,a7,a8,a9⟩,_⟩:=aa.eS iu.o;obtain ⟨bD,fD⟩:=aa.eS jA.o;go_wp2_with fail;have dW:=kp (Below.vF (.int .i64 a.c) (.int .i64 a.s0) (.int .i64 a.n0) (.int .i64 a.x0) (.int .i64 a.s1) (.int .i64 a.n1) (.int .i64 a.x1) (.int .i64 a.s2) (.int .i64 a.n2) (.int .i64 a.x2) ai.o (ah w.heap.size));have kM:=aa.vF (.int .i64 a.c) (.int .i64 a.s0) (.int .i64 a.n0) (.int .i64 a.x0) (.int .i64 a.s1) (.int .i64 a.n1) (.int .i64 a.x1) (.int .i64 a.s2) (.int .i64 a.n2) (.int .i64 a.x2) jA.o;clear a0 a1 a2 a3 a4 a5 a6 a7 a8 a9 bD fD
   revert dW kM
   generalize ((((((((((wr.setCell ⟨w.heap.size,0,none⟩ (.int .i64 a.c)).setCell ⟨w.heap.size,1,none⟩ (.int .i64 a.s0)).setCell ⟨w.heap.size,2,none⟩ (.int .i64 a.n0)).setCell ⟨w.heap.size,3,none⟩ (.int .i64 a.x0)).setCell ⟨w.heap.size,4,none⟩ (.int .i64 a.s1)).setCell ⟨w.heap.size,5,none⟩ (.int .i64 a.n1)).setCell ⟨w.heap.size,6,none⟩ (.int .i64 a.x1)).setCell ⟨w.heap.size,7,none⟩ (.int .i64 a.s2)).setCell ⟨w.heap.size,8,none⟩ (.int .i64 a.n2)).setCell ⟨w.heap.size,9,none⟩ (.int .i64 a.x2))=Wf;intro dW kM;obtain ⟨⟨a0,a1,a2,a3,a4,a5,a6,a7,a8,a9⟩,_⟩:=aa.eS kM;refine bodyPost_ret (v := .agg (bj a)) (by simp [results,Tryz.results21,go_sem,a0,a1,a2,a3,a4,a5,a6,a7,a8,a9]) rfl (HQ.o _ dW.o)
end Go.Proofs.YtjopcamkclndlaaGreat.Tc
