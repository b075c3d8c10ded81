/- Parts of a proof. -/
import Derived.Test.YtjopcamkclndlaaGreatH014
set_option linter.unusedVariables false
set_option linter.unusedSimpArgs false
set_option maxRecDepth 100000
set_option maxHeartbeats 8000000
namespace Go.Proofs.YtjopcamkclndlaaGreat.Base
open List Go.RowKit
section
variable {P:Program} {an:Array Oper} {Q:Exit->Act->World->Prop} {md:Region.Mode} {S:World->Prop} {t:Nat}
def Pk (P:Program) (md:Region.Mode) (an:Array Oper) (Q:Exit->Act->World->Prop) (S:World->Prop) (t fuel:Nat) (listed:Array Bool) (a:Act) (w:World) (i:Nat):Prop:=∃o,an[i]? = some o/\i≠t /\ 
 ∀K':Act->World->Prop,Shut (∀a w,S w->(S w->hZ P md an Q S t fuel (listed.setIfInBounds i true) a w)->K' a w)->if Region.wanted o (yielded an a.tmps)=true then Oper.wp P o a w K' Q else K' (a.put o.dst undef) w
theorem pk {fuel:Nat} {listed:Array Bool} {a:Act} {w:World} {rs:List Nat} (h:∀i∈rs,Pk P md an Q S t fuel listed a w i) (hr:Region.ready md an listed=rs:=by kernel_rfl) (hn:rs.isEmpty=false:=by rfl):hZ P md an Q S t (fuel+1) listed a w:=by
 refine ⟨fun h0=>(by rw [h0] at hr;rw [<-hr] at hn;cases hn),fun j hj => ?_⟩;rw [hr] at hj;obtain ⟨o,ho,zk,h⟩:=h j hj;exact wpOp_step ho (fun K' hK=>h K' (fun a w hS hW=>hK a w ⟨fun _=>hS,hW hS⟩))
theorem hU {X:Nat->Prop} {i:Nat} (h:X i):∀j∈[i],X j:=fun j hj=>mem_singleton.1 hj▸h
theorem sJ {X:Nat->Prop} {i:Nat} {rs:List Nat} (h:X i) (hs:∀j∈rs,X j):∀j∈i::rs,X j:=fun j hj=>by
 rcases mem_cons.1 hj with rfl | hj
 .exact h
 .exact hs j hj
theorem eh {i fuel:Nat} {listed:Array Bool} {a:Act} {w:World} {o:Oper} (h:∀K':Act->World->Prop,Shut (∀a w,S w->(S w->hZ P md an Q S t fuel (listed.setIfInBounds i true) a w)->K' a w)->if Region.wanted o (yielded an a.tmps)=true then Oper.wp P o a w K' Q else K' (a.put o.dst undef) w)
 (ho:an[i]? = some o:=by (simp only [getElem?_toArray,getElem?_cons_succ,getElem?_cons_zero];exact rfl)) (zk:i≠t:=by decide):Pk P md an Q S t fuel listed a w i:=⟨o,ho,zk,h⟩
end
end Go.Proofs.YtjopcamkclndlaaGreat.Base
namespace Go.Proofs.YtjopcamkclndlaaGreat.Tc
open List Go.RowKit Base
def Mg (n:Nd):Prop:=∀l∈n.ls,l.cs.length<=l.c
structure T4 (w2:World) (p q:aI) (x y:Option Nd) (g h:Option (Nat×AV)) (w:World):Prop where
 bJ:Below w2.heap.size w2 w
 xs:∀n,x=some n->az n=p/\dp w w.heap.size n/\kb w2.heap.size n/\Mg n
 ys:∀n,y=some n->az n=q/\dp w w.heap.size n/\kb w2.heap.size n/\Mg n
 gs:∀k cs,g=some (k,cs)->w2.heap.size<=k/\aa w k 100 cs
 hs:∀k cs,h=some (k,cs)->w2.heap.size<=k/\aa w k 100 cs
 two:∀k cs k' o6,g=some (k,cs)->h=some (k',o6)->k≠k'
 off:∀n,(x=some n\/y=some n)->∀k cs,(g=some (k,cs)\/h=some (k,cs))->¬pQ n k
section
variable {w2 w w':World} {p q:aI} {x y:Option Nd} {g h:Option (Nat×AV)}
theorem dp.cW {B:Nat} {n:Nd} (h:dp w B n) {k:Nat} (hk:pQ n k):k<B:=by
 rcases hk with hk | ⟨l,hl,hk⟩
 .exact Row.cW h.row hk
 .exact Row.cW (h.each l hl) hk
theorem kb.Mx {B:Nat} {n:Nd} (h:kb B n) {k:Nat} (hk:pQ n k):B<=k:=by
 rcases hk with ⟨av,off,ea⟩ | ⟨l,hl,av,off,ea⟩
 .exact h.1 k off ea av
 .exact h.2 l hl k off ea av
theorem dp.tU {B g:Nat} {n:Nd} (h:dp w B n) (hg:¬pQ n g) (us:LV) (o:Nat):dp (aK w g o us) B n :=
 ⟨Row.tU (fun k hk e=>hg (by rw [<-e];exact .inl hk)) _ _ _ h.row,fun l hl=>Row.tU (fun k hk e=>hg (by rw [<-e];exact .inr ⟨l,hl,hk⟩)) _ _ _ (h.each l hl)⟩
theorem T4.start (hb:Below w2.heap.size w2 w):T4 w2 p q none none none none w :=
 ⟨hb,fun n e=>(by cases e),fun n e=>(by cases e),fun k cs e=>(by cases e),fun k cs e=>(by cases e),fun k cs k' o6 e=>(by cases e),fun n e=>(by rcases e with e | e<;>cases e)⟩
theorem T4.swap (H:T4 w2 p q x y g h w):T4 w2 q p y x h g w :=
 ⟨H.bJ,H.ys,H.xs,H.hs,H.gs,fun k cs k' o6 e1 e2 e3=>H.two k' o6 k cs e2 e1 e3.symm,fun n e k cs e2=>H.off n e.symm k cs e2.symm⟩
theorem T4.below (H:T4 w2 p q x y g h w) (hb:Below w.heap.size w w'):T4 w2 p q x y g h w':=by
 refine ⟨H.bJ.trans (hb.mono H.bJ.size),fun n e => ?_,fun n e => ?_,fun k cs e=>⟨(H.gs k cs e).1,(H.gs k cs e).2.under hb⟩,fun k cs e=>⟨(H.hs k cs e).1,(H.hs k cs e).2.under hb⟩,H.two,H.off⟩
 .obtain ⟨h1,h2,h3,h4⟩:=H.xs n e;exact ⟨h1,(h2.below hb).more hb.size,h3,h4⟩
 .obtain ⟨h1,h2,h3,h4⟩:=H.ys n e;exact ⟨h1,(h2.below hb).more hb.size,h3,h4⟩
theorem T4.get (H:T4 w2 p q none y g h w) {n:Nd} (h1:az n=p) (h2:dp w' w'.heap.size n) (h3:kb w.heap.size n) (h4:Mg n) (hb:Below w.heap.size w w'):T4 w2 p q (some n) y g h w':=by
 have K:=H.below hb;refine ⟨K.bJ,fun n' e => ?_,K.ys,K.gs,K.hs,K.two,fun n' e k cs e2 hf => ?_⟩
 .injection e with e
  subst e;exact ⟨h1,h2,h3.less H.bJ.size,h4⟩
 .rcases e with e | e
  .injection e with e
   subst e;have:=h3.Mx hf;rcases e2 with e2 | e2
   .have:=(H.gs k cs e2).2.lt;omega
   .have:=(H.hs k cs e2).2.lt;omega
  .exact K.off n' (.inr e) k cs e2 hf
theorem T4.al (H:T4 w2 p q x y none h w) (cs:AV):T4 w2 p q x y (some (w.heap.size,cs)) h (w.alloc (.cells cs 100)):=by
 have K:=H.below (Below.alloc (aq _ _) (ah _) (.cells cs 100));refine ⟨K.bJ,K.xs,K.ys,fun k o6 e => ?_,K.hs,fun k cs k' o6 e1 e2 => ?_,fun n e k o6 e2 hf => ?_⟩
 .injection e with e
  injection e with e1 e2
  subst e1 e2;exact ⟨H.bJ.size,aa.new w _ cs⟩
 .injection e1 with e1
  injection e1 with e1 _
  have:=(H.hs k' o6 e2).2.lt;omega
 .rcases e2 with e2 | e2
  .injection e2 with e2
   injection e2 with e2 _
   have:k<w.heap.size:=by
    rcases e with e | e
    .exact (H.xs n e).2.1.cW hf
    .exact (H.ys n e).2.1.cW hf
   omega
  .exact K.off n e k o6 (.inr e2) hf
theorem T4.st {n:Nd} {k:Nat} {cs:AV} (H:T4 w2 p q (some n) y (some (k,cs)) h w) (hc:cs.size=14):T4 w2 p q (some n) y (some (k,bG n)) h (aK w k 0 (dJ n)):=by
 obtain ⟨g1,g2⟩:=H.gs k cs rfl;refine ⟨eU g1 _ _ _ H.bJ,fun n' e => ?_,fun n' e => ?_,fun k' o6 e => ?_,fun k' o6 e => ?_,fun k1 cs1 k2 cs2 e1 e2 => ?_,fun n' e k1 cs1 e2 => ?_⟩
 .obtain ⟨h1,h2,h3,h4⟩:=H.xs n' e;exact ⟨h1,by rw [J8];exact h2.tU (H.off n' (.inl e) k cs (.inl rfl)) _ _,h3,h4⟩
 .obtain ⟨h1,h2,h3,h4⟩:=H.ys n' e;exact ⟨h1,by rw [J8];exact h2.tU (H.off n' (.inr e) k cs (.inl rfl)) _ _,h3,h4⟩
 .injection e with e
  injection e with e1 e2
  subst e1 e2;exact ⟨g1,eO g2 (dJ n) (by rw [hc];rfl)⟩
 .have:=H.hs k' o6 e;exact ⟨this.1,(gu (fun e2=>H.two k cs k' o6 rfl e e2.symm) _ _ _).trans this.2⟩
 .injection e1 with e1
  injection e1 with e1 _
  subst e1;exact H.two k cs k2 cs2 rfl e2
 .rcases e2 with e2 | e2
  .injection e2 with e2
   injection e2 with e2 _
   subst e2;exact H.off n' e k cs (.inl rfl)
  .exact H.off n' e k1 cs1 (.inr e2)
end
structure vz (c:Mc) (F:Nat->Prop) (w:World) (p:Int×Int) (g k7 k8 k9 aj:Nat) (nx ny:Nd) (A9:OA) (c9:Nat) (ls:List Ll) (F1:Nat->Prop) (An:OA) (cn:Nat) (nds:List Nd) (sm:dU) (wr:World):Prop where
 mv:Mv F w wr F1
 dy:c.Dy wr F1 An cn nds sm
 bg:aa wr g 181 #[.int .i64 p.1,.int .i64 p.2]
 b7:aa wr k7 100 (bG nx)
 b8:aa wr k8 100 (bG ny)
 b9:aa wr k9 100 (bG ⟨aj,A9,ls,c9,cO⟩)
 off:¬F1 g/\¬F1 k7/\¬F1 k8/\¬F1 k9
 lo:g<k9/\k7<k9/\k8<k9/\c.B<=w.heap.size/\c.w0.heap.size<=w.heap.size/\w.heap.size<=k9
 x:dp wr wr.heap.size nx
 xf:∀k,pQ nx k->¬F1 k/\k<k9
 y:dp wr wr.heap.size ny
 yf:∀k,pQ ny k->¬F1 k/\k<k9
 loc:iB wr F1 (k9+1) (.slice A9 ls.length c9) ls
section
variable {c:Mc} {F F1 F5:Nat->Prop} {w wr w4 w6:World} {p:Int×Int} {g k7 k8 k9 aj:Nat} {nx ny:Nd} {A9 An cX:OA} {c9 cn cY:Nat} {ls:List Ll} {nds fC:List Nd} {sm sm':dU}
theorem Mv.nd {n:Nd} (hm:Mv F1 wr w4 F5) (h:dp wr wr.heap.size n) (hf:∀k,pQ n k->¬F1 k/\k<k9):dp w4 w4.heap.size n/\∀k,pQ n k->¬F5 k/\k<k9 :=
 ⟨⟨(hm.row h.row (fun k hk=>(hf k (.inl hk)).1)).1,fun l hl=>(hm.row (h.each l hl) (fun k hk=>(hf k (.inr ⟨l,hl,hk⟩)).1)).1⟩,fun k hk=>⟨hm.off (h.cW hk) (hf k hk).1,(hf k hk).2⟩⟩
theorem vz.call (h:vz c F w p g k7 k8 k9 aj nx ny A9 c9 ls F1 An cn nds sm wr) (hm:Mv F1 wr w4 F5) (hd:c.Dy w4 F5 cX cY fC sm'):vz c F w p g k7 k8 k9 aj nx ny A9 c9 ls F5 cX cY fC sm' w4:=by
 obtain ⟨o1,o2,o3,o4⟩:=h.off;obtain ⟨x1,x2⟩:=hm.nd h.x h.xf;obtain ⟨y1,y2⟩:=hm.nd h.y h.yf;exact ⟨h.mv.trans hm,hd,(hm.box h.bg o1).1,(hm.box h.b7 o2).1,(hm.box h.b8 o3).1,(hm.box h.b9 o4).1,⟨(hm.box h.bg o1).2,(hm.box h.b7 o2).2,(hm.box h.b8 o3).2,(hm.box h.b9 o4).2⟩,h.lo,x1,x2,y1,y2,h.loc.mv hm⟩
theorem vz.below (h:vz c F w p g k7 k8 k9 aj nx ny A9 c9 ls F1 An cn nds sm wr) (hb:Below wr.heap.size wr w4):vz c F w p g k7 k8 k9 aj nx ny A9 c9 ls F1 An cn nds sm w4 :=
 h.call ((Mv.start F1 wr).below hb) (h.dy.below hb)
theorem vz.app (h:vz c F w p g k7 k8 k9 aj nx ny A9 c9 ls F1 An cn nds sm wr) {n k B2 c6:Nat} {A A6:OA} {cs:List Cl} (hn:ls.length=n) (cE:jG wr F1 B2 (.slice A cs.length k) cs) (hB:k9+1<=B2) (ae:∀j,(Value.slice A9 n c9).ownBlock=some j->j<B2)
 (ho:w6.ownsRow (k9+1) 164 1 (.slice A6 (n+1) c6) (n+1) (ls.map fi++[fi ⟨A,cs,k⟩])) (ha:App wr w6 (.slice A9 n c9) (.slice A6 (n+1) c6)) :
 vz c F w p g k7 k8 k9 aj nx ny A6 c6 (ls++[⟨A,cs,k⟩]) F1 An cn nds sm (w6.setCell ⟨k9,1,none⟩ (.slice A6 (n+1) c6)):=by
 obtain ⟨o1,o2,o3,o4⟩:=h.off;obtain ⟨l1,l2,l3,l4,l5,l6⟩:=h.lo;have Gg:=h.loc;rw [hn] at Gg;have El:∀j,(Value.slice A9 n c9).ownBlock=some j->k9+1<=j:=fun j hj=>(Gg.own.1.lt j hj).1
 have vh:∀j,j<wr.heap.size->j<=k9->w6.heap[j]? = wr.heap[j]? := fun j hj hk=>ha.de hj (fun e=>by have:=El j e;omega)
 have oH:∀j,j≠k9->(w6.setCell ⟨k9,1,none⟩ (.slice A6 (n+1) c6)).heap[j]? = w6.heap[j]? := fun j hj=>Below.heap_setCell w6 ⟨k9,1,none⟩ _ j hj
 have h9:=h.b9.lt;have hb:∀ {j:Nat} {t:TypeId} {cs:AV},aa wr j t cs->j<k9->aa (w6.setCell ⟨k9,1,none⟩ (.slice A6 (n+1) c6)) j t cs:=fun hj hl=>(oH _ (by omega)).trans ((vh _ hj.lt (by omega)).trans hj)
 have da:∀ {n':Nd},dp wr wr.heap.size n'->(∀k,pQ n' k->¬F1 k/\k<k9)->dp (w6.setCell ⟨k9,1,none⟩ (.slice A6 (n+1) c6)) (w6.setCell ⟨k9,1,none⟩ (.slice A6 (n+1) c6)).heap.size n':=fun {n'} hx hf=>by
  have hs:∀k,pQ n' k->(w6.setCell ⟨k9,1,none⟩ (.slice A6 (n+1) c6)).heap[k]? = wr.heap[k]? := fun k hk=>(oH k (by have:=(hf k hk).2;omega)).trans (vh k (hx.cW hk) (by have:=(hf k hk).2;omega))
  have hz:wr.heap.size<=(w6.setCell ⟨k9,1,none⟩ (.slice A6 (n+1) c6)).heap.size:=by
   have:=ha.grown.size;simpa using this
  exact ⟨(pL hx.row (fun k hk=>hs k (.inl hk))).more hz,fun l hl=>(pL (hx.each l hl) (fun k hk=>hs k (.inr ⟨l,hl,hk⟩))).more hz⟩
 have dR:(ls++[(⟨A,cs,k⟩:Ll)]).length=n+1:=by rw [aS,hn];rfl
 refine ⟨(h.mv.app ha (fun j hj=>by have:=El j hj;omega)).set (by omega) _,(h.dy.app ha (fun j hj=>⟨by have:=El j hj;omega,by have:=El j hj;omega,Gg.off j hj⟩)).aK (by omega) (by omega) o4 1 [_],hb h.bg l1,hb h.b7 l2,hb h.b8 l3,?_,h.off,h.lo,da h.x h.xf,h.xf,da h.y h.yf,h.yf,?_⟩
 .have h9b:aa w6 k9 100 (bG ⟨aj,A9,ls,c9,cO⟩):=(vh _ h9 (ah _)).trans h.b9;have:=h9b.set 1 (.slice A6 (n+1) c6);unfold bG;rw [dR];exact this
 .rw [dR];exact (iB.app (l:=⟨A,cs,k⟩) Gg cE hB ae ho ha hn h.dy.o.dV).bX (p:=⟨k9,1,none⟩) (Nat.lt_succ_self _) _
theorem Mq {ns:List aI} (hs:∀n∈ns,n.lists.length<=4/\∀l∈n.lists,l.length<=1000) (hf:∀n∈ns,∀x∈di n,eX x.ag) (i:Int):(cL ns i).lists.length<=4/\(∀t:Nat,(((cL ns i).lists[t]?).getD []).length<=1000/\∀x∈(((cL ns i).lists[t]?).getD []:List Cl),eX x.ag)/\eX (cL ns i).all.ag:=by
 have H:(cL ns i)=⟨0,[],cO⟩\/cL ns i∈ns:=by
  unfold cL;split
  .exact .inl rfl
  .cases h:ns[i.toNat]? with
   | none=>exact .inl rfl
   | some n=>exact .inr (mem_of_getElem? h)
 have hz:eX cO.ag:=by
  refine ⟨?_,?_,?_,?_,?_,?_,?_,?_,?_,?_⟩<;>(unfold fit cO aO;decide)
 rcases H with e | hm
 .rw [e];refine ⟨by simp,fun t=>⟨by simp,fun x hx=>by simp at hx⟩,hz⟩
 .refine ⟨(hs _ hm).1,fun t => ?_,hf _ hm _ (by unfold di;simp)⟩;cases ht:(cL ns i).lists[t]? with
  | none=>exact ⟨by simp,fun x hx=>by simp at hx⟩
  | some l =>
   have hl:=mem_of_getElem? ht;exact ⟨(hs _ hm).2 l hl,fun x hx=>hf _ hm x (by unfold di;simp only [mem_append,mem_flatten];exact .inl ⟨l,hl,hx⟩)⟩
theorem XY {n:Nd} (hx:dp wr wr.heap.size n) (hf:∀k,pQ n k->¬F1 k/\k<k9) (hc:Mg n) {A:OA} {l:List Cl} {kk:Nat} (h:(∃x∈n.ls,x.A=A/\x.cs=l/\x.c=kk)\/(A=none/\l=[])) :
 Row wr wr.heap.size A (l.flatMap bT)/\(∀k,eo A (l.flatMap bT) k->¬F1 k)/\l.length<=kk:=by
 rcases h with ⟨x,hm,rfl,rfl,rfl⟩ | ⟨rfl,rfl⟩
 .exact ⟨hx.each x hm,fun k hk=>(hf k (.inr ⟨x,hm,hk⟩)).1,hc x hm⟩
 .exact ⟨Row.nil _ _ _,fun k hk=>absurd rfl hk.1,aZ _⟩
theorem a19 {ns:List aI} {i:Int} {n:Nd} (hn:az n=cL ns i):hO n.all (decide (i ≠ -1))=qN ns i/\(decide (i ≠ -1)=false->n.all=cO):=by
 have ha:n.all=(cL ns i).all:=by rw [<-hn];rfl
 by_cases h:i = -1
 .refine ⟨by unfold hO qN;simp [h],fun _ => ?_⟩;rw [ha];unfold cL;rw [if_pos h]
 .refine ⟨?_,fun e=>absurd (of_decide_eq_false e) (by simpa using h)⟩;unfold hO qN;rw [if_neg h,ha];simp [h]
theorem Oc.Dy.yS {o:Oc} {w w':World} {gp:Nat} (h:o.Dy w F An cn nds) (hz:w.heap.size<=w'.heap.size) (hs:∀k,k<w.heap.size->k≠gp->w'.heap[k]? = w.heap[k]?) (hB:gp<o.B) (hg:gp≠o.go) (hf:F gp):o.Dy w' F An cn nds where
 line:=aT h.line hz
 low:=h.low
 fo:=h.fo
 dV:=fun k hk=>dL (h.dV k hk) hz
 vy:=(hs _ h.vy.lt (Ne.symm hg)).trans h.vy
 shape:=h.shape.same (fun k hk=>hs k (dL (h.cW hk) h.line) (fun e=>h.vL k hk (by rw [e];exact hf)))
 vL:=h.vL
 nodes:=h.nodes.yS ⟨hz,fun k hk hl=>hs k hl (by omega)⟩
 kY:=h.kY
 kJ:=h.kJ
theorem Mc.added {W w7 w8:World} {n':Nd} {pn:aI} (hc:c.Ok) (h:Mv F w W F5) (hd:c.Dy W F5 An cn nds sm) (hp:az n'=pn) (ho:c.toOc.Dy w7 (more F5 W w7) cX cY (nds++[n'])) (ht:bK (fun k=>k=c.go\/isRow (.slice An nds.length cn) k) W w7)
 (hg:w7.grownBy w8 (some c.gp)) (hm:vM w8 c.gp (sm.pairs++[p])):Mv F w w8 (more F5 W w7)/\c.Dy w8 (more F5 W w7) cX cY (nds++[n']) ⟨sm.nodes++[pn],sm.pairs++[p]⟩:=by
 have zR:=ht.size;have nN:=hg.size
 have hT:bK F5 W w8:=⟨hg.os.trans ht.os,hg.tape.trans ht.tape,hg.output.trans ht.output,aT zR nN,fun k hk hn=>(hg.block k (by omega) (fun e=>hn (by have:=Option.some.inj e;rw [this];exact hd.fp))).trans (ht.block k hk (fun e=>hn (by
  rcases e with e | e
  .rw [e];exact hd.o.fo
  .exact hd.o.kY k e)))⟩
 have lB:=hc.op;have Tn:=hc.mp;have KW:=hc.mo;have hB:=hc.pB;refine ⟨h.trans ⟨hT,fun k hk=>sB (ah _) nN hk,fun k hk => .inl hk⟩,ho.yS nN (fun k hk av=>hg.block k hk (fun e=>av (Option.some.inj e))) hc.pB (Ne.symm lB) (.inl hd.fp),Qu hd.base hT hd.fF hd.hi,fun k hk => ?_,.inl hd.fm,.inl hd.fp,?_,?_,?_,hm⟩
 .rcases hk with hk | ⟨hk,_⟩
  .exact hd.fF k hk
  .exact aT hd.hi hk
 .have ae:=hd.kg.lt
  exact (hg.block c.gm (by omega) (fun e=>Tn (Option.some.inj e))).trans ((ht.block c.gm ae (fun e=>by
   rcases e with e | e
   .exact KW e
   .have:=(hd.o.nodes.1.lt c.gm e).1;have:=hc.mB
    omega)).trans hd.kg)
 .rw [map_append,hd.plain,map_cons,map_nil,hp]
 .dsimp only;rw [aS,aS,hd.len];rfl
end
def mL (p:Int×Int) (a b:dU):Prop:=∃qs,b.pairs=a.pairs++qs/\p∉qs
theorem mL.refl (p:Int×Int) (a:dU):mL p a a:=⟨[],by simp,by simp⟩
theorem mL.trans {p:Int×Int} {a b c:dU} (h:mL p a b) (k:mL p b c):mL p a c:=by
 obtain ⟨x,e1,h1⟩:=h;obtain ⟨y,e2,h2⟩:=k;refine ⟨x++y,by rw [e2,e1,append_assoc],fun hm => ?_⟩;rcases mem_append.1 hm with hm | hm
 .exact h1 hm
 .exact h2 hm
theorem mL.none {p:Int×Int} {a b:dU} (h:mL p a b) (hf:kX p a.pairs=none):kX p b.pairs=none:=by
 obtain ⟨x,e1,h1⟩:=h;unfold kX at *;rw [findIdx?_eq_none_iff] at *;intro y hy;rw [e1] at hy;rcases mem_append.1 hy with hy | hy
 .exact hf y hy
 .exact beq_eq_false_iff_ne.2 (fun e=>h1 (e▸hy))
section
variable {f:Option RecM} {W':Int×Int->Prop} {p:Int×Int} (hd:∀g,f=some g->∀p' st r',W' p'->g p' st=some r'->mL p st r'.1)
include hd
theorem Rs {key:Nat} {h:Hv} {st:dU} {r:dU×Cl} (hw:W' (fY h.1,fY h.2)) (hr:Bb f key h st=some r):mL p st r.1:=by
 unfold Bb at hr;split at hr
 .obtain ⟨q,_,rfl⟩:=Option.map_eq_some_iff.1 hr;exact mL.refl _ _
 .obtain ⟨q,hq,rfl⟩:=Option.map_eq_some_iff.1 hr;exact hd _ rfl _ _ _ hw hq
theorem a0X:∀ (hs:List Hv) (s r:dU×List Cl),(∀h∈hs,W' (fY h.1,fY h.2))->uH f hs s=some r->mL p s.1 r.1
 | [],s,r,_,h=>by injection h with h;subst h;exact mL.refl _ _
 | h::hs,s,r,hw,hr=>by
  unfold uH at hr;obtain ⟨q,hq,hr⟩:=Option.bind_eq_some_iff.1 hr;exact (Rs hd (hw h mem_cons_self) hq).trans (a0X hs _ _ (fun k hk=>hw k (mem_cons_of_mem _ hk)) hr)
theorem RG {x y:List (List Cl)}:∀ (ts:LN) (s r:dU×List (List Cl)),(∀t∈ts,∀h∈ik ((x[t]?).getD []) ((y[t]?).getD []),W' (fY h.1,fY h.2))->vA f x y ts s=some r->mL p s.1 r.1
 | [],s,r,_,h=>by injection h with h;subst h;exact mL.refl _ _
 | t::ts,s,r,hw,hr=>by
  unfold vA at hr;obtain ⟨q,hq,hr⟩:=Option.bind_eq_some_iff.1 hr;exact (a0X hd _ _ _ (hw t mem_cons_self) hq).trans (RG ts _ _ (fun k hk=>hw k (mem_cons_of_mem _ hk)) hr)
end
theorem rE.prV {X Y:List aI} {p:Int×Int} (h1:rE X p.1) (h2:rE Y p.2) (hX:X.length<=20000) (hY:Y.length<=20000):mM p:=by
 have a : -1<=p.1/\p.1<20000:=by
  rcases h1 with e | ⟨n,e,hn⟩<;>omega
 have b : -1<=p.2/\p.2<20000:=by
  rcases h2 with e | ⟨n,e,hn⟩<;>omega
 constructor<;>omega
theorem a7Z {A B C D E:Type} {T X:A->B->C->D->E->Prop} {G:Prop} (main:(∀a b c d e,T a b c d e->X a b c d e)->G) (tail:∀a b c d e,T a b c d e->X a b c d e):G:=main tail
theorem XN (c:Mc) (hc:c.Ok) (W W':Int×Int->Prop) (f:Option RecM) (hf:Mj c W' f) (he:∀g,f=some g->Ix g) (cM:∀p,W p->rE c.na p.1/\rE c.nb p.2)
 (eH:∀p,W p->max (cL c.na p.1).aj (cL c.nb p.2).aj+1<=c.X.length/\decide (max (cL c.na p.1).aj (cL c.nb p.2).aj+1=c.X.length)=f.isNone) (eY:∀p,W p->W' (fY (qN c.na p.1),fY (qN c.nb p.2)))
 (Ld:∀p,W p->∀t,t<max (cL c.na p.1).lists.length (cL c.nb p.2).lists.length->∀h∈ik (((cL c.na p.1).lists[t]?).getD []) (((cL c.nb p.2).lists[t]?).getD []),W' (fY h.1,fY h.2))
 (OV:∀p,W p->∀g,f=some g->∀p' st r',W' p'->g p' st=some r'->mL p st r'.1) :
 Rj c W (xJ c.na c.nb c.most f):=by
 intro F An cn nds sm p w r hd hw hr hp;obtain ⟨j0,DP,DQ,DR,DS⟩:=info_parts QY;obtain ⟨wL,qu⟩:=cM p hw;have xe:=wL.prV qu hc.su.mU hc.okB.mU;have au:=(aq w.heap.size w).alloc (ah _) (.cells #[.int .i64 p.1,.int .i64 p.2] 181);have re:=kp (aa.new w 181 #[.int .i64 p.1,.int .i64 p.2]);have oI:=kp (hd.below au);have ay:=kp au;have Hd:=kp hd;have Hr:=kp hr;have Hp:=kp hp;have Hw:=kp hw;have qg:=kp xe;have HQ:=kp (show ∀ (i:Nat) (cX:OA) (cY:Nat) (fC:List Nd) w',r.2=i->xw c F w w' cX cY fC r.1->LI c F r w (.returned (.int .i64 (i:Nat))) w' from fun i cX cY fC w' e h=>⟨cX,cY,fC,by rw [e],h⟩);generalize hQ:LI c F r w=Q at *;clear hQ;generalize dk:w.alloc (.cells #[.int .i64 p.1,.int .i64 p.2] 181)=W1 at *;obtain ⟨z0,z1⟩:W1.cell? ⟨w.heap.size,0,none⟩=some (.int .i64 p.1)/\W1.cell? ⟨w.heap.size,1,none⟩=some (.int .i64 p.2):=⟨re.o.cell 0,re.o.cell 1⟩
 have x3:W1.cell? ⟨c.gm,3,none⟩=some (.map (some c.gp)):=oI.o.kg.cell 3;have x4:W1.cell? ⟨c.gm,4,none⟩=some (.int .i64 0):=oI.o.kg.cell 4;have ko:∀n,(Instr.lookup 177 (.map (some c.gp)) (.agg #[.int .i64 p.1,.int .i64 p.2]) true).run Tryz.prog (W1.drewN n) = .ok (.tuple #[.int .i64 (((kX p sm.pairs).getD 0:Nat):Int),.bool (kX p sm.pairs).isSome]) (W1.drewN n):=fun n=>ab2 (w:=W1.drewN n) (oI.o.met.same rfl) qg.o
 clear hd au hp xe;obtain ⟨gk,Le⟩:∃g,w.heap.size=g:=⟨_,rfl⟩
 have Hgk:=kp Le;rw [Le] at re z0 z1;unfold xJ at hr;cases L9:kX p sm.pairs with
 | some i =>
  rw [L9] at hr ko;injection hr with hr
  have bN:=kp (fun n=>HQ.o i An cn nds (W1.drewN n) (by rw [<-hr]) (by rw [<-hr];exact Hd.o.a0B (below_drewN ay.o n)));clear HQ hr Hr Hp Hw oI Hd;dsimp only [Option.getD,Option.isSome] at ko;go_enter Tryz.func85,Tryz.ntmps85;go_upto_region 1 with fail
  go_quiet (fail)
  go_wp2_with fail;exact bN.o _
 | none =>
  rw [L9] at hr ko;dsimp only [Option.getD,Option.isSome] at ko hr;go_enter Tryz.func85,Tryz.ntmps85;go_upto_region 1 with fail
  go_quiet (fail)
  go_upto_region 4 with fail
  clear Le ko x3 x4 z0 z1;have yA:=kp (below_drewN (aq W1.heap.size W1) nq);have jT:=kp (show gk+1<=W1.heap.size from re.o.lt);have Lf:=kp (show ∀w',Below W1.heap.size W1 w'->Calls Tryz.prog 125 #[.pointer (some ⟨c.ga,0,none⟩),.int .i64 p.1] w' (IM (cL c.na p.1) w') from fun w' hb=>a0L (hc.N1.below (oI.o.below hb).base) hc.su wL);have xm:=kp (show ∀w',Below W1.heap.size W1 w'->Calls Tryz.prog 125 #[.pointer (some ⟨c.gb,0,none⟩),.int .i64 p.2] w' (IM (cL c.nb p.2) w') from fun w' hb=>a0L (hc.Rc.below (oI.o.below hb).base) hc.okB qu);have fW:=kp (show ∀w',Below W1.heap.size W1 w'->(w'.cell? ⟨c.gm,0,none⟩=some (.pointer (some ⟨c.ga,0,none⟩))/\w'.cell? ⟨c.gm,1,none⟩=some (.pointer (some ⟨c.gb,0,none⟩))/\w'.cell? ⟨gk,0,none⟩=some (.int .i64 p.1)/\w'.cell? ⟨gk,1,none⟩=some (.int .i64 p.2)) from fun w' hb=>⟨(oI.o.below hb).kg.cell 0,(oI.o.below hb).kg.cell 1,(re.o.under hb).cell 0,(re.o.under hb).cell 1⟩);generalize hpx:cL c.na p.1=px at *;generalize hpy:cL c.nb p.2=py at *;have I9:=kp hpx;have Ia:=kp hpy;clear hpx hpy
  go_cut [7,8] from 32 to 45 (fun v7 v8 wx=>∃ (k7 k8:Nat) (nx ny:Nd),v7 = .pointer (some ⟨k7,0,none⟩)/\v8 = .pointer (some ⟨k8,0,none⟩)/\T4 W1 px py (some nx) (some ny) (some (k7,bG nx)) (some (k8,bG ny)) wx)
  case first =>
   have HT:=kp (T4.start (p:=px) (q:=py) (yA.o.drew));clear oI Hd HQ hr Hr Hp Hw dk ay re yA jT hf he cM eH eY Ld hc hw wL qu qg;refine wp_region_noPanic ?_;refine dt (t:=99) (S:=(fun w'=>w'.cell? ⟨c.gm,0,none⟩=some (.pointer (some ⟨c.ga,0,none⟩))/\w'.cell? ⟨c.gm,1,none⟩=some (.pointer (some ⟨c.gb,0,none⟩))/\w'.cell? ⟨gk,0,none⟩=some (.int .i64 p.1)/\w'.cell? ⟨gk,1,none⟩=some (.int .i64 p.2))) (by kernel_rfl) (fW.o _ HT.o.bJ) (fun ad => ?_);refine tD 0 1 2 3 ad ?_;refine tD 4 5 7 8 ad ?_;refine tD 9 10 11 12 ad ?_;generalize (W1.drewN nq).drew=wx at *;apply a7Z (T:=fun k7 k8 nx ny wx=>T4 W1 px py (some nx) (some ny) (some (k7,zN)) (some (k8,zN)) wx/\(wx.cell? ⟨c.gm,0,none⟩=some (.pointer (some ⟨c.ga,0,none⟩))/\wx.cell? ⟨c.gm,1,none⟩=some (.pointer (some ⟨c.gb,0,none⟩))/\wx.cell? ⟨gk,0,none⟩=some (.int .i64 p.1)/\wx.cell? ⟨gk,1,none⟩=some (.int .i64 p.2)))
   case main =>
    intro tail;refine pk (sJ (eh (i:=6) (fun K hK => ?_)) (sJ (eh (i:=14) (fun K hK => ?_)) (hU (eh (i:=15) (fun K hK => ?_)))))
    .go_simp
     refine (Lf.o _ HT.o.bJ).mono ?_;rintro e wx ⟨nx,rfl,k1,k2,⟨k3,k4⟩,k5⟩;replace HT:=kp (HT.o.get k1 k2 k3 k4 k5);refine hK.out _ _ (fW.o _ HT.o.bJ) (fun af => ?_);clear hK K k1 k2 k3 k4 k5
     try clear ad
     have ad:=af;clear af
     try simp only [Act.put,setIfInBounds_toArray,set_cons_zero,set_cons_succ]
     refine pk (sJ (eh (i:=13) (fun K hK => ?_)) (sJ (eh (i:=14) (fun K hK => ?_)) (hU (eh (i:=15) (fun K hK => ?_)))))
     .go_simp
      refine (xm.o _ HT.o.bJ).mono ?_;rintro e wx ⟨ny,rfl,k1,k2,⟨k3,k4⟩,k5⟩;replace HT:=kp ((HT.o.swap.get k1 k2 k3 k4 k5).swap);refine hK.out _ _ (fW.o _ HT.o.bJ) (fun af => ?_);clear hK K k1 k2 k3 k4 k5
      try clear ad
      have ad:=af;clear af
      try simp only [Act.put,setIfInBounds_toArray,set_cons_zero,set_cons_succ]
      refine pk (sJ (eh (i:=14) (fun K hK => ?_)) (hU (eh (i:=15) (fun K hK => ?_))))
      .go_simp
       replace HT:=kp (HT.o.al zN);refine hK.out _ _ (fW.o _ HT.o.bJ) (fun af => ?_);clear hK K
       try clear ad
       generalize wx.heap.size=k7 at HT ⊢;generalize wx.alloc _=wx at *;have ad:=af;clear af
       try simp only [Act.put,setIfInBounds_toArray,set_cons_zero,set_cons_succ]
       refine pk (hU (eh (i:=15) (fun K hK => ?_)))
       go_simp
       replace HT:=kp ((HT.o.swap.al zN).swap);refine hK.out _ _ (fW.o _ HT.o.bJ) (fun af => ?_);clear hK K
       try clear ad
       generalize wx.heap.size=k8 at HT ⊢;generalize wx.alloc _=wx at *;have ad:=af;clear af
       try simp only [Act.put,setIfInBounds_toArray,set_cons_zero,set_cons_succ]
       exact tail k7 k8 nx ny wx ⟨HT.o,ad⟩
      .go_simp
       replace HT:=kp ((HT.o.swap.al zN).swap);refine hK.out _ _ (fW.o _ HT.o.bJ) (fun af => ?_);clear hK K
       try clear ad
       generalize wx.heap.size=k8 at HT ⊢;generalize wx.alloc _=wx at *;have ad:=af;clear af
       try simp only [Act.put,setIfInBounds_toArray,set_cons_zero,set_cons_succ]
       refine pk (hU (eh (i:=14) (fun K hK => ?_)))
       go_simp
       replace HT:=kp (HT.o.al zN);refine hK.out _ _ (fW.o _ HT.o.bJ) (fun af => ?_);clear hK K
       try clear ad
       generalize wx.heap.size=k7 at HT ⊢;generalize wx.alloc _=wx at *;have ad:=af;clear af
       try simp only [Act.put,setIfInBounds_toArray,set_cons_zero,set_cons_succ]
       exact tail k7 k8 nx ny wx ⟨HT.o,ad⟩
     .go_simp
      replace HT:=kp (HT.o.al zN);refine hK.out _ _ (fW.o _ HT.o.bJ) (fun af => ?_);clear hK K
      try clear ad
      generalize wx.heap.size=k7 at HT ⊢;generalize wx.alloc _=wx at *;have ad:=af;clear af
      try simp only [Act.put,setIfInBounds_toArray,set_cons_zero,set_cons_succ]
      refine pk (sJ (eh (i:=13) (fun K hK => ?_)) (hU (eh (i:=15) (fun K hK => ?_))))
      .go_simp
       refine (xm.o _ HT.o.bJ).mono ?_;rintro e wx ⟨ny,rfl,k1,k2,⟨k3,k4⟩,k5⟩;replace HT:=kp ((HT.o.swap.get k1 k2 k3 k4 k5).swap);refine hK.out _ _ (fW.o _ HT.o.bJ) (fun af => ?_);clear hK K k1 k2 k3 k4 k5
       try clear ad
       have ad:=af;clear af
       try simp only [Act.put,setIfInBounds_toArray,set_cons_zero,set_cons_succ]
       refine pk (hU (eh (i:=15) (fun K hK => ?_)))
       go_simp
       replace HT:=kp ((HT.o.swap.al zN).swap);refine hK.out _ _ (fW.o _ HT.o.bJ) (fun af => ?_);clear hK K
       try clear ad
       generalize wx.heap.size=k8 at HT ⊢;generalize wx.alloc _=wx at *;have ad:=af;clear af
       try simp only [Act.put,setIfInBounds_toArray,set_cons_zero,set_cons_succ]
       exact tail k7 k8 nx ny wx ⟨HT.o,ad⟩
      .go_simp
       replace HT:=kp ((HT.o.swap.al zN).swap);refine hK.out _ _ (fW.o _ HT.o.bJ) (fun af => ?_);clear hK K
       try clear ad
       generalize wx.heap.size=k8 at HT ⊢;generalize wx.alloc _=wx at *;have ad:=af;clear af
       try simp only [Act.put,setIfInBounds_toArray,set_cons_zero,set_cons_succ]
       refine pk (hU (eh (i:=13) (fun K hK => ?_)))
       go_simp
       refine (xm.o _ HT.o.bJ).mono ?_;rintro e wx ⟨ny,rfl,k1,k2,⟨k3,k4⟩,k5⟩;replace HT:=kp ((HT.o.swap.get k1 k2 k3 k4 k5).swap);refine hK.out _ _ (fW.o _ HT.o.bJ) (fun af => ?_);clear hK K k1 k2 k3 k4 k5
       try clear ad
       have ad:=af;clear af
       try simp only [Act.put,setIfInBounds_toArray,set_cons_zero,set_cons_succ]
       exact tail k7 k8 nx ny wx ⟨HT.o,ad⟩
     .go_simp
      replace HT:=kp ((HT.o.swap.al zN).swap);refine hK.out _ _ (fW.o _ HT.o.bJ) (fun af => ?_);clear hK K
      try clear ad
      generalize wx.heap.size=k8 at HT ⊢;generalize wx.alloc _=wx at *;have ad:=af;clear af
      try simp only [Act.put,setIfInBounds_toArray,set_cons_zero,set_cons_succ]
      refine pk (sJ (eh (i:=13) (fun K hK => ?_)) (hU (eh (i:=14) (fun K hK => ?_))))
      .go_simp
       refine (xm.o _ HT.o.bJ).mono ?_;rintro e wx ⟨ny,rfl,k1,k2,⟨k3,k4⟩,k5⟩;replace HT:=kp ((HT.o.swap.get k1 k2 k3 k4 k5).swap);refine hK.out _ _ (fW.o _ HT.o.bJ) (fun af => ?_);clear hK K k1 k2 k3 k4 k5
       try clear ad
       have ad:=af;clear af
       try simp only [Act.put,setIfInBounds_toArray,set_cons_zero,set_cons_succ]
       refine pk (hU (eh (i:=14) (fun K hK => ?_)))
       go_simp
       replace HT:=kp (HT.o.al zN);refine hK.out _ _ (fW.o _ HT.o.bJ) (fun af => ?_);clear hK K
       try clear ad
       generalize wx.heap.size=k7 at HT ⊢;generalize wx.alloc _=wx at *;have ad:=af;clear af
       try simp only [Act.put,setIfInBounds_toArray,set_cons_zero,set_cons_succ]
       exact tail k7 k8 nx ny wx ⟨HT.o,ad⟩
      .go_simp
       replace HT:=kp (HT.o.al zN);refine hK.out _ _ (fW.o _ HT.o.bJ) (fun af => ?_);clear hK K
       try clear ad
       generalize wx.heap.size=k7 at HT ⊢;generalize wx.alloc _=wx at *;have ad:=af;clear af
       try simp only [Act.put,setIfInBounds_toArray,set_cons_zero,set_cons_succ]
       refine pk (hU (eh (i:=13) (fun K hK => ?_)))
       go_simp
       refine (xm.o _ HT.o.bJ).mono ?_;rintro e wx ⟨ny,rfl,k1,k2,⟨k3,k4⟩,k5⟩;replace HT:=kp ((HT.o.swap.get k1 k2 k3 k4 k5).swap);refine hK.out _ _ (fW.o _ HT.o.bJ) (fun af => ?_);clear hK K k1 k2 k3 k4 k5
       try clear ad
       have ad:=af;clear af
       try simp only [Act.put,setIfInBounds_toArray,set_cons_zero,set_cons_succ]
       exact tail k7 k8 nx ny wx ⟨HT.o,ad⟩
    .go_simp
     replace HT:=kp (HT.o.al zN);refine hK.out _ _ (fW.o _ HT.o.bJ) (fun af => ?_);clear hK K
     try clear ad
     generalize wx.heap.size=k7 at HT ⊢;generalize wx.alloc _=wx at *;have ad:=af;clear af
     try simp only [Act.put,setIfInBounds_toArray,set_cons_zero,set_cons_succ]
     refine pk (sJ (eh (i:=6) (fun K hK => ?_)) (hU (eh (i:=15) (fun K hK => ?_))))
     .go_simp
      refine (Lf.o _ HT.o.bJ).mono ?_;rintro e wx ⟨nx,rfl,k1,k2,⟨k3,k4⟩,k5⟩;replace HT:=kp (HT.o.get k1 k2 k3 k4 k5);refine hK.out _ _ (fW.o _ HT.o.bJ) (fun af => ?_);clear hK K k1 k2 k3 k4 k5
      try clear ad
      have ad:=af;clear af
      try simp only [Act.put,setIfInBounds_toArray,set_cons_zero,set_cons_succ]
      refine pk (sJ (eh (i:=13) (fun K hK => ?_)) (hU (eh (i:=15) (fun K hK => ?_))))
      .go_simp
       refine (xm.o _ HT.o.bJ).mono ?_;rintro e wx ⟨ny,rfl,k1,k2,⟨k3,k4⟩,k5⟩;replace HT:=kp ((HT.o.swap.get k1 k2 k3 k4 k5).swap);refine hK.out _ _ (fW.o _ HT.o.bJ) (fun af => ?_);clear hK K k1 k2 k3 k4 k5
       try clear ad
       have ad:=af;clear af
       try simp only [Act.put,setIfInBounds_toArray,set_cons_zero,set_cons_succ]
       refine pk (hU (eh (i:=15) (fun K hK => ?_)))
       go_simp
       replace HT:=kp ((HT.o.swap.al zN).swap);refine hK.out _ _ (fW.o _ HT.o.bJ) (fun af => ?_);clear hK K
       try clear ad
       generalize wx.heap.size=k8 at HT ⊢;generalize wx.alloc _=wx at *;have ad:=af;clear af
       try simp only [Act.put,setIfInBounds_toArray,set_cons_zero,set_cons_succ]
       exact tail k7 k8 nx ny wx ⟨HT.o,ad⟩
      .go_simp
       replace HT:=kp ((HT.o.swap.al zN).swap);refine hK.out _ _ (fW.o _ HT.o.bJ) (fun af => ?_);clear hK K
       try clear ad
       generalize wx.heap.size=k8 at HT ⊢;generalize wx.alloc _=wx at *;have ad:=af;clear af
       try simp only [Act.put,setIfInBounds_toArray,set_cons_zero,set_cons_succ]
       refine pk (hU (eh (i:=13) (fun K hK => ?_)))
       go_simp
       refine (xm.o _ HT.o.bJ).mono ?_;rintro e wx ⟨ny,rfl,k1,k2,⟨k3,k4⟩,k5⟩;replace HT:=kp ((HT.o.swap.get k1 k2 k3 k4 k5).swap);refine hK.out _ _ (fW.o _ HT.o.bJ) (fun af => ?_);clear hK K k1 k2 k3 k4 k5
       try clear ad
       have ad:=af;clear af
       try simp only [Act.put,setIfInBounds_toArray,set_cons_zero,set_cons_succ]
       exact tail k7 k8 nx ny wx ⟨HT.o,ad⟩
     .go_simp
      replace HT:=kp ((HT.o.swap.al zN).swap);refine hK.out _ _ (fW.o _ HT.o.bJ) (fun af => ?_);clear hK K
      try clear ad
      generalize wx.heap.size=k8 at HT ⊢;generalize wx.alloc _=wx at *;have ad:=af;clear af
      try simp only [Act.put,setIfInBounds_toArray,set_cons_zero,set_cons_succ]
      refine pk (hU (eh (i:=6) (fun K hK => ?_)))
      go_simp
      refine (Lf.o _ HT.o.bJ).mono ?_;rintro e wx ⟨nx,rfl,k1,k2,⟨k3,k4⟩,k5⟩;replace HT:=kp (HT.o.get k1 k2 k3 k4 k5);refine hK.out _ _ (fW.o _ HT.o.bJ) (fun af => ?_);clear hK K k1 k2 k3 k4 k5
      try clear ad
      have ad:=af;clear af
      try simp only [Act.put,setIfInBounds_toArray,set_cons_zero,set_cons_succ]
      refine pk (hU (eh (i:=13) (fun K hK => ?_)))
      go_simp
      refine (xm.o _ HT.o.bJ).mono ?_;rintro e wx ⟨ny,rfl,k1,k2,⟨k3,k4⟩,k5⟩;replace HT:=kp ((HT.o.swap.get k1 k2 k3 k4 k5).swap);refine hK.out _ _ (fW.o _ HT.o.bJ) (fun af => ?_);clear hK K k1 k2 k3 k4 k5
      try clear ad
      have ad:=af;clear af
      try simp only [Act.put,setIfInBounds_toArray,set_cons_zero,set_cons_succ]
      exact tail k7 k8 nx ny wx ⟨HT.o,ad⟩
    .go_simp
     replace HT:=kp ((HT.o.swap.al zN).swap);refine hK.out _ _ (fW.o _ HT.o.bJ) (fun af => ?_);clear hK K
     try clear ad
     generalize wx.heap.size=k8 at HT ⊢;generalize wx.alloc _=wx at *;have ad:=af;clear af
     try simp only [Act.put,setIfInBounds_toArray,set_cons_zero,set_cons_succ]
     refine pk (sJ (eh (i:=6) (fun K hK => ?_)) (hU (eh (i:=14) (fun K hK => ?_))))
     .go_simp
      refine (Lf.o _ HT.o.bJ).mono ?_;rintro e wx ⟨nx,rfl,k1,k2,⟨k3,k4⟩,k5⟩;replace HT:=kp (HT.o.get k1 k2 k3 k4 k5);refine hK.out _ _ (fW.o _ HT.o.bJ) (fun af => ?_);clear hK K k1 k2 k3 k4 k5
      try clear ad
      have ad:=af;clear af
      try simp only [Act.put,setIfInBounds_toArray,set_cons_zero,set_cons_succ]
      refine pk (sJ (eh (i:=13) (fun K hK => ?_)) (hU (eh (i:=14) (fun K hK => ?_))))
      .go_simp
       refine (xm.o _ HT.o.bJ).mono ?_;rintro e wx ⟨ny,rfl,k1,k2,⟨k3,k4⟩,k5⟩;replace HT:=kp ((HT.o.swap.get k1 k2 k3 k4 k5).swap);refine hK.out _ _ (fW.o _ HT.o.bJ) (fun af => ?_);clear hK K k1 k2 k3 k4 k5
       try clear ad
       have ad:=af;clear af
       try simp only [Act.put,setIfInBounds_toArray,set_cons_zero,set_cons_succ]
       refine pk (hU (eh (i:=14) (fun K hK => ?_)))
       go_simp
       replace HT:=kp (HT.o.al zN);refine hK.out _ _ (fW.o _ HT.o.bJ) (fun af => ?_);clear hK K
       try clear ad
       generalize wx.heap.size=k7 at HT ⊢;generalize wx.alloc _=wx at *;have ad:=af;clear af
       try simp only [Act.put,setIfInBounds_toArray,set_cons_zero,set_cons_succ]
       exact tail k7 k8 nx ny wx ⟨HT.o,ad⟩
      .go_simp
       replace HT:=kp (HT.o.al zN);refine hK.out _ _ (fW.o _ HT.o.bJ) (fun af => ?_);clear hK K
       try clear ad
       generalize wx.heap.size=k7 at HT ⊢;generalize wx.alloc _=wx at *;have ad:=af;clear af
       try simp only [Act.put,setIfInBounds_toArray,set_cons_zero,set_cons_succ]
       refine pk (hU (eh (i:=13) (fun K hK => ?_)))
       go_simp
       refine (xm.o _ HT.o.bJ).mono ?_;rintro e wx ⟨ny,rfl,k1,k2,⟨k3,k4⟩,k5⟩;replace HT:=kp ((HT.o.swap.get k1 k2 k3 k4 k5).swap);refine hK.out _ _ (fW.o _ HT.o.bJ) (fun af => ?_);clear hK K k1 k2 k3 k4 k5
       try clear ad
       have ad:=af;clear af
       try simp only [Act.put,setIfInBounds_toArray,set_cons_zero,set_cons_succ]
       exact tail k7 k8 nx ny wx ⟨HT.o,ad⟩
     .go_simp
      replace HT:=kp (HT.o.al zN);refine hK.out _ _ (fW.o _ HT.o.bJ) (fun af => ?_);clear hK K
      try clear ad
      generalize wx.heap.size=k7 at HT ⊢;generalize wx.alloc _=wx at *;have ad:=af;clear af
      try simp only [Act.put,setIfInBounds_toArray,set_cons_zero,set_cons_succ]
      refine pk (hU (eh (i:=6) (fun K hK => ?_)))
      go_simp
      refine (Lf.o _ HT.o.bJ).mono ?_;rintro e wx ⟨nx,rfl,k1,k2,⟨k3,k4⟩,k5⟩;replace HT:=kp (HT.o.get k1 k2 k3 k4 k5);refine hK.out _ _ (fW.o _ HT.o.bJ) (fun af => ?_);clear hK K k1 k2 k3 k4 k5
      try clear ad
      have ad:=af;clear af
      try simp only [Act.put,setIfInBounds_toArray,set_cons_zero,set_cons_succ]
      refine pk (hU (eh (i:=13) (fun K hK => ?_)))
      go_simp
      refine (xm.o _ HT.o.bJ).mono ?_;rintro e wx ⟨ny,rfl,k1,k2,⟨k3,k4⟩,k5⟩;replace HT:=kp ((HT.o.swap.get k1 k2 k3 k4 k5).swap);refine hK.out _ _ (fW.o _ HT.o.bJ) (fun af => ?_);clear hK K k1 k2 k3 k4 k5
      try clear ad
      have ad:=af;clear af
      try simp only [Act.put,setIfInBounds_toArray,set_cons_zero,set_cons_succ]
      exact tail k7 k8 nx ny wx ⟨HT.o,ad⟩
   case tail =>
    rintro k7 k8 nx ny wx ⟨HT,ad⟩;replace HT:=kp HT;refine pk (hU (eh (i:=16) (fun K hK => ?_)));obtain ⟨_,⟨f0,f1,f2,f3,f4,f5,f6,f7,f8,f9,mz,mA,qy,qz⟩⟩:=aa.cw (HT.o.gs _ _ rfl).2;obtain ⟨wf,sq⟩:∃z,aK wx k7 0 (dJ nx)=z:=⟨_,rfl⟩
    replace HT:=kp (HT.o.st rfl);rw [sq] at HT;obtain ⟨d1,A1,l1,c1,⟨k1,h1,⟨a1,b1,e1,i1,j1,o1,r1,s1,t1,u1⟩⟩⟩:=nx;simp only [dJ,aK,Nat.zero_add,Nat.reduceAdd] at sq
    go_simp
    refine hK.out _ _ (fW.o _ HT.o.bJ) (fun af => ?_);clear hK K ad sq f0 f1 f2 f3 f4 f5 f6 f7 f8 f9 mz mA qy qz;have ad:=af;clear af
    try simp only [Act.put,setIfInBounds_toArray,set_cons_zero,set_cons_succ]
    refine pk (hU (eh (i:=17) (fun K hK => ?_)));obtain ⟨_,⟨f0,f1,f2,f3,f4,f5,f6,f7,f8,f9,mz,mA,qy,qz⟩⟩:=aa.cw (HT.o.hs _ _ rfl).2;obtain ⟨wg,sq⟩:∃z,aK wf k8 0 (dJ ny)=z:=⟨_,rfl⟩
    replace HT:=kp ((HT.o.swap.st rfl).swap);rw [sq] at HT;obtain ⟨d2,A2,l2,c2,⟨k2,h2,⟨a2,b2,e2,i2,j2,o2,r2,s2,t2,u2⟩⟩⟩:=ny;simp only [dJ,aK,Nat.zero_add,Nat.reduceAdd] at sq
    go_simp
    refine hK.out _ _ (fW.o _ HT.o.bJ) (fun af => ?_);clear hK K ad sq f0 f1 f2 f3 f4 f5 f6 f7 f8 f9 mz mA qy qz;have ad:=af;clear af
    try simp only [Act.put,setIfInBounds_toArray,set_cons_zero,set_cons_succ]
    refine dY (by kernel_rfl) ?_ _;clear ad;refine NoPanic.normal ?_;go_wp2_with fail
    go_meet
    exact ⟨_,_,_,_,rfl,rfl,HT.o⟩
  case rest =>
   obtain ⟨k7,k8,nx,ny,rfl,rfl,hT⟩:=hcut;obtain ⟨fh,tf,AH,Er⟩:=hT.xs nx rfl;obtain ⟨AI,vX,Cd,Ef⟩:=hT.ys ny rfl;obtain ⟨g7,b7⟩:=hT.gs _ _ rfl;obtain ⟨g8,b8⟩:=hT.hs _ _ rfl;have d7:wc.cell? ⟨k7,0,none⟩=some (.int .i64 nx.aj):=b7.cell 0;have d8:wc.cell? ⟨k8,0,none⟩=some (.int .i64 ny.aj):=b8.cell 0;obtain ⟨aj,vu⟩:∃d,max nx.aj ny.aj=d:=⟨_,rfl⟩
   have BP:max (nx.aj:Int) (ny.aj:Int)=((aj:Nat):Int):=by omega
   have GP:=kp vu;clear vu;have aH:=(aq wc.heap.size wc).alloc (ah _) (.cells zN 100);have lI:=kp (aa.new wc 100 zN);generalize dN:wc.alloc (.cells zN 100)=W2 at *;obtain ⟨⟨r0,r1,r2,r3,r4,r5,r6,r7,r8,r9,kB,kC,uv,uw⟩,⟨f0,f1,f2,f3,f4,f5,f6,f7,f8,f9,mz,mA,qy,qz⟩⟩:=aa.cw lI.o;obtain ⟨W3,dH⟩:∃W3,aK W2 wc.heap.size 0 [.int .i64 (aj:Nat),.slice none 0 0,.int .i64 0,.int .i64 0,.int .i64 0,.int .i64 0,.int .i64 0,.int .i64 0,.int .i64 0,.int .i64 0,.int .i64 0,.int .i64 0,.int .i64 0,.int .i64 0]=W3:=⟨_,rfl⟩
   have iW:=kp (show aa W3 wc.heap.size 100 (bG ⟨aj,none,[],0,cO⟩) by rw [<-dH];exact eO lI.o _ rfl);have aN:Below wc.heap.size wc W3:=by rw [<-dH];exact eU (ah _) _ _ _ aH
   simp only [aK,Nat.zero_add,Nat.reduceAdd] at dH;have GZ:Below w.heap.size w W3:=ay.o.trans ((hT.bJ.trans (aN.mono hT.bJ.size)).mono ay.o.size);have Le:=Hgk.o;have zi:=jT.o;have fe:=hT.bJ.size;have a3W:=b7.lt;have a3X:=b8.lt
   have HM:=kp (show vz c F w p gk k7 k8 wc.heap.size aj nx ny none 0 [] F An cn nds sm W3 from
    ⟨(Mv.start F w).below GZ,Hd.o.below GZ,re.o.under (hT.bJ.trans (aN.mono hT.bJ.size)),b7.under aN,b8.under aN,iW.o,⟨fun h=>by have:=Hd.o.o.dV _ h;omega,fun h=>by have:=Hd.o.o.dV _ h;omega,fun h=>by have:=Hd.o.o.dV _ h;omega,fun h=>by have:=Hd.o.o.dV _ h;omega⟩,
     ⟨by omega,a3W,a3X,Hd.o.o.line,Hd.o.base.size,by omega⟩,(tf.below aN).more aN.size,fun k hk=>⟨fun h=>by have:=Hd.o.o.dV _ h;have:=AH.Mx hk;omega,tf.cW hk⟩,
     (vX.below aN).more aN.size,fun k hk=>⟨fun h=>by have:=Hd.o.o.dV _ h;have:=Cd.Mx hk;omega,vX.cW hk⟩,⟨jI.nil _ _,(fun k hk=>by cases hk),(fun x hx=>by cases hx)⟩⟩)
   clear Le zi fe a3W a3X aH aN GZ lI hT;go_upto_region 6 with fail
   clear r0 r1 r2 r3 r4 r5 r6 r7 r8 r9 kB kC uv uw f0 f1 f2 f3 f4 f5 f6 f7 f8 f9 mz mA qy qz dH dN d7 d8 BP iW;obtain ⟨k9,hk9⟩:∃k,wc.heap.size=k:=⟨_,rfl⟩
   rw [hk9] at HM ⊢;clear hk9 b7 b8 tf AH vX Cd g7 g8;have Lb:=kp Er;have Hy4:=kp Ef;have dw:=kp fh;have Cn:=kp AI
   have HD:=kp (show aj+1<=c.X.length/\decide (aj+1=c.X.length)=f.isNone by
    have:=eH p hw;rw [I9.o,Ia.o,<-fh,<-AI] at this;rw [<-GP.o]
    exact this)
   have HX:=kp (show c.xs.length=c.X.length by unfold Oc.X;rw [lM]);clear Er Ef fh AI;have yC:=kp (HM.o.below (aq W3.heap.size W3).drew);have HS:=kp (LR c.go c.As An c.cs c.m nds.length cn c.most c.xs W3.drew yC.o.dy.o.vy (yC.o.dy.o.shape.more yC.o.dy.o.line) (by rw [HX.o];exact hc.fin.n1) (by rw [HX.o];exact hc.fin.n16) (fun x hx=>by have:=hc.su.short x.keys (mem_map_of_mem hx);omega));refine wp_region_noPanic ?_;refine dt (t:=99) (S:=(fun w'=>w'.cell? ⟨c.gm,2,none⟩=some (.pointer (some ⟨c.go,0,none⟩))/\w'.cell? ⟨k9,0,none⟩=some (.int .i64 (aj:Nat)))) (by kernel_rfl) ⟨HM.o.dy.kg.cell 2,HM.o.b9.cell 0⟩ (fun ad => ?_);refine tD 0 1 2 3 ad ?_;refine tB 5 6 ad ?_;refine oT 4 fun K hK=>?_
   go_simp
   refine HS.o.mono ?_;rintro e w4 ⟨A4,c4,ys,rfl,ho4,Cg,cq⟩;have bH:=kp cq;have rP:ys.length=c.X.length:=(by have:=congrArg length Cg;rw [lM,lM] at this;rw [<-HX.o];exact this)
   have Ib:=kp (show decide (aj+1=ys.length)=f.isNone by rw [rP];exact HD.o.2);have sr:=kp (AR A4 ys.length c4 c.m aj w4 (by rw [rP];exact hc.fin.n1) (by have:=hc.fin.n16;omega) (by have:=HD.o.1;have:=hc.fin.n16;omega));clear cq rP Cg ho4;refine oK hK ?_ fun af=>?_
   .exact ⟨aL bH.o ad.1,aL bH.o ad.2⟩
   replace ad:=af;clear hK K af;refine oT 7 fun K hK=>?_
   go_simp
   refine sr.o.mono ?_;rintro e w5 ⟨he5,cV⟩;rw [Ib.o] at he5;subst he5;have bZ:=kp cV;clear cV;refine oK hK ?_ fun af=>?_
   .exact ⟨aL bZ.o ad.1,aL bZ.o ad.2⟩
   replace ad:=af;clear hK K af;refine tk 8 ad ?_;refine dY (by kernel_rfl) ?_ _
   try clear ad
   refine NoPanic.normal ?_;have oJ:=kp ((HM.o.below ((aq _ _).drew)).below bH.o |>.below bZ.o);clear HM HS sr bH bZ Ib;obtain ⟨pR,L3,hr⟩:=Option.bind_eq_some_iff.1 hr;obtain ⟨q,hq,hr⟩:=Option.bind_eq_some_iff.1 hr;have Hq:=kp hq;have Nh:=kp hr
   have a3Y:=kp (show c.sF q.1 from by
    refine Hp.o.of ?_;have hr:=Nh.o;split at hr
    .injection hr with hr
     rw [<-hr];exact ⟨_,rfl⟩
    .cases hr)
   have Hpt:=kp (a3Y.o.of (QE he hq));have HN7:=kp (show px.lists.length=nx.ls.length by rw [<-dw.o];exact lM _);have HN8:=kp (show py.lists.length=ny.ls.length by rw [<-Cn.o];exact lM _);obtain ⟨m,hm⟩:∃m,max nx.ls.length ny.ls.length=m:=⟨_,rfl⟩
   have Hm:=kp (show max px.lists.length py.lists.length=m by rw [HN7.o,HN8.o];exact hm);have BP:max (nx.ls.length:Int) (ny.ls.length:Int)=(m:Int):=by omega
   rw [Hm.o] at L3;have NK:=kp L3;have l7:w5.cell? ⟨k7,1,none⟩=some (.slice nx.A nx.ls.length nx.c):=oJ.o.b7.cell 1;have l8:w5.cell? ⟨k8,1,none⟩=some (.slice ny.A ny.ls.length ny.c):=oJ.o.b8.cell 1;clear hm hq hr L3;go_wp2_with fail;clear l7 l8 BP
   go_loopw [67] (fun Vl wr=>∃k,k<=m/\Vl = .int .i64 (k:Nat)/\∃ (A9:OA) (c9:Nat) (ls:List Ll) (F1:Nat->Prop) (pC:OA) (pE:Nat) (pF:List Nd) (uF:dU),ls.length=k/\vz c F w p gk k7 k8 k9 aj nx ny A9 c9 ls F1 pC pE pF uF wr/\vA f px.lists py.lists ((range m).drop k) (uF,ls.map Ll.cs)=some pR) (fun Vl _=>m-(intOf Vl).toNat)
   case atStart =>
    exact ⟨0,aZ _,rfl,none,0,[],F,An,cn,nds,sm,rfl,oJ.o,NK.o⟩
   case round =>
    obtain ⟨k,hk,rfl,A9,c9,ls,F1,pC,pE,pF,uF,fZ,hma,jM⟩:=hrel;have xn:=kp hma;have xS:=kp fZ;have a3Z:=kp jM;clear fZ hma jM;by_cases ae:k<m
    .have hdr:(range m).drop k=k::(range m).drop (k+1):=by
      rw [drop_eq_getElem_cons (by simpa using ae)];simp
     have jM:=a3Z.o;rw [hdr] at jM;unfold vA at jM;obtain ⟨r1,h1,h2⟩:=Option.bind_eq_some_iff.1 jM;have H1:=kp h1;have H2:=kp h2;have SS:=kp (show c.sF r1.1 from Hpt.o.of (Rt he _ _ _ h2))
     have Hwz:=kp (show ∀h∈ik ((px.lists[k]?).getD []) ((py.lists[k]?).getD []),W' (fY h.1,fY h.2) from by
      have:=Ld p hw k;rw [I9.o,Ia.o] at this
      exact this (by rw [Hm.o];exact ae))
     have OX:=kp (show px.lists.length<=4/\_ from by
      have:=Mq hc.su.small hc.LL p.1;rw [I9.o] at this
      exact this)
     have OY:=kp (show py.lists.length<=4/\_ from by
      have:=Mq hc.okB.small hc.M8 p.2;rw [Ia.o] at this
      exact this)
     have JC:m<=4:=by have:=OX.o.1;have:=OY.o.1;have:=Hm.o;omega
     have dr:=OX.o.1;have xo:=OY.o.1;rw [HN7.o] at dr;rw [HN8.o] at xo;have yC:=kp (xn.o.below (aq wr.heap.size wr).drew);have T1:=kp (a0J nx k wr.drew yC.o.x (by omega) (by omega));have D6:=kp (fun w' (h:dp w' w'.heap.size ny)=>a0J ny k w' h (by omega) (by omega));clear hdr jM h1 h2 dr xo;have q1:(k:Int)<(m:Int):=by omega
     go_upto_region 10 with fail
     refine wp_region_noPanic ?_;refine dt (t:=14) (S:=(fun w'=>(w'.cell? ⟨k9,1,none⟩=some (.slice A9 ls.length c9)/\w'.frozen? ⟨k9,1,none⟩=false)/\(jU w' k7 nx)/\(jU w' k8 ny))) (by kernel_rfl) ⟨⟨xn.o.b9.cell 1,xn.o.b9.free 1⟩,(aa.cw xn.o.b7).1,(aa.cw xn.o.b8).1⟩ (fun ad => ?_);refine tD 0 1 2 3 ad ?_;refine tD 4 5 7 8 ad ?_;refine oT 6 fun K hK=>?_
     go_simp
     refine T1.o.mono ?_;rintro e w1 ⟨Ax,lx,kx,rfl,dr,Co,ax⟩;have Ic:=kp (yC.o.below ax);have ml:=kp dr;have adX:=kp Co;have aM:=kp ax;have Dk:=kp (D6.o w1 Ic.o.y);clear dr Co ax;refine oK hK ?_ fun af=>?_
     .exact ⟨⟨Ic.o.b9.cell 1,Ic.o.b9.free 1⟩,(aa.cw Ic.o.b7).1,(aa.cw Ic.o.b8).1⟩
     replace ad:=af;clear hK K af;refine oT 9 fun K hK=>?_
     go_simp
     refine Dk.o.mono ?_;rintro e w2 ⟨Ay,ly,ky,rfl,xo,Ie,aH⟩;have tv:=kp (Ic.o.below aH);have Vm:=kp (XY tv.o.x tv.o.xf Lb.o adX.o);have Vn:=kp (XY tv.o.y tv.o.yf Hy4.o Ie);have OZ:=kp xo;clear xo Ie aH;refine oK hK ?_ fun af=>?_
     .exact ⟨⟨tv.o.b9.cell 1,tv.o.b9.free 1⟩,(aa.cw tv.o.b7).1,(aa.cw tv.o.b8).1⟩
     replace ad:=af;clear hK K af
     have HL:=kp (a7q c W' f hf he F1 pC pE pF uF Ax Ay kx ky lx ly w2 r1 tv.o.dy Vm.o.1 Vm.o.2.1 Vn.o.1 Vn.o.2.1 Vm.o.2.2 Vn.o.2.2
      (by rw [ml.o,dw.o];exact (OX.o.2.1 k).2) (by rw [OZ.o,Cn.o];exact (OY.o.2.1 k).2) (by rw [ml.o,dw.o];exact (OX.o.2.1 k).1) (by rw [OZ.o,Cn.o];exact (OY.o.2.1 k).1)
      (by rw [ml.o,dw.o,OZ.o,Cn.o];exact Hwz.o) (by rw [ml.o,dw.o,OZ.o,Cn.o];exact H1.o) SS.o)
     refine oT 10 fun K hK=>?_
     go_simp
     refine HL.o.mono ?_;rintro e w3 ⟨F5,pG,pH,j9,A5,k5,rfl,Vo,a3',x7⟩;have nP:=kp (tv.o.call Vo a3');have BY:=kp x7;have Hz5:=kp Vo.bU.size;clear Vo a3' x7;refine oK hK ?_ fun af=>?_
     .exact ⟨⟨nP.o.b9.cell 1,nP.o.b9.free 1⟩,(aa.cw nP.o.b7).1,(aa.cw nP.o.b8).1⟩
     replace ad:=af;clear hK K af;have O':=kp (nP.o.below ((aq w3.heap.size w3).alloc (ah _) (.cells #[.slice A5 r1.2.length k5] 164)));have jN:=kp nP.o.loc.own.1;have a42:k9<w3.heap.size:=nP.o.b9.lt;have a43:∀j,j<=k9->(Value.slice A9 ls.length c9).ownBlock≠some j:=fun j hj hh=>by have:=(jN.o.lt j hh).1;omega
     have Vp:=kp a43;have cz:ls.length<1048576*64:=by have:=xS.o;omega
     clear a43;refine oT 11 fun K hK=>?_
     go_simp
     refine oK hK ?_ fun af=>?_
     .exact ⟨⟨O'.o.b9.cell 1,O'.o.b9.free 1⟩,(aa.cw O'.o.b7).1,(aa.cw O'.o.b8).1⟩
     replace ad:=af;clear hK K af;refine oT 12 fun K hK=>?_
     refine xB rfl (.tmp 71) (.tmp 81) 96 rfl (k9+1) 164 j0 (.slice none 0 0) 24 Tryz.underlying96 DP DQ DR DS rfl w3 (.slice A5 r1.2.length k5) rfl (.slice A9 ls.length c9) ls.length (ls.map fi) rfl jN.o rfl cz (by decide) a42 ?_;intro v6 w6 iL jE;obtain ⟨A6,c6,h6⟩:=iq iL;subst h6;have gR:=kp iL;have lK:=kp jE;clear iL jE;have iN:=kp (show aa w6 k9 100 _ from (lK.o.de a42 (Vp.o _ (ah _))).trans nP.o.b9);have gi:=kp (show aa w6 k7 100 _ from (lK.o.de nP.o.b7.lt (Vp.o _ (by have:=nP.o.lo.2.1;omega))).trans nP.o.b7);have fk:=kp (show aa w6 k8 100 _ from (lK.o.de nP.o.b8.lt (Vp.o _ (by have:=nP.o.lo.2.2.1;omega))).trans nP.o.b8)
     go_simp
     refine oK hK ?_ fun af=>?_
     .exact ⟨⟨iN.o.cell 1,iN.o.free 1⟩,(aa.cw gi.o).1,(aa.cw fk.o).1⟩
     replace ad:=af;clear hK K af;refine tk 13 ad ?_;refine rr (o := ?oh14) (by kernel_rfl) ?ah14 (by kernel_rfl) (fun K hK => ?bh14)
     case ah14=>(simp only [getElem?_toArray,getElem?_cons_succ,getElem?_cons_zero];exact rfl)
     obtain ⟨⟨ic,oX⟩,_⟩:=ad;have ad:=ic
     go_simp
     refine hK.out _ _ ?_;clear hK K ad;refine NoPanic.normal ?_
     try simp only [Act.put,setIfInBounds_toArray,set_cons_zero,set_cons_succ]
     have HF:=kp (nP.o.app rfl BY.o (aT tv.o.b9.lt (ah _)) (fun j hj=>(tv.o.loc.own.1.lt j hj).2) gR.o lK.o);go_wp2_with fail;exact ⟨⟨k+1,by omega,by go_num,A6,c6,ls++[⟨A5,r1.2,k5⟩],F5,pG,pH,j9,r1.1,by rw [aS,xS.o];rfl,HF.o,by rw [map_append];exact H2.o⟩,by simp [intOf];omega⟩
    .have hkm:k=m:=by omega
     subst hkm
     have Htt:=kp (show pR=(uF,ls.map Ll.cs) from by
      have:=a3Z.o;rw [drop_of_length_le (by simp)] at this;injection this with this
      exact this.symm)
     have sd:=a19 (dw.o.trans I9.o.symm);have D8:=a19 (Cn.o.trans Ia.o.symm);have Co:=Mq hc.su.small hc.LL p.1;have Ie:=Mq hc.okB.small hc.M8 p.2;have AB:=eY p hw;have hax:nx.all=px.all:=by rw [<-dw.o];rfl
     have hay:ny.all=py.all:=by rw [<-Cn.o];rfl
     rw [I9.o,<-hax] at Co;rw [Ia.o,<-hay] at Ie;rw [<-sd.1,<-D8.1] at AB;have nE:=Hq.o;rw [<-sd.1,<-D8.1,Htt.o] at nE;obtain ⟨b1,ax⟩:∃b,decide (p.1 ≠ -1)=b:=⟨_,rfl⟩
     obtain ⟨b2,aH⟩:∃b,decide (p.2 ≠ -1)=b:=⟨_,rfl⟩
     rw [ax] at sd AB nE;rw [aH] at D8 AB nE;have e1:(!decide (p.1 = -1))=b1:=by rw [<-ax];simp
     have e2:(!decide (p.2 = -1))=b2:=by rw [<-aH];simp
     have e3:(p.1 != -1)=b1:=by rw [<-ax,Bool.eq_iff_iff];simp
     have e4:(p.2 != -1)=b2:=by rw [<-aH,Bool.eq_iff_iff];simp
     have HC:=kp (hf F1 pC pE pF uF 0 nx.all b1 ny.all b2 wr q xn.o.dy sd.2 D8.2 Co.2.2 Ie.2.2 AB nE a3Y.o);have x4:wr.cell? ⟨c.gm,4,none⟩=some (.int .i64 0):=xn.o.dy.kg.cell 4;obtain ⟨t0,t1,_,_⟩:=xn.o.bg.two;obtain ⟨⟨_,_,r2,r3,r4,r5,r6,r7,r8,r9,kB,kC,uv,uw⟩,_⟩:=aa.cw xn.o.b7;obtain ⟨⟨_,_,s2,s3,s4,s5,s6,s7,s8,s9,Kn,s11,s12,s13⟩,_⟩:=aa.cw xn.o.b8;have q1:¬ (k:Int)<(k:Int):=by omega
     clear sd D8 Co Ie AB nE hax hay ax aH;go_wp2_with fail;refine HC.o.mono ?_;rintro e w5 ⟨pG,pH,j9,rfl,mC⟩;have oJ:=kp (xn.o.call mC.mv mC.dy);clear mC HC r2 r3 r4 r5 r6 r7 r8 r9 kB kC uv uw s2 s3 s4 s5 s6 s7 s8 s9 Kn s11 s12 s13 t0 t1 x4;generalize more F1 wr w5=F5 at *;obtain ⟨_,⟨_,_,f2,f3,f4,f5,f6,f7,f8,f9,mz,mA,qy,qz⟩⟩:=aa.cw oJ.o.b9;obtain ⟨af5,Vq⟩:q.1.nodes.length<c.most/\r=(⟨q.1.nodes++[az ⟨aj,A9,ls,c9,q.2⟩],q.1.pairs++[p]⟩,q.1.nodes.length):=by
      have hr:=Nh.o;split at hr
      .injection hr with hr
       refine ⟨‹_›,?_⟩;rw [<-hr,Htt.o,<-GP.o,<-dw.o,<-Cn.o];rfl
      .cases hr
     have Lg:=kp (show kX p q.1.pairs=none from by
      have hz:=Ld p hw;have ha:=eY p hw;rw [I9.o,Ia.o] at hz;rw [Hm.o] at hz
      exact ((RG (OV p hw) _ _ _ (fun t ht=>hz t (mem_range.1 ht)) NK.o).trans (Rs (OV p hw) ha Hq.o)).none L9)
     obtain ⟨cx,Eg⟩:∃x,q.2=x:=⟨_,rfl⟩
     rw [Eg] at Vq ⊢;have Vr:=kp Vq;clear Vq Eg;obtain ⟨W6,lL⟩:∃W6,aK w5 k9 2 [.int .i64 cx.key,.int .i64 cx.child,.int .i64 cx.ag.c,.int .i64 cx.ag.s0,.int .i64 cx.ag.n0,.int .i64 cx.ag.x0,.int .i64 cx.ag.s1,.int .i64 cx.ag.n1,.int .i64 cx.ag.x1,.int .i64 cx.ag.s2,.int .i64 cx.ag.n2,.int .i64 cx.ag.x2]=W6:=⟨_,rfl⟩
     have gG:=kp (show aa W6 k9 100 (bG ⟨aj,A9,ls,c9,cx⟩) by rw [<-lL];exact LX [.int .i64 cx.key,.int .i64 cx.child,.int .i64 cx.ag.c,.int .i64 cx.ag.s0,.int .i64 cx.ag.n0,.int .i64 cx.ag.x0,.int .i64 cx.ag.s1,.int .i64 cx.ag.n1,.int .i64 cx.ag.x1,.int .i64 cx.ag.s2,.int .i64 cx.ag.n2,.int .i64 cx.ag.x2] w5 [.int .i64 (aj:Nat),.slice A9 ls.length c9] [.int .i64 0,.int .i64 0,.int .i64 0,.int .i64 0,.int .i64 0,.int .i64 0,.int .i64 0,.int .i64 0,.int .i64 0,.int .i64 0,.int .i64 0,.int .i64 0] oJ.o.b9 rfl);have adY:=kp (show Mv F w W6 F5 by rw [<-lL];exact oJ.o.mv.aK oJ.o.lo.2.2.2.2.2 _ _);have rn:=kp (show c.Dy W6 F5 pG pH j9 q.1 by rw [<-lL];exact oJ.o.dy.aK (aT oJ.o.lo.2.2.2.2.1 oJ.o.lo.2.2.2.2.2) (aT oJ.o.lo.2.2.2.1 oJ.o.lo.2.2.2.2.2) oJ.o.off.2.2.2 _ _);have Hg6:=kp (show aa W6 gk 181 #[.int .i64 p.1,.int .i64 p.2] by rw [<-lL];exact (gu (Nat.ne_of_lt oJ.o.lo.1) _ _ _).trans oJ.o.bg);have DY:=kp (show iB W6 F5 (k9+1) (.slice A9 ls.length c9) ls by rw [<-lL];exact iB.tU (Nat.lt_succ_self _) _ _ _ oJ.o.loc);have P0:=kp (show ¬F5 gk/\¬F5 k9 from ⟨oJ.o.off.1,oJ.o.off.2.2.2⟩);simp only [aK,Nat.reduceAdd] at lL;have x4:W6.cell? ⟨c.gm,4,none⟩=some (.int .i64 0):=rn.o.kg.cell 4;have Ib:=kp (rn.o.below (aq W6.heap.size W6).drew)
     have HA:=kp (show Calls Tryz.prog 78 #[.pointer (some ⟨c.go,0,none⟩),.agg (bG ⟨aj,A9,ls,c9,cx⟩)] W6.drew (a0m c.toOc F5 pG pH j9 (az ⟨aj,A9,ls,c9,cx⟩) W6.drew) from by
      obtain ⟨ys,GH⟩:=Hp.o;refine a0N (ys:=ys) hc.fin Ib.o.o ⟨((DY.o.below (aq W6.heap.size W6).drew).own.at_).1,((DY.o.below (aq W6.heap.size W6).drew).own.at_).2⟩ ?_;rw [GH,Vr.o,Ib.o.plain]
      simp)
     go_upto_region 16 with fail
     clear f2 f3 f4 f5 f6 f7 f8 f9 mz mA qy qz x4 lL;refine wp_region_noPanic ?_;refine dt (t:=99) (S:=(fun w'=>w'.cell? ⟨c.gm,2,none⟩=some (.pointer (some ⟨c.go,0,none⟩))/\(w'.cell? ⟨k9,0,none⟩=some (.int .i64 (aj:Nat))/\w'.cell? ⟨k9,1,none⟩=some (.slice A9 ls.length c9)/\w'.cell? ⟨k9,2,none⟩=some (.int .i64 cx.key)/\w'.cell? ⟨k9,3,none⟩=some (.int .i64 cx.child)/\w'.cell? ⟨k9,4,none⟩=some (.int .i64 cx.ag.c)/\w'.cell? ⟨k9,5,none⟩=some (.int .i64 cx.ag.s0)/\w'.cell? ⟨k9,6,none⟩=some (.int .i64 cx.ag.n0)/\w'.cell? ⟨k9,7,none⟩=some (.int .i64 cx.ag.x0)/\w'.cell? ⟨k9,8,none⟩=some (.int .i64 cx.ag.s1)/\w'.cell? ⟨k9,9,none⟩=some (.int .i64 cx.ag.n1)/\w'.cell? ⟨k9,10,none⟩=some (.int .i64 cx.ag.x1)/\w'.cell? ⟨k9,11,none⟩=some (.int .i64 cx.ag.s2)/\w'.cell? ⟨k9,12,none⟩=some (.int .i64 cx.ag.n2)/\w'.cell? ⟨k9,13,none⟩=some (.int .i64 cx.ag.x2)))) (by kernel_rfl) ⟨rn.o.kg.cell 2,(aa.cw gG.o).1⟩ (fun ad => ?_);refine tD 0 1 2 3 ad ?_;refine tk 4 ad ?_
     have yc:=kp (show ∀w7,bK (fun i=>i=c.go\/isRow (.slice pG j9.length pH) i) W6.drew w7->w7.heap[c.gm]? = W6.heap[c.gm]? /\ w7.heap[k9]? = W6.heap[k9]? /\ w7.heap[gk]? = W6.heap[gk]? /\ w7.heap[c.gp]? = W6.heap[c.gp]? from fun w7 hT=>by
      have hh:∀i,i<W6.heap.size->i≠c.go->¬isRow (.slice pG j9.length pH) i->w7.heap[i]? = W6.heap[i]? := fun i hi h1 h2=>hT.block i hi (fun e=>e.elim h1 h2)
      have hr:∀i,isRow (.slice pG j9.length pH) i->c.B<=i/\F5 i:=fun i hi=>⟨(rn.o.o.nodes.1.lt i hi).1,rn.o.o.kY i hi⟩
      refine ⟨hh _ rn.o.kg.lt hc.mo (fun e=>by have:=(hr _ e).1;have:=hc.mB;omega),hh _ gG.o.lt (fun e=>P0.o.2 (by rw [e];exact rn.o.o.fo)) (fun e=>P0.o.2 (hr _ e).2),hh _ Hg6.o.lt (fun e=>P0.o.1 (by rw [e];exact rn.o.o.fo)) (fun e=>P0.o.1 (hr _ e).2),hh _ rn.o.met.lt (Ne.symm hc.op) (fun e=>by have:=(hr _ e).1;have:=hc.pB;omega)⟩)
     refine oT 5 fun K hK=>?_
     go_simp
     refine HA.o.mono ?_;rintro e w7 ⟨yq,yr,n7,rfl,a47,a48,ka⟩;have yt:=kp (yc.o w7 ka);have U0:=kp a47;have adZ:=kp a48;have DZ:=kp ka;clear a47 a48 ka;refine oK hK ?_ fun af=>?_
     .exact ⟨(cZ (a:=⟨c.gm,2,none⟩) yt.o.1).trans (rn.o.kg.cell 2),(aa.cw (show aa w7 k9 100 _ from yt.o.2.1.trans gG.o)).1⟩
     replace ad:=af;clear hK K af;refine tD 6 7 8 9 ad ?_;refine tk 10 ad ?_;refine dY (by kernel_rfl) ?_ _
     try clear ad
     refine NoPanic.normal ?_;have gi:=kp (show aa w7 c.gm 179 _ from yt.o.1.trans rn.o.kg);have OU:=kp (show aa w7 gk 181 _ from yt.o.2.2.1.trans Hg6.o);have oF:q.1.pairs.length=j9.length:=by rw [rn.o.len,<-rn.o.plain,lM]
     have N':=kp (show q.1.pairs.length<=1000000 from by
      rw [oF];have h1:j9.length=q.1.nodes.length:=by rw [<-rn.o.plain,lM]
      have h2:=hc.fin.MR;have h3:c.toOc.most=c.most:=rfl
      omega)
     obtain ⟨w8,P5,a4a,zE⟩:=a8t (w:=w7.drew) (p:=p) (pairs:=q.1.pairs) (rn.o.met.same (w':=w7.drew) yt.o.2.2.2) qg.o Lg.o N'.o;rw [oF] at P5;have U1:=kp a4a;have Hg8:=kp zE;have ad':=kp P5;have Om:=kp (Mc.added (w7:=w7.drew) hc (adY.o.below (aq W6.heap.size W6).drew) Ib.o U0.o (adZ.o.below (aq w7.heap.size w7).drew) ⟨DZ.o.os,DZ.o.tape,DZ.o.output,DZ.o.size,DZ.o.block⟩ Hg8.o U1.o);have bN:=kp (HQ.o j9.length yq yr (j9++[n7]) w8 (by rw [Vr.o,<-rn.o.plain,lM]) (by rw [Vr.o];exact Mv.uL Om.o.1 Om.o.2 Hd.o.o.line Hd.o.hi (fun k hk=>Hd.o.o.vL k hk) (fun k hk=>⟨Hd.o.o.dV k hk,Hd.o.fF k hk⟩)));clear a4a zE P5 oF;go_upto_region 20 with fail
     refine wp_region_noPanic ?_;refine dt (t:=6) (S:=(fun w'=>w'.cell? ⟨c.gm,3,none⟩=some (.map (some c.gp))/\w'.cell? ⟨gk,0,none⟩=some (.int .i64 p.1)/\w'.cell? ⟨gk,1,none⟩=some (.int .i64 p.2))) (by kernel_rfl) ⟨gi.o.cell 3,OU.o.cell 0,OU.o.cell 1⟩ (fun ad => ?_);refine tD 0 1 2 3 ad ?_;refine tB 4 5 ad ?_;refine rr (o := ?or6) (by kernel_rfl) ?ar6 (by kernel_rfl) (fun K hK => ?br6)
     case ar6=>(simp only [getElem?_toArray,getElem?_cons_succ,getElem?_cons_zero];exact rfl)
     have P5:=ad'.o
     go_simp
     refine hK.out _ _ ?_;clear hK K ad;refine NoPanic.normal ?_
     try simp only [Act.put,setIfInBounds_toArray,set_cons_zero,set_cons_succ]
     go_wp2_with fail;exact bN.o
theorem YR {X Y:List aI} {most:Nat} {f:Option RecM} {W':Int×Int->Prop} {p p':Int×Int} (hd:∀g,f=some g->∀p' st r',W' p'->g p' st=some r'->mL p st r'.1) (av:p≠p') (eY:W' (fY (qN X p'.1),fY (qN Y p'.2)))
 (Ld:∀t,t<max (cL X p'.1).lists.length (cL Y p'.2).lists.length->∀h∈ik (((cL X p'.1).lists[t]?).getD []) (((cL Y p'.2).lists[t]?).getD []),W' (fY h.1,fY h.2)) {st:dU} {r:dU×Nat} (hr:xJ X Y most f p' st=some r):mL p st r.1:=by
 unfold xJ at hr;split at hr
 .injection hr with hr
  rw [<-hr];exact mL.refl _ _
 .obtain ⟨q,hq,hr⟩:=Option.bind_eq_some_iff.1 hr;obtain ⟨x,hx,hr⟩:=Option.bind_eq_some_iff.1 hr;split at hr
  .injection hr with hr
   rw [<-hr];exact ((RG hd _ _ _ (fun t ht=>Ld t (mem_range.1 ht)) hq).trans (Rs hd eY hx)).trans ⟨[p'],rfl,fun h=>av (mem_singleton.1 h)⟩
  .cases hr
section
variable {X Y:List aI} {most nx:Nat}
theorem J2:∀ {d:Nat} {p:Int×Int},tS X Y nx d p->max (cL X p.1).aj (cL Y p.2).aj+1+d=nx
 | 0,_,h=>h.2
 | _+1,_,h=>h.2.1
theorem a0f:∀ {d:Nat} {p:Int×Int},tS X Y nx d p->rE X p.1/\rE Y p.2
 | 0,_,h=>h.1
 | _+1,_,h=>h.1
theorem XA (p:Int×Int):∀ (d:Nat),max (cL X p.1).aj (cL Y p.2).aj+1+d<nx->∀p' st r',tS X Y nx d p'->AK X Y most d p' st=some r'->mL p st r'.1
 | 0,hp,p',st,r',hw,hr=>by
  have vu:=J2 hw;exact YR (W':=fun _=>True) (fun g e=>by cases e) (fun e=>by subst e;omega) trivial (fun _ _ _ _=>trivial) hr
 | d+1,hp,p',st,r',hw,hr=>by
  have vu:=J2 hw
  exact YR (W':=tS X Y nx d) (fun g e p2 G1 r2 Tl lZ=>by
   injection e with e
   subst e
   exact XA p d (by omega) p2 G1 r2 Tl lZ) (fun e=>by subst e;omega) hw.2.2.1 (fun t ht h hh=>hw.2.2.2 t ht h hh) hr
end
theorem ZL (c:Mc) (hc:c.Ok):∀ (d:Nat),Rj c (tS c.na c.nb c.X.length d) (AK c.na c.nb c.most d)
 | 0=>XN c hc _ (fun _=>True) none (a8G c _) (fun g e=>by cases e) (fun p h=>a0f h) (fun p h=>by
  have:=J2 h
  exact ⟨by omega,decide_eq_true (by omega)⟩) (fun _ _=>trivial) (fun _ _ _ _ _ _=>trivial) (fun p _ g e=>by cases e)
 | d+1=>XN c hc _ (tS c.na c.nb c.X.length d) (some (AK c.na c.nb c.most d)) (ab4 c _ _ (ZL c hc d)) (fun g e=>by injection e with e;subst e;exact a0W) (fun p h=>a0f h) (fun p h=>by
  have:=J2 h;exact ⟨by omega,decide_eq_false (by omega)⟩) (fun p h=>h.2.2.1) (fun p h=>h.2.2.2) (fun p h g e p' st r' hw hr=>by
  injection e with e
  subst e;have:=J2 h
  exact XA p d (by omega) p' st r' hw hr)
end Go.Proofs.YtjopcamkclndlaaGreat.Tc
namespace Go.Proofs.YtjopcamkclndlaaGreat.Tc
open List Go.RowKit Base Go.Maps Go.WideMaps
section
attribute [local go_sem] EP
theorem ZN {w:World} {B n c k:Nat} {A:OA} {xs:List Fa} (h:fX w B (.slice A n c) xs) (hk:ir A xs k):B<=k:=by
 rcases hk with ⟨off,e,av⟩ | ⟨f,hf,off,e,av⟩
 .subst e;exact (h.1.lt k rfl).1
 .exact h.2.2 f hf k off e av
theorem AM {w:World} {B n c s e k:Nat} {A:OA} {vs:LV} (h:w.ownsRow B e s (.slice A n c) n vs) (hk:eo A vs k):(Value.slice A n c).ownBlock=some k:=by
 obtain ⟨_,off,rfl⟩:=hk;rfl
structure a1l (X:List LN) (m most:Nat) (na nb ns:List aI):Prop where
 su:jJ X m na
 okB:jJ X m nb
 sh:∀xs:List Fa,xs.map Fa.keys=X->Bg xs m
 MR:most<=131072
 LL:∀n∈na,∀x∈di n,eX x.ag
 M8:∀n∈nb,∀x∈di n,eX x.ag
 run:CH X.length na nb most=some ns
 fin:tI X m most ns
 wf:¬ (na=[]/\nb=[])->tS na nb X.length (X.length-1) (lR na,lR nb)
def hJ (w:World) (P:Nat->Prop) (ga:Nat) (X:List LN) (m:Nat) (ns:List aI):Prop:=∃ (A An:OA) (c cn most:Nat) (ys:List Fa) (nds:List Nd),
 (aa w ga 160 (im A ys.length c m An nds.length cn most)/\ep w w.heap.size A ys/\ys.map Fa.keys=X/\jH w w.heap.size An nds/\nds.map az=ns)/\P ga/\(∀k,ir A ys k->P k)/\(∀k,eo An (nds.flatMap dJ) k->P k)/\∀n∈nds,∀k,pQ n k->P k
section
variable {X:List LN} {m ga:Nat} {ns:List aI} {w w':World} {P Q:Nat->Prop}
theorem hJ.at_ (h:hJ w P ga X m ns):ft w ga X m ns:=by
 obtain ⟨A,An,c,cn,most,ys,nds,h,_⟩:=h;exact ⟨A,An,c,cn,most,ys,nds,h⟩
theorem YV {n:Nd} {B k:Nat} (h:dp w B n) (hk:pQ n k):k<B:=by
 rcases hk with hk | ⟨l,hl,hk⟩
 .exact Row.cW h.row hk
 .exact Row.cW (h.each l hl) hk
theorem ft.p (h:ft w ga X m ns):hJ w (fun k=>k<w.heap.size) ga X m ns:=by
 obtain ⟨A,An,c,cn,most,ys,nds,h⟩:=h;exact ⟨A,An,c,cn,most,ys,nds,h,h.1.lt,fun k hk=>h.2.1.cW hk,fun k hk=>Row.cW h.2.2.2.1.row hk,fun n hn k hk=>YV (h.2.2.2.1.each n hn) hk⟩
theorem hJ.both (h:hJ w P ga X m ns):hJ w (fun k=>P k/\k<w.heap.size) ga X m ns:=by
 obtain ⟨A,An,c,cn,most,ys,nds,h,h1,h2,h3,h4⟩:=h;exact ⟨A,An,c,cn,most,ys,nds,h,⟨h1,h.1.lt⟩,fun k hk=>⟨h2 k hk,h.2.1.cW hk⟩,fun k hk=>⟨h3 k hk,Row.cW h.2.2.2.1.row hk⟩,fun n hn k hk=>⟨h4 n hn k hk,YV (h.2.2.2.1.each n hn) hk⟩⟩
theorem hJ.imp (h:hJ w P ga X m ns) (hi:∀k,P k->Q k):hJ w Q ga X m ns:=by
 obtain ⟨A,An,c,cn,most,ys,nds,h,h1,h2,h3,h4⟩:=h;exact ⟨A,An,c,cn,most,ys,nds,h,hi _ h1,fun k hk=>hi k (h2 k hk),fun k hk=>hi k (h3 k hk),fun n hn k hk=>hi k (h4 n hn k hk)⟩
theorem hJ.same (h:hJ w P ga X m ns) (hz:w.heap.size<=w'.heap.size) (hs:∀k,k<w.heap.size->P k->w'.heap[k]? = w.heap[k]?):hJ w' P ga X m ns:=by
 obtain ⟨A,An,c,cn,most,ys,nds,h,h1,h2,h3,h4⟩:=h;refine ⟨A,An,c,cn,most,ys,nds,⟨(hs ga h.1.lt h1).trans h.1,(h.2.1.same fun k hk=>hs k (h.2.1.cW hk) (h2 k hk)).more hz,h.2.2.1,?_,h.2.2.2.2⟩,h1,h2,h3,h4⟩;refine jH.more ⟨pL h.2.2.2.1.row fun k hk=>hs k (Row.cW h.2.2.2.1.row hk) (h3 k hk),fun n hn => ?_⟩ hz;have iM:=h.2.2.2.1.each n hn;exact ⟨pL iM.row fun k hk=>hs k (Row.cW iM.row hk) (h4 n hn k (.inl hk)),fun l hl=>pL (iM.each l hl) fun k hk=>hs k (Row.cW (iM.each l hl) hk) (h4 n hn k (.inr ⟨l,hl,hk⟩))⟩
end
def xI (X:List LN) (m:Nat) (ns:List aI) (w:World) (e:Ending) (w':World):Prop:=∃go:Nat,e = .returned (.tuple #[.pointer (some ⟨go,0,none⟩),.int .i64 0])/\hJ w' (fun k=>w.heap.size<=k) go X m ns/\Below w.heap.size w w'
theorem a6B {X:List LN} {m most ga gb:Nat} {na nb ns:List aI} {w:World} (ha:ft w ga X m na) (hb:ft w gb X m nb) (ho:a1l X m most na nb ns) :
 Calls Tryz.prog 36 #[.pointer (some ⟨ga,0,none⟩),.pointer (some ⟨gb,0,none⟩),.int .i64 (most:Nat)] w (xI X m ns w):=by
 have HQ:=kp (show ∀go w',hJ w' (fun k=>w.heap.size<=k) go X m ns->Below w.heap.size w w'->xI X m ns w (.returned (.tuple #[.pointer (some ⟨go,0,none⟩),.int .i64 0])) w' from fun go w' h1 h2=>⟨go,rfl,h1,h2⟩);have HA:=kp (fun w' (h:Below w.heap.size w w')=>(ha.below h).shape ho.su);have HB:=kp (fun w' (h:Below w.heap.size w w')=>(hb.below h).shape ho.okB);have Vs:=kp (fun w' (h:Below w.heap.size w w')=>(ha.below h).whole ho.su);have Es:=kp (fun w' (h:Below w.heap.size w w')=>(hb.below h).whole ho.okB);have Cp:=kp (fun w' (h:Below w.heap.size w w')=>(ha.below h).top ho.su);have Lh:=kp (fun w' (h:Below w.heap.size w w')=>(hb.below h).top ho.okB);have rQ:=@run_makeMap Tryz.prog;have Ha:=kp ha;have Hb:=kp hb;have Ho:=kp ho;have dg:=ho.su.m1;have NP:=ho.su.m3;have e1:((m:Int) == 0)=false:=by rw [beq_eq_false_iff_ne];omega
 have e2:(0:Int)≠(m:Int):=by omega
 have e3:¬ (m:Int)=0:=by omega
 have e4:m≠0:=by omega
 generalize hQ:xI X m ns w=Q at *;clear hQ ha hb ho;go_enter Tryz.func36,Tryz.ntmps36;go_wp2_with fail;refine (HA.o w (aq _ _)).mono ?_;rintro e w1 ⟨A1,c1,y1,rfl,-,-,b1⟩;have B1:=kp b1;clear b1;go_wp2_with fail;refine (HB.o w1 B1.o).mono ?_;rintro e w2 ⟨A2,c2,y2,rfl,-,-,b2⟩;have B2:=aR B1 b2;clear b2 B1;go_wp2_with fail;refine (HA.o w2 B2.o).mono ?_;rintro e w3 ⟨A3,c3,y3,rfl,i3,k3,b3⟩;have B3:=aR B2 b3;have I3:=kp i3;have K3:=kp k3;clear b3 B2 i3 k3;go_wp2_with fail;refine (HB.o w3 B3.o).mono ?_;rintro e w4 ⟨A4,c4,y4,rfl,i4,k4,b4⟩;have B4:=aR B3 b4;have HL:=kp (aaM (A:=A3) (B:=A4) (m:=m) (ca:=c3) (cb:=c4) (xs:=y3) (ys:=y4) (w:=w4) ((I3.o.below b4).more b4.size) i4 (K3.o.trans k4.symm) (by have:=Ho.o.su.n16;have h:=congrArg length K3.o;rw [lM] at h;omega) (fun x hx=>by have:=Ho.o.su.short x.keys (by rw [<-K3.o];exact mem_map_of_mem hx);omega));clear b4 B3 i4 k4;go_wp2_with fail;refine HL.o.mono ?_;rintro e w5 ⟨rfl,b5⟩;have B5:=aR B4 b5;clear b5 B4 HL I3 K3;go_wp2_with fail;refine (Vs.o w5 B5.o).mono ?_;rintro e w6 ⟨rfl,b6⟩;have B6:=aR B5 b6;clear b6 B5;go_wp2_with fail;refine (Es.o w6 B6.o).mono ?_;rintro e w7 ⟨rfl,b7⟩;have B7:=aR B6 b7;clear b7 B6;go_wp2_with fail;refine (HA.o w7 B7.o).mono ?_;rintro e w8 ⟨A8,c8,y8,rfl,i8,k8,b8⟩;have B8:=aR B7 b8;have HN:=kp (QS A8 c8 m most y8 w8 i8 (Ho.o.sh y8 k8) Ho.o.MR);have K8:=kp k8;clear b8 B7 i8 k8;go_wp2_with fail;refine HN.o.mono ?_;rintro e w9 ⟨go,As,cs,xs,rfl,aJ,lv,hk,ss,kt,nH⟩;have bO:=kp aJ;have D':=kp lv;have Hk:=kp (hk.trans K8.o);have Vt:=kp ss;have tt:=kp kt;have BZ:=kp nH;have B9:=aR B8 ss;clear aJ lv hk ss kt nH HN K8;have Vu:=kp (((aq w9.heap.size w9).alloc (ah _) (.map #[] 0)).alloc (by simp) (.cells #[.pointer (some ⟨ga,0,none⟩),.pointer (some ⟨gb,0,none⟩),.pointer (some ⟨go,0,none⟩),.map (some w9.heap.size),.int .i64 0] 179));have xY:=kp (show vM ((w9.alloc (.map #[] 0)).alloc (.cells #[.pointer (some ⟨ga,0,none⟩),.pointer (some ⟨gb,0,none⟩),.pointer (some ⟨go,0,none⟩),.map (some w9.heap.size),.int .i64 0] 179)) w9.heap.size [] from ⟨_,(World.ownsMap_made w9 Tryz.prog 181 (plainElem (H:=Unit) Tryz.prog 3)).alloc (.cells #[.pointer (some ⟨ga,0,none⟩),.pointer (some ⟨gb,0,none⟩),.pointer (some ⟨go,0,none⟩),.map (some w9.heap.size),.int .i64 0] 179),C'.nil _⟩);have Li:=kp (show aa ((w9.alloc (.map #[] 0)).alloc (.cells #[.pointer (some ⟨ga,0,none⟩),.pointer (some ⟨gb,0,none⟩),.pointer (some ⟨go,0,none⟩),.map (some w9.heap.size),.int .i64 0] 179)) (w9.heap.size+1) 179 #[.pointer (some ⟨ga,0,none⟩),.pointer (some ⟨gb,0,none⟩),.pointer (some ⟨go,0,none⟩),.map (some w9.heap.size),.int .i64 0] from aa.lay (by simp));have C3:((w9.alloc (.map #[] 0)).alloc (.cells #[.pointer (some ⟨ga,0,none⟩),.pointer (some ⟨gb,0,none⟩),.pointer (some ⟨go,0,none⟩),.map (some w9.heap.size),.int .i64 0] 179)).heap.size=w9.heap.size+2:=by simp
 generalize Ut:(w9.alloc (.map #[] 0)).alloc (.cells #[.pointer (some ⟨ga,0,none⟩),.pointer (some ⟨gb,0,none⟩),.pointer (some ⟨go,0,none⟩),.map (some w9.heap.size),.int .i64 0] 179)=oG at *;have ae0:=kp C3;clear C3;have Ba:=kp (B9.o.trans (Vu.o.mono B9.o.size));have af6:=kp (show ft oG ga X m na/\ft oG gb X m nb from ⟨Ha.o.below Ba.o,Hb.o.below Ba.o⟩);have Lj:=(aq oG.heap.size oG).alloc (ah _) (.cells #[.int .i64 0,.int .i64 0] 181);have rm:=kp (aa.new oG 181 #[.int .i64 0,.int .i64 0]);generalize adN:oG.alloc (.cells #[.int .i64 0,.int .i64 0] 181)=Ei at *;obtain ⟨tx,KX⟩:∃z,aK Ei oG.heap.size 0 [.int .i64 ((na.length:Int)-1),.int .i64 ((nb.length:Int)-1)]=z:=⟨_,rfl⟩
 have uE:=kp (show aa tx oG.heap.size 181 #[.int .i64 ((na.length:Int)-1),.int .i64 ((nb.length:Int)-1)] by rw [<-KX];exact eO rm.o _ rfl);have P6:=kp (show Below oG.heap.size oG tx by rw [<-KX];exact eU (ah _) _ _ _ Lj);simp only [aK,Nat.zero_add,Nat.reduceAdd] at KX;obtain ⟨_,_,f0,f1⟩:=rm.o.two;obtain ⟨y0,y1,_,_⟩:=uE.o.two;clear Lj rm;have lB:=bO.o.lt;have kt:=tt.o;have hz:=ae0.o;have ae1:=Vt.o.size;have E4:=P6.o.size;have Vv:=kp (show Below w9.heap.size w9 tx from Vu.o.trans (P6.o.mono Vu.o.size));obtain ⟨c,hc⟩:∃c:Mc,c={ B:=oG.heap.size,go:=go,As:=As,xs:=xs,cs:=cs,m:=m,most:=most,w0:=w8,gm:=w9.heap.size+1,gp:=w9.heap.size,ga:=ga,gb:=gb,na:=na,nb:=nb,ns:=ns }:=⟨_,rfl⟩
 have HX:=kp (show c.X=X by rw [hc];exact Hk.o)
 have ae2:=kp (show c.Ok by
  have hX:=HX.o;subst hc;refine ⟨by rw [hX];exact Ho.o.su,by rw [hX];exact Ho.o.okB,by rw [hX];exact Ha.o.below B8.o,by rw [hX];exact Hb.o.below B8.o,Ho.o.LL,Ho.o.M8,by rw [hX];exact Ho.o.fin,?_,?_,?_,?_,?_,?_,?_,?_,?_⟩
  all_goals (dsimp only;omega))
 have HD:=kp (show c.Dy tx (fun k=>k=c.go\/k=c.gm\/k=c.gp) none 0 [] ⟨[],[]⟩ by
  subst hc;refine ⟨⟨by dsimp only;omega,by dsimp only;omega,.inl rfl,fun k hk=>by dsimp only at hk;omega,bO.o.under Vv.o,(D'.o.at_.below Vv.o).more (by dsimp only;omega),fun k hk hf => ?_,⟨gL _ _ _ _,fun n hn=>by cases hn⟩,fun k hk=>(by cases hk),fun n hn=>(by cases hn)⟩,Vt.o.trans (Vv.o.mono Vt.o.size),fun k hk=>by dsimp only at hk ⊢;omega,.inr (.inl rfl),.inr (.inr rfl),Li.o.under P6.o,rfl,rfl,xY.o.same (P6.o.block _ (by omega))⟩;have h1:=BZ.o k hk;have h2:=D'.o.at_.cW hk;dsimp only at hf
  omega)
 have bN:=kp (show ∀ (An:OA) (cn:Nat) (nds:List Nd) (sm:dU) (w':World) (F:Nat->Prop),c.Dy w' F An cn nds sm->sm.nodes=ns->Q (.returned (.tuple #[.pointer (some ⟨go,0,none⟩),.int .i64 0])) w' from fun An cn nds sm w' F h e=>by
  subst hc;have nN:=B8.o.size
  exact HQ.o go w' ⟨As,An,cs,cn,most,xs,nds,⟨h.o.vy,h.o.shape.more h.o.line,Hk.o,h.o.nodes.at_,h.plain.trans e⟩,aT nN tt.o,fun k hk=>aT nN (ZN D'.o hk),fun k hk=>aT nN (h.fF k (h.o.kY k (AM h.o.nodes.1 hk))),fun n hn k hk=>aT nN (h.fF k (h.o.kJ n hn k hk))⟩ (B8.o.trans (h.base.mono B8.o.size)))
 have P7:=kp (show c.gm=w9.heap.size+1/\c.na=na/\c.nb=nb/\c.most=most/\c.ns=ns by subst hc;exact ⟨rfl,rfl,rfl,rfl,rfl⟩);have m4:tx.cell? ⟨w9.heap.size+1,4,none⟩=some (.int .i64 0):=by have:=HD.o.kg.cell 4;rw [P7.o.1] at this;exact this
 clear lB kt hz ae1 E4 hc;go_wp2_with fail;refine (Cp.o oG Ba.o).mono ?_;rintro e Cq ⟨he,hw⟩;have hw:=hw.symm;subst he hw;go_wp2_with fail;refine (Lh.o _ Ba.o).mono ?_;rintro e Cq ⟨he,hw⟩;have hw:=hw.symm;subst he hw;obtain ⟨ta,ud⟩:∃x:Int,(na.length:Int)-1=x:=⟨_,rfl⟩
 obtain ⟨tb,Lk⟩:∃x:Int,(nb.length:Int)-1=x:=⟨_,rfl⟩
 rw [ud,Lk] at KX uE;rw [ud] at y0;rw [Lk] at y1;rw [ud,Lk];have Vw:=kp ud;have Vx:=kp Lk;clear ud Lk;by_cases hz:ta = -1/\tb = -1
 .obtain ⟨rfl,rfl⟩:=hz
  have HF:=kp (bN.o _ _ _ _ _ _ HD.o (by
   have h1:na=[]:=length_eq_zero_iff.1 (by have:=Vw.o;omega);have h2:nb=[]:=length_eq_zero_iff.1 (by have:=Vx.o;omega);have:=Ho.o.run;unfold CH at this;rw [if_pos ⟨h1,h2⟩] at this
   injection this))
  go_wp2_with fail;exact HF.o
 .have HV:=kp (show ∃ (r:dU×Nat) (F0:Nat->Prop),Calls Tryz.prog 85 #[.pointer (some ⟨w9.heap.size+1,0,none⟩),.agg #[.int .i64 ta,.int .i64 tb]] tx (LI c F0 r tx)/\r.1.nodes=ns by
   have av:¬ (na=[]/\nb=[]):=fun h=>hz ⟨by rw [<-Vw.o,h.1];rfl,by rw [<-Vx.o,h.2];rfl⟩
   have:=Ho.o.run;unfold CH at this;rw [if_neg av] at this;obtain ⟨r,hr,e⟩:=Option.map_eq_some_iff.1 this;obtain ⟨g1,g2,g3,g4,g5⟩:=P7.o;have hv:=ZL c ae2.o (X.length-1) _ none 0 [] ⟨[],[]⟩ (lR na,lR nb) tx r HD.o (by rw [g2,g3,HX.o];exact Ho.o.wf av) (by rw [g2,g3,g4];exact hr) ⟨[],by rw [g5,e];simp⟩;rw [g1,show (lR na,lR nb)=(ta,tb) from by unfold lR;rw [Vw.o,Vx.o]] at hv
   exact ⟨r,_,hv,e⟩)
  obtain ⟨r,F0,hv,vc⟩:=HV.o;have HV2:=kp hv;have Hrn:=kp vc;clear hv vc HV;by_cases h1:ta = -1
  .subst h1;have h2:¬tb = -1:=fun h=>hz ⟨rfl,h⟩
   have h3:(tb == -1)=false:=beq_eq_false_iff_ne.2 h2;have h4:(tb != -1)=true:=by simp [bne,h3]
   go_wp2_with fail;refine HV2.o.mono ?_;rintro e Ig ⟨cX,cY,fC,rfl,hd⟩;have HF:=kp (bN.o _ _ _ _ _ _ hd.dy Hrn.o);have m5:Ig.cell? ⟨w9.heap.size+1,4,none⟩=some (.int .i64 0):=by have:=hd.dy.kg.cell 4;rw [P7.o.1] at this;exact this
   clear hd m4;go_wp2_with fail;exact HF.o
  .have h3:(ta == -1)=false:=beq_eq_false_iff_ne.2 h1;have h4:(ta != -1)=true:=by simp [bne,h3]
   go_wp2_with fail;refine HV2.o.mono ?_;rintro e Ig ⟨cX,cY,fC,rfl,hd⟩;have HF:=kp (bN.o _ _ _ _ _ _ hd.dy Hrn.o);have m5:Ig.cell? ⟨w9.heap.size+1,4,none⟩=some (.int .i64 0):=by have:=hd.dy.kg.cell 4;rw [P7.o.1] at this;exact this
   clear hd m4;go_wp2_with fail;exact HF.o
end
end Go.Proofs.YtjopcamkclndlaaGreat.Tc
namespace Go.Proofs.YtjopcamkclndlaaGreat.Tc
open List Go.RowKit Base
theorem a95 {X:List LN} {m c cn:Nat} {A An:OA} {xs:List Fa} {nds:List Nd} {w:World} (hx:ep w w.heap.size A xs) (hk:xs.map Fa.keys=X) (hs:Bg xs m) (hn:jH w w.heap.size An nds) (hf:tI X m 131072 (nds.map az)) :
 Calls Tryz.prog 37 #[.agg #[.slice A xs.length c,.int .i64 (m:Nat)],.slice An nds.length cn] w (xI X m (nds.map az) w):=by
 have HQ:=kp (show ∀go w',hJ w' (fun k=>w.heap.size<=k) go X m (nds.map az)->Below w.heap.size w w'->xI X m (nds.map az) w (.returned (.tuple #[.pointer (some ⟨go,0,none⟩),.int .i64 0])) w' from fun go w' h1 h2=>⟨go,rfl,h1,h2⟩);have au:=(aq w.heap.size w).alloc (ah _) (.cells #[.slice A xs.length c,.int .i64 (m:Nat)] 75);have HB:=kp (aa.new w 75 #[.slice A xs.length c,.int .i64 (m:Nat)]);have HN:=kp (show Calls Tryz.prog 30 #[.agg #[.slice A xs.length c,.int .i64 (m:Nat)],.int .i64 131072] _ (N9 xs m 131072 _) from QS A c m 131072 xs (w.alloc (.cells #[.slice A xs.length c,.int .i64 (m:Nat)] 75)) ((hx.below au).more au.size) hs (ah _));have ay:=kp au;have Hn:=kp hn;have Hf:=kp hf;have aX:nds.length<=131072:=by have:=hf.len;rwa [lM] at this
 generalize hQ:xI X m (nds.map az) w=Q at *;clear hQ hx hn hf au;obtain ⟨z0,z1,_,_⟩:=HB.o.two;generalize dj:w.alloc _=W0 at *;go_enter Tryz.func37,Tryz.ntmps37;go_wp2_with fail;refine HN.o.mono ?_;rintro e w1 ⟨go,As,cs,ys,rfl,aJ,lv,vn,ax,kt,nH⟩;have bO:=kp aJ;have D':=kp lv;have Hk:=kp (vn.trans hk);have B1:=aR ay ax;have tt:=kp (aT ay.o.size kt);have Hxf:=kp (fun k (hk:ir As ys k)=>aT ay.o.size (ZN lv hk));have BZ:=kp nH;clear aJ lv vn ax kt nH HN HB z0 z1;go_wp2_with fail;have ph:=kp bO.o.lt
 have HD:=kp (show (⟨w1.heap.size,go,As,ys,cs,m,131072⟩:Oc).Dy w1 (fun k=>k=go) none 0 [] from
  ⟨ah _,ph.o,rfl,fun k hk=>(by rw [hk];exact ph.o),bO.o,D'.o.at_,fun k hk hf=>BZ.o k hk hf,⟨gL _ _ _ _,fun n hn=>(by cases hn)⟩,fun k hk=>(by cases hk),fun n hn=>(by cases hn)⟩)
 go_loopw [25] (fun v25 wr=>∃k,k<=nds.length/\v25 = .int .i64 (k:Nat)/\∃ (F:Nat->Prop) (cX:OA) (cY:Nat) (fC:List Nd),(⟨w1.heap.size,go,As,ys,cs,m,131072⟩:Oc).Dy wr F cX cY fC/\fC.map az=(nds.map az).take k/\Below w.heap.size w wr/\∀j,F j->w.heap.size<=j) (fun v25 _=>nds.length-(intOf v25).toNat)
 case atStart =>
  exact ⟨0,aZ _,rfl,_,none,0,[],HD.o,rfl,B1.o,fun j hj=>by rw [hj];exact tt.o⟩
 case round =>
  obtain ⟨k,hk,rfl,F,cX,cY,fC,hd,hp,hb,hF⟩:=hrel;by_cases ae:k<nds.length
  .have da:=Hn.o.below hb;obtain ⟨b,off,hA,ui,d0,d1,d2,d3,d4,d5,d6,d7,d8,d9,dB,dC,gB,iF⟩:=yL da.row k ae;have av:=da.each _ (gM ae);have Vy:nds.map az=(nds.map az).take k++az nds[k]::(nds.map az).drop (k+1):=by
    have:=take_append_drop k (nds.map az);rw [drop_eq_getElem_cons (by rw [lM];exact ae),getElem_map] at this;exact this.symm
   have yw:(nds.map az).take (k+1)=(nds.map az).take k++[az nds[k]]:=by rw [take_succ_eq_append_getElem (by rw [lM];exact ae),getElem_map]
   have ue:=kp yw;clear yw;generalize nds[k]=n at *;have aH:=(aq wr.heap.size wr).alloc (ah _) (.cells zN 100);have lI:=kp (aa.new wr 100 zN);generalize dN:wr.alloc (.cells zN 100)=W2 at *;obtain ⟨_,fD⟩:=aa.cw lI.o;obtain ⟨W3,dH⟩:∃W3,aK W2 wr.heap.size 0 [.int .i64 n.aj,.slice n.A n.ls.length n.c,.int .i64 n.all.key,.int .i64 n.all.child,.int .i64 n.all.ag.c,.int .i64 n.all.ag.s0,.int .i64 n.all.ag.n0,.int .i64 n.all.ag.x0,.int .i64 n.all.ag.s1,.int .i64 n.all.ag.n1,.int .i64 n.all.ag.x1,.int .i64 n.all.ag.s2,.int .i64 n.all.ag.n2,.int .i64 n.all.ag.x2]=W3:=⟨_,rfl⟩
   have iW:=kp (show aa W3 wr.heap.size 100 (bG n) by rw [<-dH];exact eO lI.o _ rfl);have aN:Below wr.heap.size wr W3:=by rw [<-dH];exact eU (ah _) _ _ _ aH
   simp only [aK,Nat.zero_add,Nat.reduceAdd] at dH;have rD:=(aa.cw iW.o).1;have HO:=kp (hd.below aN);have Hsp:=kp Vy;have Hp:=kp hp;have HF:=kp hF;have Hb:=kp (hb.trans (aN.mono hb.size));have HA:=kp (a0N (o:=⟨w1.heap.size,go,As,ys,cs,m,131072⟩) (ns:=nds.map az) (ys:=(nds.map az).drop (k+1)) (by rw [show Oc.X ⟨w1.heap.size,go,As,ys,cs,m,131072⟩=X from Hk.o];exact Hf.o) HO.o ((av.below (aN.mono hb.size)).more Hb.o.size) (by rw [hp];exact Vy));have i0:(0:Int)<=(k:Int):=by omega
   have i1:(k:Int)<(nds.length:Int):=by omega
   subst hA;clear da av Vy hp hF hb aN aH lI hd iW;go_wp2_with fail;refine HA.o.mono ?_;rintro e w7 ⟨yq,yr,n7,rfl,iZ,Ck,ht⟩;have ux:=kp iZ;have Hdy:=kp Ck
   have fE:=kp (Qu Hb.o ht (fun j hj=>by
    rcases hj with e | e
    .rw [e];exact tt.o
    .exact HF.o j (HO.o.kY j e)) Hb.o.size)
   clear iZ Ck ht;go_wp2_with fail
   exact ⟨⟨k+1,by omega,by go_num,_,yq,yr,fC++[n7],Hdy.o,by rw [map_append,Hp.o,map_cons,map_nil,ux.o,ue.o],fE.o,fun j hj=>by
    rcases hj with hj | ⟨hj,_⟩
    .exact HF.o j hj
    .exact aT Hb.o.size hj⟩,by simp [intOf];omega⟩
  .obtain rfl:k=nds.length:=by omega
   have HF:=kp (HQ.o go wr ⟨As,cX,cs,cY,131072,ys,fC,⟨hd.vy,hd.shape.more hd.line,Hk.o,hd.nodes.at_,hp.trans (by rw [take_of_length_le (by rw [lM];exact ah _)])⟩,tt.o,fun k hk=>Hxf.o k hk,fun k hk=>hF k (hd.kY k (AM hd.nodes.1 hk)),fun n hn k hk=>hF k (hd.kJ n hn k hk)⟩ hb);have q1:¬ (nds.length:Int)<(nds.length:Int):=by omega
   clear hd hp hb hF;go_wp2_with fail;exact HF.o
end Go.Proofs.YtjopcamkclndlaaGreat.Tc
