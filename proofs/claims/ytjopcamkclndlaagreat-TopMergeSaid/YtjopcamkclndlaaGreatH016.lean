/- Parts of a proof. -/
import Derived.Test.YtjopcamkclndlaaGreatH015
import Derived.Test.YtjopcamkclndlaaGreatH020
import Derived.WideKeyEntry
set_option linter.unusedVariables false
set_option linter.unusedSimpArgs false
set_option maxRecDepth 100000
set_option maxHeartbeats 8000000
namespace Go.Proofs.YtjopcamkclndlaaGreat.Tc
open List Go.RowKit Base
section
attribute [local go_sem] Oper.semAt_some
attribute [local go_sem] EP
theorem a8N {l n:Nat} {P:Program} {an:Array Oper} {rest:List Oper} {o:Oper} {a:Act} {Q:Exit->Act->World->Prop} (pU:o.guard=none) (s x:Operand) (t:TypeId)
 (ho:o.op = .call { callee := .builtin .append,args:=#[s,x],argTypes:=#[t,t] })
 (base:Nat) (e:TypeId) (i:TypeInfo) (z:Value) (bytes:Nat) (ht:P.underlying t=some (.slice e)) (hi:P.info? e=some i) (hz:i.zero=some z)
 (kL:i.size=1) (kj:i.bytes=bytes) (jY:z.cells.size=1)
 (wr:World) (u:Value) (hu:u.oneCell'=true) (v:Value) (n':Nat) (xs:LV) (hs:a.eval s=v) (aE:wr.ownsRow base e 1 v n' xs)
 (hx:a.eval x = .slice (some ⟨wr.heap.size,0,none⟩) 1 1)
 (hn:n'<1048576*64) (hb:bytes<=256) (qQ:base<=wr.heap.size)
 (h:∀v' w',w'.ownsRow base e 1 v' (n'+1) (xs++[u])->App wr w' v v'->wpListIn (Fence.wide.inRound l) n P an Q rest (a.put o.dst v') w') :
 wpListIn (Fence.wide.inRound l) n P an Q (o::rest) a (wr.alloc (.cells #[u] e)):=by
 refine wpListIn_plain pU fun K Vz => ?_
 exact XT (fun c hc=>by rw [ho] at hc;cases hc) (Yg s x t ho base e i z bytes ht hi hz kL kj jY wr u hu v n' xs hs aE hx hn hb qQ fun v' w' h1 h2=>Vz _ _ (h v' w' h1 h2))
theorem a6z {P:Program} {an:Array Oper} {Q:Exit->Act->World->Prop} {md:Region.Mode} {S:World->Prop} {t i:Nat} {o:Oper} {fuel:Nat} {listed:Array Bool} {a:Act} {w:World} (hr:Region.ready md an listed=[i]) (ho:an[i]? = some o) (xU:(listed.setIfInBounds i true).getD t false=true)
 (h:∀K':Act->World->Prop,Shut (∀a w,jW P md an Q S t fuel (listed.setIfInBounds i true) a w->K' a w)->if Region.wanted o (yielded an a.tmps)=true then Oper.wp P o a w K' Q else K' (a.put o.dst undef) w) :
 jW P md an Q S t (fuel+1) listed a w:=by
 refine ⟨fun h0=>(by rw [hr] at h0;cases h0),fun j hj => ?_⟩;rw [hr] at hj;obtain rfl:j=i:=by simpa using hj
 exact wpOp_step ho (fun K' hK=>h K' (fun a w hq=>hK a w ⟨fun hn=>(by rw [xU] at hn;cases hn),hq⟩))
theorem aaa {P:Program} {Q:Exit->Act->World->Prop} {a:Act} {w:World} {c:Code} (I:Act->World->Prop) (μ:Act->World->Nat) (h0:I a w)
 (round:∀a w,I a w->∀K:Act->World->Prop,(∀a' w',I a' w'->μ a' w'<μ a w->K a' w')->c.wp P (Exit.then K Q) a w):(Code.loop c).wp P Q a w :=
 wp_loop I μ h0 fun a w h=>round a w h _ fun _ _ h1 h2=>⟨h1,h2⟩
theorem Zo:(Tryz.prog.info? 36).map (fun i=>(i.zero,i.size,i.bytes))=some (some (.pointer none),1,8):=by kernel_rfl
def ptr (g:Nat):Value := .pointer (some ⟨g,0,none⟩)
def QU (X:List LN) (m most:Nat) (ls iG:List (List aI)):Prop:=iG.length=(ls.length+1) / 2/\∀ (i:Nat) (r:List aI),iG[i]? = some r->(∃a b,ls[i*2]? = some a/\ls[i*2+1]? = some b/\a1l X m most a b r)\/(ls[i*2]? = some r/\ls[i*2+1]? = none)
inductive D1 (X:List LN) (m most:Nat):List (List aI)->List aI->Prop
 | one {a:List aI}:jJ X m a->tI X m 131072 a->(∀xs:List Fa,xs.map Fa.keys=X->Bg xs m)->D1 X m most [a] a
 | step {ls iG:List (List aI)} {r:List aI}:2<=ls.length->QU X m most ls iG->D1 X m most iG r->D1 X m most ls r
def Fl (w:World) (gs:LN) (X:List LN) (m:Nat) (ls:List (List aI)):Prop:=gs.length=ls.length/\∀ (i g:Nat) (ns:List aI),gs[i]? = some g->ls[i]? = some ns->ft w g X m ns
theorem Fl.below {w w':World} {gs:LN} {X:List LN} {m:Nat} {ls:List (List aI)} (h:Fl w gs X m ls) (hb:Below w.heap.size w w'):Fl w' gs X m ls:=⟨h.1,fun i g ns h1 h2=>(h.2 i g ns h1 h2).below hb⟩
def Marks (B:Nat) (ds:List Deferred) (W:World):Prop:=∃rs:LN,ds=rs.map (fun r=>{ target := .collected r,args:=#[] })/\rs.Nodup/\∀r∈rs,B<=r/\W.heap[r]? = some (.deferred (some []))
theorem Marks.below {B:Nat} {ds:List Deferred} {w w':World} (h:Marks B ds w) (hb:Below w.heap.size w w'):Marks B ds w':=by
 obtain ⟨rs,h1,h2,h3⟩:=h;exact ⟨rs,h1,h2,fun r hr=>⟨(h3 r hr).1,(hb.block r (Array.getElem?_eq_some_iff.1 (h3 r hr).2).1).trans (h3 r hr).2⟩⟩
theorem Marks.push {B D:Nat} {ds:List Deferred} {w w':World} (h:Marks B ds w) (hb:Below w.heap.size w w') (hB:B<=w.heap.size) (hD:w.heap.size<=D) (hK:w'.heap[D]? = some (.deferred (some []))):Marks B ({ target := .collected D,args:=#[] }::ds) w':=by
 obtain ⟨rs,h1,h2,h3⟩:=h.below hb;obtain ⟨qs,k1,k2,k3⟩:=h;have e:rs=qs:=by
  have:=h1.symm.trans k1
  have:=congrArg (List.map fun d:Deferred=>match d.target with
   | .collected r=>r
   | _=>0) this
  simpa [map_map,Function.comp_def] using this
 subst e;refine ⟨D::rs,by rw [h1];rfl,nodup_cons.2 ⟨fun hr => ?_,h2⟩,fun r hr => ?_⟩
 .have:=(Array.getElem?_eq_some_iff.1 (k3 D hr).2).1;omega
 .rcases mem_cons.1 hr with rfl | hr
  .exact ⟨aT hB hD,hK⟩
  .exact h3 r hr
theorem a0i {B:Nat} {ds:List Deferred} {w:World} (h:Marks B ds w) {g:Nat} (hg:g<B) (v:Value):Marks B ds (w.setCell ⟨g,0,none⟩ v):=by
 obtain ⟨rs,h1,h2,h3⟩:=h;exact ⟨rs,h1,h2,fun r hr=>⟨(h3 r hr).1,(Below.heap_setCell w ⟨g,0,none⟩ v r (by have:=(h3 r hr).1;show r≠g;omega)).trans (h3 r hr).2⟩⟩
theorem ZS {F:Fence} {n B:Nat} {P:Program} {fn:Func} {tmps:AV} {R:Ending->World->Prop} (Inv:World->Prop) (hi:∀w r o,Inv w->B<=r->w.heap[r]? = some o->o.isCells=false->Inv (w.putObj r (.deferred none))):∀ (ds:List Deferred) (w:World),Marks B ds w->Inv w->(∀w',Inv w'->LeavesIn F n P fn tmps R [] .returning w')->LeavesInM F n P fn tmps R ds .returning w
 | [],w,_,h0,h=>h w h0
 | d::ds,w,hm,h0,h=>by
  obtain ⟨rs,h1,h2,h3⟩:=hm;rcases rs with _ | ⟨r,rs⟩
  .cases h1
  .rw [map_cons] at h1;injection h1 with h1 jx
   obtain ⟨hr,hk⟩:=h3 r mem_cons_self;refine ⟨by simp,.inl ⟨r,_,by rw [h1],run_takeDeferred hk,ZS Inv hi ds _ ⟨rs,jx,(nodup_cons.1 h2).2,fun q hq=>⟨(h3 q (mem_cons_of_mem _ hq)).1,?_⟩⟩ (hi w r _ h0 hr hk rfl) h⟩⟩;rw [World.putObj_heap_other (fun e=>(nodup_cons.1 h2).1 (by rw [<-e];exact hq))];exact (h3 q (mem_cons_of_mem _ hq)).2
theorem hJ.kept {w w':World} {row:Option Nat} {P:Nat->Prop} {ga m:Nat} {X:List LN} {ns:List aI} (h:hJ w P ga X m ns) (hg:w.grownBy w' row) (hr:∀r,row=some r->∃o:Obj,w.heap[r]? = some o/\o.isCells=false):hJ w' P ga X m ns:=by
 obtain ⟨A,An,c,cn,most,ys,nds,h,h1,h2,h3,h4⟩:=h;refine ⟨A,An,c,cn,most,ys,nds,⟨(hg.block ga h.1.lt fun e => ?_).trans h.1,ep.more ⟨uY h.2.1.row hg hr,fun x hx=>uY (h.2.1.each x hx) hg hr⟩ hg.size,h.2.2.1,jH.more ⟨uY h.2.2.2.1.row hg hr,fun n hn=>⟨uY (h.2.2.2.1.each n hn).row hg hr,fun l hl=>uY ((h.2.2.2.1.each n hn).each l hl) hg hr⟩⟩ hg.size,h.2.2.2.2⟩,h1,h2,h3,h4⟩;obtain ⟨o,ho,hc⟩:=hr ga e.symm;rw [show w.heap[ga]? = _ from h.1] at ho;cases ho;cases hc
def Fs (iG:List (List aI)) (X:List LN) (m D0 B n0 n:Nat) (w0:World) (pre:List (Part n 2)) (W:World):Prop :=
 (∃ (v:Value) (out:LN),Boxed W B 39 v/\W.ownsRow D0 36 1 v out.length (out.map ptr)/\out.length=pre.length/\(∀ (i g j:Nat) (ns:List aI),out[i]? = some g->(pre[i]?).map (·.1)=some j->iG[j]? = some ns->hJ W (fun k=>v.ownBlock≠some k/\k≠B) g X m ns)/\D0<=W.heap.size)/\Below n0 w0 W
theorem a6E (iG:List (List aI)) (X:List LN) (m D0 B n0 n D:Nat) (w0:World) (hn:n0<=w0.heap.size) (hD:n0<=D):OwnFrom D (Fs iG X m D0 B n0 n w0):=by
 refine OwnFrom.and (Own.from (fun pre W W' row hs hg hr => ?_) _) (ownFrom_below hn hD);obtain ⟨v,out,h1,h2,h3,h4,h5⟩:=hs;refine ⟨v,out,h1.kept hg (fun e' => ?_),h2.kept hg ?_,h3,fun i g j ns k1 k2 k3=>(h4 i g j ns k1 k2 k3).kept hg hr,aT h5 hg.size⟩
 .obtain ⟨o,ho,hc⟩:=hr B e'.symm;rw [show W.heap[B]? = _ from h1] at ho;cases ho;cases hc
 .rcases h2.2 with ⟨rfl,_⟩ | ⟨g,cap,cur,rfl,_,jB,_⟩
  .exact .inl rfl
  .refine .inr fun e' => ?_
   obtain ⟨o,ho,hc⟩:=hr g (by simpa [Value.ownBlock] using e'.symm);rw [jB] at ho;cases ho;cases hc
theorem Yk {iG:List (List aI)} {X:List LN} {m D0 B n0 n cv c5 g:Nat} {w0 W w2 w5:World} {pre:List (Part n 2)} {Av A5:OA} {out:LN} {ns:List aI} {x:Part n 2} (hB:B+2<D0) (nK:n0<=B) (hnw:n0<=w0.heap.size)
 (aJ:Boxed W B 39 (.slice Av out.length cv)) (aE:W.ownsRow D0 36 1 (.slice Av out.length cv) out.length (out.map ptr)) (hl:out.length=pre.length)
 (fv:∀ (i g j:Nat) (ns:List aI),out[i]? = some g->(pre[i]?).map (·.1)=some j->iG[j]? = some ns->hJ W (fun k=>(Value.slice Av out.length cv).ownBlock≠some k/\k≠B) g X m ns) (hD:D0<=W.heap.size) (aC:Below n0 w0 W)
 (h2:Below W.heap.size W w2) (hg:hJ w2 (fun k=>(Value.slice Av out.length cv).ownBlock≠some k/\k≠B) g X m ns) (tm:iG[x.1]? = some ns)
 (aY:w5.ownsRow D0 36 1 (.slice A5 (out.length+1) c5) (out.length+1) (out.map ptr++[ptr g])) (Et:App w2 w5 (.slice Av out.length cv) (.slice A5 (out.length+1) c5)) :
 KeepsOthers W (w5.setCell ⟨B,0,none⟩ (.slice A5 (out.length+1) c5))/\lV (B+1) (B+1+1) W (w5.setCell ⟨B,0,none⟩ (.slice A5 (out.length+1) c5))/\Fs iG X m D0 B n0 n w0 (pre++[x]) (w5.setCell ⟨B,0,none⟩ (.slice A5 (out.length+1) c5)):=by
 have hBl:B<W.heap.size:=aJ.lt;have VA:∀j,j<D0->(Value.slice Av out.length cv).ownBlock≠some j:=fun j hj hh=>by have:=(aE.lt j hh).1;omega
 have eY:∀k,k<W.heap.size->k≠B->(Value.slice Av out.length cv).ownBlock≠some k->(w5.setCell ⟨B,0,none⟩ (.slice A5 (out.length+1) c5)).heap[k]? = W.heap[k]? := fun k hk h1 h3=>(Below.heap_setCell w5 ⟨B,0,none⟩ _ k h1).trans ((Et.de (dL hk h2.size) h3).trans (h2.block k hk))
 have dv:W.heap.size<=w5.heap.size:=aT h2.size Et.grown.size;have VB:(w5.setCell ⟨B,0,none⟩ (.slice A5 (out.length+1) c5)).heap.size=w5.heap.size:=by simp
 have gz:=eV aE h2;have lift:∀ {g:Nat} {ns:List aI},hJ w2 (fun k=>(Value.slice Av out.length cv).ownBlock≠some k/\k≠B) g X m ns->hJ (w5.setCell ⟨B,0,none⟩ (.slice A5 (out.length+1) c5)) (fun k=>(Value.slice A5 (out.length+1) c5).ownBlock≠some k/\k≠B) g X m ns:=by
  intro g ns h;have h5:hJ w5 (fun k=>((Value.slice Av out.length cv).ownBlock≠some k/\k≠B)/\k<w2.heap.size) g X m ns:=h.both.same Et.grown.size (fun k hk hp=>Et.de hk hp.1.1);refine (h5.same (w':=w5.setCell ⟨B,0,none⟩ (.slice A5 (out.length+1) c5)) (by rw [VB];exact ah _) (fun k hk hp=>Below.heap_setCell w5 ⟨B,0,none⟩ _ k hp.1.2)).imp fun k hp=>⟨fun e => ?_,hp.1.2⟩
  rcases Et.qH with hl | ⟨j,hl,hj⟩
  .rw [hl] at e;exact hp.1.1 e
  .rw [hl] at e;injection e with e
   have:=hp.2;omega
 refine ⟨⟨by rw [VB];exact dv,fun k o ho hc => ?_⟩,⟨eY _ (by omega) (by omega) (VA _ (by omega)),eY _ (by omega) (by omega) (VA _ (by omega))⟩,⟨.slice A5 (out.length+1) c5,out++[g],?_,?_,?_,?_,by rw [VB];omega⟩,?_⟩
 .have aA:k<W.heap.size:=(Array.getElem?_eq_some_iff.1 ho).1;refine (eY k aA (fun e => ?_) (fun e => ?_)).trans ho
  .subst e;have:=aJ;unfold Boxed at this;rw [this] at ho;injection ho with ho
   rw [<-ho] at hc;cases hc
  .rcases aE.2 with ⟨h0,_⟩ | ⟨g,cap,cur,h0,_,jB,_⟩
   .rw [h0] at e;cases e
   .rw [h0] at e;injection e with e
    subst e;rw [jB] at ho;injection ho with ho
    rw [<-ho] at hc;cases hc
 .exact Boxed.set _ (show Boxed w5 B 39 (.slice Av out.length cv) from (Et.de (dL hBl h2.size) (VA B (by omega))).trans ((h2.block _ hBl).trans aJ))
 .rw [aS,map_append];exact aY.kept (grownBy_setCell' w5 B _) (.inr (fun e=>by have:=(aY.lt _ e).1;omega))
 .rw [aS,aS,hl];rfl
 .intro i g' j yn k1 k2 k3;by_cases sW:i<out.length
  .rw [getElem?_append_left sW] at k1;rw [getElem?_append_left (by rw [<-hl];exact sW)] at k2;exact lift ((fv i g' j yn k1 k2 k3).same h2.size (fun k hk _=>h2.block k hk))
  .have NQ:i=out.length:=by
    have:=(bS k1).1;rw [aS] at this;simp at this;omega
   subst NQ;rw [getElem?_append_right (ah _),Nat.sub_self] at k1;rw [getElem?_append_right (by rw [hl];exact ah _),hl,Nat.sub_self] at k2;injection k1 with k1
   injection k2 with k2
   subst k1 k2;rw [tm] at k3;injection k3 with k3
   subst k3;exact lift hg
 .exact (Et.mO (aC.trans (h2.mono (aT hnw aC.size))) gz (by omega) (by have:=h2.size;omega)).setCell (p:=⟨B,0,none⟩) nK _
theorem IT {w:World} {B b off k:Nat} {vs:LV} {v:Value} (h:Row w B (some ⟨b,off,none⟩) vs) (hv:vs[k]? = some v):w.cell? ⟨b,off+k,none⟩=some v:=by
 rcases h with rfl | ⟨b',jy,e,_,hc⟩
 .simp at hv
 .injection e with e
  injection e with e1 e2 _
  subst e1 e2;exact hc k v hv
def Xy (w:World) (u:Nat->Value) (v:Value) (ds:List Deferred):Act:=⟨#[u 0,v,.pointer (some ⟨w.heap.size,0,none⟩),u 3,.pointer (some ⟨w.heap.size+1,0,none⟩),.pointer (some ⟨w.heap.size+1+1,0,none⟩),u 6,u 7,u 8,u 9,u 10,u 11,u 12,u 13,u 14,u 15,u 16,u 17,u 18,u 19,u 20,u 21,u 22,u 23,u 24,u 25,u 26,u 27,u 28,u 29,u 30,u 31,u 32,u 33,u 34,u 35,u 36,u 37,u 38,u 39,u 40,u 41,u 42,u 43,u 44,u 45,u 46,u 47,u 48,u 49,u 50,u 51,u 52,u 53,u 54,u 55,u 56,u 57,u 58,u 59,u 60,u 61,u 62,u 63,u 64,u 65,u 66,u 67,u 68,u 69,u 70,u 71,u 72,u 73],ds⟩
def Qm (w W0:World) (X:List LN) (m most:Nat) (r:List aI) (a:Act) (W:World):Prop:=∃ (ds:List Deferred) (A1:OA) (c1:Nat) (eK:LN) (ig:List (List aI)),(Below W0.heap.size W0 W/\Marks W0.heap.size ds W/\Row W W.heap.size A1 (eK.map ptr)/\eK.length<=c1/\c1<=9223372036854775807/\Fl W eK X m ig/\D1 X m most ig r/\eK.length<=1000)/\a=Xy w (fun i=>a.tmps.getD i undef) (.slice A1 eK.length c1) ds
def Xo (a:Act):Nat:=match a.tmps.getD 1 undef with
 | .slice _ n _=>n
 | _=>0
theorem a8n {X:List LN} {m most c:Nat} {A:OA} {gs:LN} {ls:List (List aI)} {r:List aI} {w:World} (fg:Row w w.heap.size A (gs.map ptr)) (pd:gs.length<=c) (fj:c<=9223372036854775807) (ha:Fl w gs X m ls) (db:∀a∈ls,jJ X m a) (dg:1<=m) (hn:ls.length<=1000) (Lm:D1 X m most ls r) :
 Calls Tryz.prog 10 #[.int .i64 (most:Nat),.slice A gs.length c] w (xI X m r w):=by
 have HQ:=kp (show ∀go w',hJ w' (fun k=>w.heap.size<=k) go X m r->Below w.heap.size w w'->xI X m r w (.returned (.tuple #[.pointer (some ⟨go,0,none⟩),.int .i64 0])) w' from fun go w' h1 h2=>⟨go,rfl,h1,h2⟩);have sg:=kp fg;have Ha:=kp ha;have eP:=kp db;have Hmy:=kp Lm;have Hn:=kp (show gs.length<=1000 by rw [ha.1];exact hn);have h0:0<gs.length:=by
  rw [ha.1];cases Lm with
  | one=>exact Nat.one_pos
  | step h=>omega
 obtain ⟨i0,cG,cI,cH,cJ⟩:=info_parts Zo;have oY:((gs.length:Int) == 0)=false:=by rw [beq_eq_false_iff_ne];omega
 have e1:((m:Int) == 0)=false:=by rw [beq_eq_false_iff_ne];omega
 generalize hQ:xI X m r w=Q at *;clear hQ fg ha db Lm hn;refine (callsIn_wide (n:=9)).1 ?_;refine callsIn_of_wp_marks Tryz.func10 rfl trivial ?_ rfl;simp only [Tryz.ntmps10,size_toArray,length_cons,length_nil,Nat.reduceAdd,Nat.reduceSub,Array.replicate_succ,Array.replicate_zero,push_toArray,append_toArray,nil_append,cons_append];refine wpIn_wide.2 ?_;have au:=(((aq w.heap.size w).alloc (ah _) (.cells #[.int .i64 (most:Nat)] 3)).alloc (by simp) (.cells #[.pointer none] 36)).alloc (by simp;omega) (.cells #[.int .i64 0] 33);have Li:=kp (((aa.new w 3 #[.int .i64 (most:Nat)]).alloc (.cells #[.pointer none] 36)).alloc (.cells #[.int .i64 0] 33));have jz:=kp ((aa.lay (w:=w.alloc (.cells #[.int .i64 (most:Nat)] 3)) (g:=w.heap.size+1) (t:=36) (cs:=#[.pointer none]) (by simp)).alloc (.cells #[.int .i64 0] 33));have Ih:=kp (aa.lay (w:=(w.alloc (.cells #[.int .i64 (most:Nat)] 3)).alloc (.cells #[.pointer none] 36)) (g:=w.heap.size+1+1) (t:=33) (cs:=#[.int .i64 0]) (by simp));obtain ⟨W0,dj⟩:∃z,((w.alloc (.cells #[.int .i64 (most:Nat)] 3)).alloc (.cells #[.pointer none] 36)).alloc (.cells #[.int .i64 0] 33)=z:=⟨_,rfl⟩
 rw [dj] at au Li jz Ih;have ay:=kp au;clear au;go_wp2_with fail;clear dj;have Ed:=kp (Ha.o.below ay.o);have ib:=kp ((sg.o.below ay.o).more ay.o.size);clear Ha sg
 go_loopw [17] (fun kS wr=>∃k:Nat,k<=gs.length/\kS = .int .i64 (k:Nat)/\Below W0.heap.size W0 wr) (fun kS _=>gs.length-(intOf kS).toNat)
 case atStart=>exact ⟨0,aZ _,rfl,aq _ _⟩
 case round =>
  obtain ⟨k,hk,rfl,hb⟩:=hrel;have Hb:=kp hb;clear hb;by_cases ae:k<gs.length
  .have aA:k<ls.length:=by have:=Ed.o.1;omega
   obtain ⟨b,off,hA,ui,d0⟩:=Row.at_ (ib.o.below Hb.o) (k:=k) (by rw [lM];exact ae);rw [getElem_map] at d0;unfold ptr at d0;have rp:=kp (show ∀w',Below W0.heap.size W0 w'->ft w' gs[k] X m ls[k] from fun w' hb=>(Ed.o.below hb).2 k _ _ (gE ae) (gE aA));have Ln:=kp (eP.o _ (gM aA));generalize (gs[k]'ae)=g at *;generalize (ls[k]'aA)=ns at *;have HS:=kp (fun w' hb=>(rp.o w' hb).shape Ln.o);have OK:=kp (fun w' hb=>(rp.o w' hb).whole Ln.o);have i0:(0:Int)<=(k:Int):=by omega
   have i1:(k:Int)<(gs.length:Int):=by omega
   subst hA;go_wp2_with fail;refine (HS.o _ Hb.o).mono ?_;rintro e w1 ⟨A1,c1,y1,rfl,-,-,b1⟩;have B1:=aR Hb b1;clear b1 d0 HS;go_wp2_with fail;refine (OK.o _ B1.o).mono ?_;rintro e w2 ⟨rfl,b2⟩;have B2:=aR B1 b2;clear b2 OK;go_wp2_with fail;exact ⟨⟨k+1,by omega,by go_num,B2.o⟩,by simp [intOf];omega⟩
  .obtain rfl:k=gs.length:=by omega
   clear ae;go_wp2_with fail;refine aaa (Qm w W0 X m most r) (fun a _=>Xo a) ?_ ?_
   .exact ⟨[],A,c,gs,ls,⟨Hb.o,⟨[],rfl,nodup_nil,fun r h=>by cases h⟩,(ib.o.below Hb.o).more Hb.o.size,pd,fj,Ed.o.below Hb.o,Hmy.o,Hn.o⟩,by kernel_rfl⟩
   clear Ed ib Hmy Hn Hb eP pd fj h0 oY hk;rintro a W ⟨ds,A1,c1,eK,ig,⟨hB,hM,hR,iv,nI,OS,hMy,ej⟩,ha⟩ K hK;generalize (fun i=>a.tmps.getD i undef)=u at ha;subst ha;have HK:=kp (show ∀a' w',Qm w W0 X m most r a' w'->Xo a'<eK.length->K a' w' from hK);clear hK;unfold Xy;have HB:=kp hB;have HM:=kp hM;have HR:=kp hR;have rp:=kp OS;have P8:=kp hMy;clear hB hM hR OS hMy;dsimp only;have m0:=(Li.o.under HB.o).one.1;by_cases h2:1<eK.length
   .have ng:(eK.length:Int)>1:=by omega
    obtain ⟨b,off,JR,a4b,_⟩:=Row.at_ HR.o (k:=0) (by rw [lM];omega);subst JR;have Hlb:=kp a4b;clear a4b;obtain ⟨iG,hHf,hNx⟩:∃iG,QU X m most ig iG/\D1 X m most iG r:=by
     have hl:=rp.o.1;cases P8.o with
     | one h=>simp at hl;omega
     | step h1 h2 h3=>exact ⟨_,h2,h3⟩
    have Lo:=kp hHf;have xQ:=kp hNx;have JM:=kp a6v;clear hHf hNx P8;have ax:=(((aq W.heap.size W).alloc (ah _) (.cells #[.slice none 0 0] 39)).alloc (by simp) (.cells #[.slice (some ⟨b,off,none⟩) eK.length c1] 39)).alloc (by simp;omega) (.cells #[.int .i64 2] 3);have ye:Boxed (((W.alloc (.cells #[.slice none 0 0] 39)).alloc (.cells #[.slice (some ⟨b,off,none⟩) eK.length c1] 39)).alloc (.cells #[.int .i64 2] 3)) W.heap.size 39 (.slice none 0 0):=((Boxed.new W _ _).alloc _).alloc _;have lD:aa (((W.alloc (.cells #[.slice none 0 0] 39)).alloc (.cells #[.slice (some ⟨b,off,none⟩) eK.length c1] 39)).alloc (.cells #[.int .i64 2] 3)) (W.heap.size+1) 39 #[.slice (some ⟨b,off,none⟩) eK.length c1]:=aa.alloc (aa.lay (w:=W.alloc (.cells #[.slice none 0 0] 39)) (by simp)) _;have qW:aa (((W.alloc (.cells #[.slice none 0 0] 39)).alloc (.cells #[.slice (some ⟨b,off,none⟩) eK.length c1] 39)).alloc (.cells #[.int .i64 2] 3)) (W.heap.size+1+1) 3 #[.int .i64 2]:=aa.lay (w:=(W.alloc (.cells #[.slice none 0 0] 39)).alloc (.cells #[.slice (some ⟨b,off,none⟩) eK.length c1] 39)) (by simp);have tq:(((W.alloc (.cells #[.slice none 0 0] 39)).alloc (.cells #[.slice (some ⟨b,off,none⟩) eK.length c1] 39)).alloc (.cells #[.int .i64 2] 3)).heap.size=W.heap.size+3:=by simp
    obtain ⟨W3,dH⟩:∃z,((W.alloc (.cells #[.slice none 0 0] 39)).alloc (.cells #[.slice (some ⟨b,off,none⟩) eK.length c1] 39)).alloc (.cells #[.int .i64 2] 3)=z:=⟨_,rfl⟩
    rw [dH] at ax ye lD qW tq;have aM:=kp ax;have cQ:=kp ye;have bL:=kp lD;have aV:=kp qW;have Eu:=kp tq;clear ax ye lD qW tq;go_wp2_with fail;refine (JM.o (some ⟨b,off,none⟩) eK.length c1 2 (by omega) _).mono ?_;rintro e w' ⟨rfl,rfl⟩;go_wp2_with fail;refine (wpIn_wide (n:=9)).1 ?_;refine wpIn_rangeFunc_ownF rfl (by omega) (gf:=83) (lb:=#[.pointer (some ⟨W.heap.size+1,0,none⟩),.pointer (some ⟨W.heap.size+1+1,0,none⟩)]) rfl trivial (enters_of Tryz.func83 (by kernel_rfl) rfl)
     (a7j 8 (by omega) (W.heap.size+1) (W.heap.size+1+1) b off eK.length c1 2 (by omega) (by omega) (by omega) iv nI W3 (by rw [Eu.o];omega) (by rw [Eu.o];omega) (some ⟨b,off,none⟩) (.inr rfl) bL.o.one.1 aV.o.one.1) (fun h k=>h.trans k) (Qp (by rw [Eu.o];omega) (by rw [Eu.o];omega)) (aq _ _) (fun _=>rfl)
     (Fs iG X m (W.heap.size+3) W.heap.size W.heap.size eK.length W) (fun _ _ _=>False) (a6E iG X m (W.heap.size+3) W.heap.size W.heap.size eK.length _ W (ah _) (by rw [Eu.o];omega)) (fun _ _ _ _ _ hs _ _=>hs)
     ⟨⟨.slice none 0 0,[],cQ.o,gL _ _ _ _,rfl,(fun i g j ns h=>by simp at h),by rw [Eu.o];exact ah _⟩,aM.o⟩
     (fun x=>{ tmps:=#[u 0,.slice (some ⟨b,off,none⟩) eK.length c1,.pointer (some ⟨w.heap.size,0,none⟩),u 3,.pointer (some ⟨w.heap.size+1,0,none⟩),.pointer (some ⟨w.heap.size+1+1,0,none⟩),u 6,u 7,.pointer (some ⟨W.heap.size,0,none⟩),j5 b off 1 eK.length 2 x.1,u 10,u 11,u 12,u 13,u 14,u 15,u 16,u 17,u 18,u 19,u 20,u 21,u 22,u 23,u 24,u 25,u 26,u 27,u 28,.slice (some ⟨b,off,none⟩) eK.length c1,.int .i64 eK.length,.bool true,.slice (some ⟨b,off,none⟩) eK.length c1,.func (.func 83) #[] #[.pointer (some ⟨W.heap.size+1,0,none⟩),.pointer (some ⟨W.heap.size+1+1,0,none⟩)],j5 b off 1 eK.length 2 x.1,u 35,u 36,u 37,u 38,u 39,u 40,u 41,u 42,u 43,u 44,u 45,u 46,u 47,u 48,u 49,u 50,u 51,u 52,u 53,u 54,u 55,u 56,u 57,u 58,u 59,u 60,u 61,u 62,u 63,u 64,u 65,u 66,u 67,u 68,u 69,u 70,u 71,u 72,u 73],defers:=[] }) ?assign ?body ?done ?stop
    case assign =>
     intro lp x W' K' Vz
     gi_wp2
     exact Vz
    case body =>
     rintro lp pre x W' ⟨⟨v,out,aJ,aE,BL,fv,rY⟩,aC⟩ aX;have Lp:=kp (show ∀a Lq,(KeepsOthers W' Lq/\lV (W.heap.size+1) (W.heap.size+1+1) W' Lq/\Fs iG X m (W.heap.size+3) W.heap.size W.heap.size eK.length W (pre++[x]) Lq)->ownPostK (lV (W.heap.size+1) (W.heap.size+1+1)) (Fs iG X m (W.heap.size+3) W.heap.size W.heap.size eK.length W) (fun _ _ _=>False) (pre++[x]) W' .normal a Lq from fun a Lq h=>h);obtain ⟨Av,cv,rfl⟩:=eM aE;generalize ownPostK (lV (W.heap.size+1) (W.heap.size+1+1)) (Fs iG X m (W.heap.size+3) W.heap.size W.heap.size eK.length W) (fun _ _ _=>False) (pre++[x]) W'=Q2 at *;obtain ⟨i,dz⟩:∃i,x.1=i:=⟨_,rfl⟩
     have hi:i*2<eK.length:=by rw [<-dz];exact x.2
     have c0:=aJ.cell;have f0:=aJ.frozen;obtain ⟨ns,tm⟩:∃ns,iG[i]? = some ns:=⟨_,gE (by have:=Lo.o.1;have:=rp.o.1;omega)⟩
     have Hns:=kp tm;have Ii:=Lo.o.2 i ns tm;have m1:=(Li.o.under (HB.o.trans (aC.mono HB.o.size))).one.1;have bO:=kp aJ;have bF:=kp aE;have P9:=kp BL;have kN:=kp fv;have ai:=kp aC;have wH:W.heap.size<W'.heap.size:=aJ.lt;have Hi:=kp dz;dsimp only;rw [dz];clear aJ aE BL fv aC tm dz;by_cases ht:i*2+1<eK.length
     .obtain ⟨na,nb,qv,ax,hmg⟩:=Ii.resolve_right (fun h=>by have:=List.getElem?_eq_none_iff.1 h.2;have:=rp.o.1;omega);have jR:j5 b off 1 eK.length 2 i = .slice (some ⟨b,off+i*2,none⟩) 2 2:=by
       unfold j5;rw [Nat.mul_one,Nat.min_eq_left (by omega)]
      rw [jR];obtain ⟨ga,pw⟩:∃g,eK[i*2]? = some g:=⟨_,gE (by omega)⟩
      obtain ⟨gb,jB⟩:∃g,eK[i*2+1]? = some g:=⟨_,gE ht⟩
      have HM:=kp (fun w' (hb:Below W'.heap.size W' w')=>a6B (((rp.o.2 _ _ _ pw qv).below ai.o).below hb) (((rp.o.2 _ _ _ jB ax).below ai.o).below hb) hmg);have d0:W'.cell? ⟨b,off+i*2,none⟩=some (.pointer (some ⟨ga,0,none⟩)):=IT (HR.o.below ai.o) (by rw [getElem?_map,pw];rfl);have d1:W'.cell? ⟨b,off+i*2+1,none⟩=some (.pointer (some ⟨gb,0,none⟩)):=IT (HR.o.below ai.o) (k:=i*2+1) (by rw [getElem?_map,jB];rfl);clear jR pw jB qv ax hmg Ii;generalize i*2=q at *;have Jd:=c0
      gi_wp2
      refine MS (t:=99) (S:=(fun w'=>w'.cell? ⟨b,off+q,none⟩=some (.pointer (some ⟨ga,0,none⟩))/\w'.cell? ⟨b,off+q+1,none⟩=some (.pointer (some ⟨gb,0,none⟩))/\w'.cell? ⟨w.heap.size,0,none⟩=some (.int .i64 (most:Nat)))) (by kernel_rfl) (by kernel_rfl) ⟨d0,d1,m1⟩ (fun ad => ?_);have qF:=kp ((aq W'.heap.size W').drew);generalize W'.drew=wx at *;refine tD 0 1 2 3 ad ?_;refine mX 4 5 6 ad ?_;refine oT 7 fun K hK=>?_
      go_simp
      refine (HM.o _ qF.o).mono ?_;rintro e w2 ⟨go,rfl,lB,aH⟩;have ph:=kp (lB.imp (Q:=fun k=>W'.heap.size<=k) fun k hk=>aT qF.o.size hk);have aF:=aR qF aH;clear lB aH;refine oK hK ?_ fun af=>?_
      .exact ⟨aL aF.o d0,aL aF.o d1,aL aF.o m1⟩
      replace ad:=af;clear hK K af;refine tD 8 9 10 11 ad ?_;refine tk 12 ad ?_;refine dY (by kernel_rfl) ?_ _
      try clear ad
      refine tJ.normal ?_;have c2:=aL aF.o c0;have f2:w2.frozen? ⟨W.heap.size,0,none⟩=false:=by rw [lU aF.o _ _ wH];exact f0
      have fK:=kp (eV bF.o aF.o);have VC:W.heap.size+3<=w2.heap.size:=aT rY aF.o.size;have qh:W.heap.size<w2.heap.size:=dL wH aF.o.size;have eG:out.length<1048576*64:=by have:=P9.o;omega
      clear d0 d1 m0 m1 c0 Jd f0
      gi_wp2_with (gi_at_builtin;refine a8N rfl (.tmp 58) (.tmp 60) 39 rfl (W.heap.size+3) 36 i0 (.pointer none) 8 Tryz.underlying39 cG cI cH cJ rfl w2 (.pointer (some ⟨go,0,none⟩)) rfl (.slice Av out.length cv) out.length (out.map ptr) rfl fK.o rfl eG (by decide) VC ?_)
      intro v5 w5 aY bV;obtain ⟨A5,c5,h5⟩:=eM aY;subst h5;have cP:=kp aY;have dh:=kp bV;clear aY bV;have e5:=dh.o.de qh (fun hh=>by have:=(bF.o.lt _ hh).1;omega);have c5':w5.cell? ⟨W.heap.size,0,none⟩=some (.slice Av out.length cv):=(cZ (a:=⟨W.heap.size,0,none⟩) e5).trans c2;have f5:w5.frozen? ⟨W.heap.size,0,none⟩=false:=by
       have h:=f2;unfold World.frozen? at h ⊢;rw [e5];exact h
      clear e5 c2 f2
      gi_wp2
      refine Lp.o _ _ (Yk (by omega) (ah _) (ah _) bO.o bF.o P9.o kN.o rY ai.o aF.o (ph.o.imp fun k hk=>⟨fun e => ?_,?_⟩) (by rw [Hi.o];exact Hns.o) cP.o dh.o)
      .have:=(bF.o.lt _ e).2;omega
      .omega
     .obtain ⟨qv,_⟩:=Ii.resolve_left (fun ⟨na,nb,_,h2,_⟩=>by have:=(bS h2).1;have:=rp.o.1;omega);have jR:j5 b off 1 eK.length 2 i = .slice (some ⟨b,off+i*2,none⟩) 1 1:=by
       unfold j5;rw [Nat.mul_one,Nat.min_eq_right (by omega),show eK.length-i*2=1 by omega]
      rw [jR];obtain ⟨ga,pw⟩:∃g,eK[i*2]? = some g:=⟨_,gE (by omega)⟩
      have HG:=kp (rp.o.2 _ _ _ pw qv);have d0:W'.cell? ⟨b,off+i*2,none⟩=some (.pointer (some ⟨ga,0,none⟩)):=IT (HR.o.below ai.o) (by rw [getElem?_map,pw];rfl);clear jR pw qv Ii m0 m1;generalize i*2=q at *;have eG:out.length<1048576*64:=by have:=P9.o;omega
      gi_wp2
      refine MS (t:=6) (S:=(fun w'=>(w'.cell? ⟨W.heap.size,0,none⟩=some (.slice Av out.length cv)/\w'.frozen? ⟨W.heap.size,0,none⟩=false)/\w'.cell? ⟨b,off+q,none⟩=some (.pointer (some ⟨ga,0,none⟩)))) (by kernel_rfl) (by kernel_rfl) ⟨⟨c0,f0⟩,d0⟩ (fun ad => ?_);have aF:=kp ((aq W'.heap.size W').drew);generalize W'.drew=w2 at *;refine tD 0 1 2 3 ad ?_;have qh:W.heap.size<w2.heap.size:=dL wH aF.o.size;have fK:=kp (eV bF.o aF.o);have VC:W.heap.size+3<=w2.heap.size:=aT rY aF.o.size;have sT:b<w2.heap.size:=LP ad.2;have hx:=ad;refine oT 4 fun K hK=>?_
      go_simp
      refine oK hK ?_ fun af=>?_
      .exact ⟨⟨aL ((aq _ _).alloc (ah _) _) ad.1.1,by rw [lU ((aq _ _).alloc (ah w2.heap.size) _) _ _ qh];exact ad.1.2⟩,aL ((aq _ _).alloc (ah _) _) ad.2⟩
      replace ad:=af;clear hK K af;refine oT 5 fun K hK=>?_
      refine xB rfl (.tmp 38) (.tmp 42) 39 rfl (W.heap.size+3) 36 i0 (.pointer none) 8 Tryz.underlying39 cG cI cH cJ rfl w2 (.pointer (some ⟨ga,0,none⟩)) rfl (.slice Av out.length cv) out.length (out.map ptr) rfl fK.o rfl eG (by decide) VC ?_;intro v5 w5 aY bV;obtain ⟨A5,c5,h5⟩:=eM aY;subst h5;have cP:=kp aY;have dh:=kp bV;clear aY bV
      go_simp
      refine oK hK ?_ fun af=>?_
      .have e1:=dh.o.de qh (fun hh=>by have:=(bF.o.lt _ hh).1;omega);exact ⟨⟨(cZ (a:=⟨W.heap.size,0,none⟩) e1).trans hx.1.1,by have h:=hx.1.2;unfold World.frozen? at h ⊢;rw [e1];exact h⟩,(cZ (a:=⟨b,off+q,none⟩) (dh.o.de sT (fun hh=>by have h1:=(bF.o.lt _ hh).1;have h2:=Hlb.o;dsimp only at h1;omega))).trans hx.2⟩
      replace ad:=af;clear hK K af;refine rr (o := ?oo6) (by kernel_rfl) ?ao6 (by kernel_rfl) (fun K hK => ?bo6)
      case ao6=>(simp only [getElem?_toArray,getElem?_cons_succ,getElem?_cons_zero];exact rfl)
      obtain ⟨⟨ic,oX⟩,_⟩:=ad;have ad:=ic
      go_simp
      refine hK.out _ _ ?_;clear hK K ad;refine tJ.normal ?_
      try simp only [Act.put,setIfInBounds_toArray,set_cons_zero,set_cons_succ]
      gi_wp2
      refine Lp.o _ _ (Yk (by omega) (ah _) (ah _) bO.o bF.o P9.o kN.o rY ai.o aF.o ((HG.o.p.same (aT ai.o.size aF.o.size) (fun k hk _=>(aF.o.block k (dL hk ai.o.size)).trans (ai.o.block k hk))).imp fun k hk=>⟨fun e => ?_,?_⟩) (by rw [Hi.o];exact Hns.o) cP.o dh.o)
      .have:=(bF.o.lt _ e).1;omega
      .omega
    case done =>
     rintro D xs W' hD ⟨ow,dr⟩ ⟨⟨v,out,aJ,aE,BL,fv,rY⟩,aC⟩ hKD;obtain ⟨Av,cv,rfl⟩:=eM aE;have c0:=aJ.cell;have zv:∀y∈xs,y.1*2<eK.length:=fun y _=>y.2
     have aX:out.length=iG.length:=by
      have h1:=Lo.o.1;have h2:=rp.o.1;rw [h1,BL,<-h2];have h3:xs.length*2<eK.length+2:=by
       rcases Nat.eq_zero_or_pos xs.length with h0 | h0
       .omega
       .have h4:xs[xs.length-1].1=xs.length-1:=by
         have h5:=congrArg (fun l:LN=>l[xs.length-1]?) ow;rw [getElem?_map,gE (by omega),getElem?_range (by omega)] at h5;injection h5
        have h6:=zv _ (gM (show xs.length-1<xs.length by omega));rw [h4] at h6;omega
      omega
     have uC:out.length<=cv/\cv<=9223372036854775807:=CC aE
     have HI:=kp (show Qm w W0 X m most r ⟨#[u 0,.slice Av out.length cv,.pointer (some ⟨w.heap.size,0,none⟩),u 3,.pointer (some ⟨w.heap.size+1,0,none⟩),.pointer (some ⟨w.heap.size+1+1,0,none⟩),u 6,u 7,.pointer (some ⟨W.heap.size,0,none⟩),u 9,u 10,u 11,u 12,u 13,u 14,u 15,u 16,u 17,u 18,u 19,u 20,u 21,u 22,u 23,u 24,u 25,u 26,u 27,u 28,.slice (some ⟨b,off,none⟩) eK.length c1,.int .i64 eK.length,.bool true,.slice (some ⟨b,off,none⟩) eK.length c1,.func (.func 83) #[] #[.pointer (some ⟨W.heap.size+1,0,none⟩),.pointer (some ⟨W.heap.size+1+1,0,none⟩)],u 34,u 35,u 36,u 37,u 38,u 39,u 40,u 41,u 42,u 43,u 44,u 45,u 46,u 47,u 48,u 49,u 50,u 51,u 52,u 53,u 54,u 55,u 56,u 57,u 58,u 59,u 60,u 61,.slice Av out.length cv,u 63,u 64,u 65,u 66,u 67,u 68,u 69,u 70,u 71,u 72,u 73],{ target := .collected D,args:=#[] }::ds⟩ W' from
      ⟨_,Av,cv,out,iG,⟨HB.o.trans (aC.mono HB.o.size),HM.o.push aC HB.o.size (by rw [Eu.o] at hD;omega) hKD,gV aE,uC.1,uC.2,⟨aX,fun i g ns h1 h2=>(fv i g i ns h1 (by
       have hi:=(bS h1).1;have h5:=congrArg (fun l:LN=>l[i]?) ow;rw [getElem?_map,getElem?_range (by rw [<-BL];exact hi)] at h5
       exact h5) h2).at_⟩,xQ.o,by have:=Lo.o.1;have:=rp.o.1;omega⟩,by kernel_rfl⟩)
     have oZ:=kp (show out.length<eK.length by have:=Lo.o.1;have:=rp.o.1;omega);clear aJ aE BL fv aC ow dr zv aX uC hKD;dsimp only;go_wp2_with fail;exact HK.o _ _ HI.o oZ.o
    case stop =>
     rintro D cc pre W' _ _ h _;exact h.elim
   .obtain ⟨ns,g,TI,FV,hoA,hfA,a4c⟩:∃ns g,eK=[g]/\(ig=[ns]/\r=ns)/\jJ X m ns/\tI X m 131072 ns/\∀xs:List Fa,xs.map Fa.keys=X->Bg xs m:=by
     have hl:=rp.o.1;have Lm:=P8.o;cases Lm with
     | one h1 h2 h3 =>
      obtain ⟨g,hg⟩:=length_eq_one_iff.1 (hl.trans rfl);exact ⟨_,g,hg,⟨rfl,rfl⟩,h1,h2,h3⟩
     | step h1 h2 h3=>omega
    obtain ⟨FV,TJ⟩:=FV;subst TI FV TJ;have xT:=kp (rp.o.2 0 g r rfl rfl);obtain ⟨b,off,JR,sT,d0⟩:=Row.at_ HR.o (k:=0) (by simp);have d0:W.cell? ⟨b,off,none⟩=some (.pointer (some ⟨g,0,none⟩)):=d0;subst JR;have Ln:=kp hoA;have HfA:=kp hfA;have HsA:=kp a4c;have HS:=kp (fun w' (hb:Below W.heap.size W w')=>(xT.o.below hb).shape Ln.o);have ub:=kp (fun w' (hb:Below W.heap.size W w')=>(xT.o.below hb).nodes Ln.o);have fe:[g].length=1:=rfl;rw [fe];clear hoA hfA a4c rp P8 HR iv nI ej m0 h2 fe;go_wp2_with fail;refine wp_region_noPanic ?_;refine IX (t:=11) (S:=(fun w'=>w'.cell? ⟨b,off,none⟩=some (.pointer (some ⟨g,0,none⟩)))) (by kernel_rfl) d0 (fun ad => ?_);have qF:=kp ((aq W.heap.size W).drew);generalize W.drew=wx at *;refine tu 0 ad ?_;refine tu 1 ad ?_;refine tu 2 ad ?_;refine tu 4 ad ?_;refine tu 5 ad ?_;refine tu 6 ad ?_;refine oU 3 fun K hK=>?_
    go_simp
    refine (HS.o _ qF.o).mono ?_;rintro e w3 ⟨A3,c3,y3,rfl,i3,k3,b3⟩;have I3:=kp i3;have K3:=kp k3;have B3:=aR qF b3;clear i3 k3 b3;refine oK hK ?_ fun af=>?_
    .exact aL B3.o d0
    replace ad:=af;clear hK K af;refine oU 7 fun K hK=>?_
    go_simp
    refine (ub.o _ B3.o).mono ?_;rintro e w4 ⟨A4,c4,y4,rfl,o4,p4,b4⟩;have B4:=aR B3 b4;have I4:=kp ((I3.o.below b4).more b4.size);have N4:=kp o4.at_;have P4:=kp p4;clear o4 p4 b4;refine oK hK ?_ fun af=>?_
    .exact aL B4.o d0
    replace ad:=af;clear hK K af;have HLd:=kp (show Calls Tryz.prog 37 #[.agg #[.slice A3 y3.length c3,.int .i64 (m:Nat)],.slice A4 y4.length c4] w4 (xI X m r w4) from by have:=a95 (c:=c3) (cn:=c4) (m:=m) I4.o K3.o (HsA.o y3 K3.o) N4.o (by rw [P4.o];exact HfA.o);rw [P4.o] at this;exact this);refine oU 8 fun K hK=>?_
    go_simp
    refine HLd.o.mono ?_;rintro e w5 ⟨go,rfl,lB,cV⟩;have ph:=kp (lB.imp (Q:=fun k=>W.heap.size<=k) fun k hk=>aT B4.o.size hk);have B5:=aR B4 cV;clear lB cV;refine oK hK ?_ fun af=>?_
    .exact aL B5.o d0
    replace ad:=af;clear hK K af;refine tu 9 ad ?_;refine tu 10 ad ?_;have Lr:=kp (HB.o.trans (B5.o.mono HB.o.size));obtain ⟨r0,f0⟩:=(jz.o.under Lr.o).one;obtain ⟨r1,f1⟩:=(Ih.o.under Lr.o).one;refine Y8 (o := ?oe11) (by kernel_rfl) ?ae11 (by kernel_rfl) (fun K hK => ?be11)
    case ae11=>(simp only [getElem?_toArray,getElem?_cons_succ,getElem?_cons_zero];exact rfl)
    go_simp
    refine hK.out _ _ ?_;clear hK K ad
    try simp only [Act.put,setIfInBounds_toArray,set_cons_zero,set_cons_succ]
    have Ls:=kp (show aa (w5.setCell ⟨w.heap.size+1,0,none⟩ (.pointer (some ⟨go,0,none⟩))) (w.heap.size+1) 36 #[.pointer (some ⟨go,0,none⟩)] from (jz.o.under Lr.o).set 0 _);have a4d:=kp (show aa (w5.setCell ⟨w.heap.size+1,0,none⟩ (.pointer (some ⟨go,0,none⟩))) (w.heap.size+1+1) 33 #[.int .i64 0] from (Below.heap_setCell w5 ⟨w.heap.size+1,0,none⟩ _ _ (by show w.heap.size+1+1≠w.heap.size+1;omega)).trans (Ih.o.under Lr.o));have B6:=kp (show Below w.heap.size w (w5.setCell ⟨w.heap.size+1,0,none⟩ (.pointer (some ⟨go,0,none⟩))) from (ay.o.trans (Lr.o.mono ay.o.size)).setCell (p:=⟨w.heap.size+1,0,none⟩) (by show w.heap.size<=w.heap.size+1;omega) _);have S6:=kp (show ∀k,W.heap.size<=k->(w5.setCell ⟨w.heap.size+1,0,none⟩ (.pointer (some ⟨go,0,none⟩))).heap[k]? = w5.heap[k]? from fun k hk=>Below.heap_setCell w5 ⟨w.heap.size+1,0,none⟩ _ k (by have:=jz.o.lt;have:=HB.o.size;show k≠w.heap.size+1;omega));have Z6:=kp (show (w5.setCell ⟨w.heap.size+1,0,none⟩ (.pointer (some ⟨go,0,none⟩))).heap.size=w5.heap.size by simp);have M6:=kp (show Marks W0.heap.size ds (w5.setCell ⟨w.heap.size+1,0,none⟩ (.pointer (some ⟨go,0,none⟩))) from a0i (HM.o.below B5.o) jz.o.lt _);generalize w5.setCell ⟨w.heap.size+1,0,none⟩ (.pointer (some ⟨go,0,none⟩))=W6 at *;clear r0 f0 r1 f1;obtain ⟨r1,f1⟩:=a4d.o.one;refine a6z (i:=12) (o := ?oe12) (by kernel_rfl) ?ae12 (by kernel_rfl) (fun K hK => ?be12)
    case ae12=>(simp only [getElem?_toArray,getElem?_cons_succ,getElem?_cons_zero];exact rfl)
    go_simp
    refine hK.out _ _ ?_;clear hK K
    try simp only [Act.put,setIfInBounds_toArray,set_cons_zero,set_cons_succ]
    refine Z0 (by kernel_rfl) ?_ _
    try clear ad
    refine NoPanic.normal ?_;have ae3:=kp (show aa (W6.setCell ⟨w.heap.size+1+1,0,none⟩ (.int .i64 0)) (w.heap.size+1) 36 #[.pointer (some ⟨go,0,none⟩)] from (Below.heap_setCell W6 ⟨w.heap.size+1+1,0,none⟩ _ _ (by show w.heap.size+1≠w.heap.size+1+1;omega)).trans Ls.o);have ae4:=kp (show aa (W6.setCell ⟨w.heap.size+1+1,0,none⟩ (.int .i64 0)) (w.heap.size+1+1) 33 #[.int .i64 0] from a4d.o.set 0 _);have B7:=kp (show Below w.heap.size w (W6.setCell ⟨w.heap.size+1+1,0,none⟩ (.int .i64 0)) from B6.o.setCell (p:=⟨w.heap.size+1+1,0,none⟩) (by show w.heap.size<=w.heap.size+1+1;omega) _);have S7:=kp (show ∀k,W.heap.size<=k->(W6.setCell ⟨w.heap.size+1+1,0,none⟩ (.int .i64 0)).heap[k]? = w5.heap[k]? from fun k hk=>(Below.heap_setCell W6 ⟨w.heap.size+1+1,0,none⟩ _ k (by have:=Ih.o.lt;have:=HB.o.size;show k≠w.heap.size+1+1;omega)).trans (S6.o k hk));have Z7:=kp (show (W6.setCell ⟨w.heap.size+1+1,0,none⟩ (.int .i64 0)).heap.size=w5.heap.size by simp;exact Z6.o);have M7:=kp (show Marks W0.heap.size ds (W6.setCell ⟨w.heap.size+1+1,0,none⟩ (.int .i64 0)) from a0i M6.o Ih.o.lt _);generalize W6.setCell ⟨w.heap.size+1+1,0,none⟩ (.int .i64 0)=W7 at *;clear r1 f1 d0;have HI:=kp (show Below w.heap.size w W7/\(aa W7 (w.heap.size+1) 36 #[.pointer (some ⟨go,0,none⟩)]/\aa W7 (w.heap.size+1+1) 33 #[.int .i64 0])/\hJ W7 (fun k=>W.heap.size<=k) go X m r from ⟨B7.o,⟨ae3.o,ae4.o⟩,ph.o.same (by rw [Z7.o];exact ah _) (fun k _ hk=>S7.o k hk)⟩);have hzW:=HB.o.size;have oY:=ay.o.size;have l1:=jz.o.lt;have l2:=Ih.o.lt;go_wp2_with fail;refine ZS (B:=W0.heap.size) (fun w'=>Below w.heap.size w w'/\(aa w' (w.heap.size+1) 36 #[.pointer (some ⟨go,0,none⟩)]/\aa w' (w.heap.size+1+1) 33 #[.int .i64 0])/\hJ w' (fun k=>W.heap.size<=k) go X m r) (fun w' r' o h hr ho iS => ?_) ds W7 M7.o HI.o (fun w' h => ?_)
    .have ae:=(Array.getElem?_eq_some_iff.1 ho).1;refine ⟨h.1.trans ((aq _ w').grown (grownBy_putObj' w' r' _) (by omega) (fun k e=>by cases e;omega)),⟨(World.putObj_heap_other (by omega)).trans h.2.1.1,(World.putObj_heap_other (by omega)).trans h.2.1.2⟩,h.2.2.kept (grownBy_putObj' w' r' _) (fun q e=>by cases e;exact ⟨o,ho,iS⟩)⟩
    .obtain ⟨h1,⟨h2,h3⟩,h4⟩:=h;have q0:=h2.one.1;have q1:=h3.one.1;exact ⟨.tuple #[.pointer (some ⟨go,0,none⟩),.int .i64 0],by simp [results,Tryz.results10,go_sem,q0,q1],HQ.o go w' (h4.imp fun k hk=>by omega) h1⟩
end
section
theorem a68 (w:World) (a0 a1 a2 a3 a4 a5 a6 a7 a8 b0 b1 b2 b3 b4 b5 b6 b7 b8:Int):(Op.equalIn 9998 52 (.agg #[.int .i64 a0,.int .i64 a1,.int .i64 a2,.int .i64 a3,.int .i64 a4,.int .i64 a5,.int .i64 a6,.int .i64 a7,.int .i64 a8]) (.agg #[.int .i64 b0,.int .i64 b1,.int .i64 b2,.int .i64 b3,.int .i64 b4,.int .i64 b5,.int .i64 b6,.int .i64 b7,.int .i64 b8])).run Tryz.prog w = .ok (decide (a0=b0/\a1=b1/\a2=b2/\a3=b3/\a4=b4/\a5=b5/\a6=b6/\a7=b7/\a8=b8)) w:=by
 obtain ⟨i,hi⟩:∃i,Tryz.prog.info? 51=some i:=Option.isSome_iff_exists.1 (by kernel_rfl);have hc:Tryz.prog.cellsOf 51=3:=by kernel_rfl
 rw [run_equalIn_array w 9997 _ _ Tryz.underlying52 hi,hc];simp [Op.eqItems,go_sem,range,range.loop]
 repeat' split
 all_goals simp_all
attribute [local go_sem] a68
theorem abm (A B:OA) (ca cb:Nat) (l:List Cl) (w:World) (hl:l.length<=1000000) (jf:Row w w.heap.size A (l.flatMap bT)) (mf:Row w w.heap.size B (l.flatMap bT)) :
 Calls Tryz.prog 90 #[.slice A l.length ca,.slice B l.length cb] w (iC w):=by
 have HA:=kp jf;have HB:=kp mf;have HQ:=kp (show ∀w',Below w.heap.size w w'->iC w (.returned (.bool true)) w' from fun w' h=>⟨rfl,h⟩);clear jf mf;generalize iC w=Q at *;obtain ⟨n,hn⟩:∃n,l.length=n:=⟨_,rfl⟩
 rw [hn] at hl ⊢;have Hn:=kp hn;clear hn;have q0:((n:Int) != (n:Int))=false:=by simp
 go_enter Tryz.func90,Tryz.ntmps90;go_wp2_with fail
 go_loopw [13] (fun oE wr=>∃k:Nat,k<=n/\oE = .int .i64 k/\Below w.heap.size w wr) (fun oE _=>n-(intOf oE).toNat)
 case atStart=>exact ⟨0,aZ _,rfl,aq _ _⟩
 case round =>
  obtain ⟨k,hk,rfl,aC⟩:=hrel;have ai:=kp aC;clear aC;by_cases ae:k<n
  .have aA:k<l.length:=by rw [Hn.o];exact ae
   obtain ⟨bA,oA,hA,eQ,c0,c1,c2,c3,c4,c5,c6,c7,c8,c9,iw,rb⟩:=rO (HA.o.below ai.o) k aA;obtain ⟨bB,oB,hB,FX,d0,d1,d2,d3,d4,d5,d6,d7,d8,d9,dB,dC⟩:=rO (HB.o.below ai.o) k aA;rw [hA,hB];clear hA hB;generalize (l[k]'aA)=x at *;have i0:(0:Int)<=(k:Int):=by omega
   have i1:(k:Int)<(n:Int):=by omega
   go_wp2_with fail
   go_quiet (fail)
   go_wp2_with fail;exact ⟨⟨k+1,by omega,by go_num,below_drewN ai.o _⟩,by simp [intOf];omega⟩
  .obtain rfl:k=n:=by omega
   have Hf:=kp (HQ.o wr ai.o);go_wp2_with fail;exact Hf.o
theorem a8W:∀ (args:AV) (w:World),(callFunc 90 args).run Tryz.prog w = .ok (.enter 90 args) w:=by
 intro args w
 kernel_rfl
theorem a6f:∀ (args:AV) (w:World),(callFunc 41 args).run Tryz.prog w = .ok (.enter 41 args) w:=by
 intro args w
 kernel_rfl
theorem RM {a b:Nd} (h:az a=az b):a.aj=b.aj/\a.ls.map Ll.cs=b.ls.map Ll.cs/\a.all=b.all/\a.ls.length=b.ls.length:=by
 unfold az at h;injection h with h1 h2 h3
 exact ⟨h1,h2,h3,by simpa using congrArg length h2⟩
theorem XM (fn:Nat) (Cj:∀ (args:AV) (w:World),(callFunc fn args).run Tryz.prog w = .ok (.enter fn args) w)
 (hf:∀ (A B:OA) (ca cb:Nat) (l:List Cl) (w:World),l.length<=1000000->Row w w.heap.size A (l.flatMap bT)->Row w w.heap.size B (l.flatMap bT)->Calls Tryz.prog fn #[.slice A l.length ca,.slice B l.length cb] w (iC w))
 {w:World} {a b:Nd} (h1:dp w w.heap.size a) (h2:dp w w.heap.size b) (he:az a=az b) (hn:a.ls.length<=1000000) (hs:∀l∈a.ls,l.cs.length<=1000000) :
 Calls Tryz.prog 91 #[.slice a.A a.ls.length a.c,.slice b.A b.ls.length b.c,.func (.func fn) #[] #[]] w (iC w):=by
 obtain ⟨_,he,_,hl⟩:=RM he;rw [<-hl];refine (a5N fn #[] a.A b.A a.c b.c a.ls.length (a.ls.map fi) (b.ls.map fi) (fun _ W=>Below w.heap.size w W) w hn (by rw [lM]) (by rw [lM];exact hl.symm) Cj (aq _ _) (fun k W hW=>⟨(h1.row.below hW).more hW.size,(h2.row.below hW).more hW.size⟩) (fun k W g1 g2 hW => ?_)).mono (fun e w' h=>h);rw [lM] at g1 g2;rw [getElem_map,getElem_map];have e:b.ls[k].cs=a.ls[k].cs:=by
  have h0:(a.ls.map Ll.cs)[k]? = (b.ls.map Ll.cs)[k]? := by rw [he]
  rw [getElem?_map,getElem?_map,gE g1,gE g2] at h0;injection h0 with h0
  exact h0.symm
 have r1:=((h1.each _ (gM g1)).below hW).more hW.size;have r2:=((h2.each _ (gM g2)).below hW).more hW.size;rw [e] at r2;unfold fi;rw [e];exact (hf _ _ _ _ _ W (hs _ (gM g1)) r1 r2).mono fun e w' ⟨a,b⟩=>⟨a,hW.trans (b.mono hW.size)⟩
theorem aaO {a b:Nd} {w:World} (h1:dp w w.heap.size a) (h2:dp w w.heap.size b) (he:az a=az b) (hn:a.ls.length<=1000000) (hs:∀l∈a.ls,l.cs.length<=1000000) :
 Calls Tryz.prog 41 #[.agg (bG a),.agg (bG b)] w (iC w):=by
 have au:=((aq w.heap.size w).alloc (ah _) (.cells (bG a) 100)).alloc (by simp) (.cells (bG b) 100);have H:=kp (XM _ a8W (fun A B ca cb l w h1 h2 h3=>abm A B ca cb l w h1 h2 h3) ((h1.below au).more au.size) ((h2.below au).more au.size) he hn hs);have bL:=kp ((aa.new w 100 (bG a)).alloc (.cells (bG b) 100));have aV:=kp (aa.lay (w:=w.alloc (.cells (bG a) 100)) (g:=w.heap.size+1) (t:=100) (cs:=bG b) (by simp));have ay:=kp au;generalize hQ:iC w=Q;have HQ:=kp (show ∀w',Below w.heap.size w w'->Q (.returned (.bool true)) w' from fun w' h=>by rw [<-hQ];exact ⟨rfl,h⟩);obtain ⟨e1,_,e2,e3⟩:=RM he;have E1:=kp e1;have E2:=kp e2;clear hQ au h1 h2 he hs e1 e2 e3;generalize dk:w.alloc (.cells (bG a) 100)=W1 at *;generalize dN:W1.alloc (.cells (bG b) 100)=W2 at *;have fe:W1.heap.size=w.heap.size+1:=by rw [<-dk];simp
 have aD:=(aa.cw bL.o).1;obtain ⟨⟨b0,b1,b2,b3,b4,b5,b6,b7,b8,b9,zt,b11,b12,b13⟩,_⟩:=aa.cw aV.o;rw [<-E1.o] at b0;rw [<-E2.o] at b2 b3 b4 b5 b6 b7 b8 b9 zt b11 b12 b13;clear bL aV;go_enter Tryz.func41,Tryz.ntmps41;go_wp2_with fail;refine H.o.mono ?_;rintro e w3 ⟨rfl,hb⟩;have Hf:=kp (HQ.o w3 (ay.o.trans (hb.mono ay.o.size)));clear hb H;go_wp2_with fail;exact Hf.o
end
theorem a8Y {w:World} {A B:OA} {ca cb m:Nat} {X:List LN} {xs ys:List Nd} {ns:List aI} (h1:jH w w.heap.size A xs) (h2:jH w w.heap.size B ys) (hx:xs.map az=ns) (hy:ys.map az=ns) (ho:jJ X m ns) :
 Calls Tryz.prog 40 #[.slice A xs.length ca,.slice B ys.length cb,.func (.func 41) #[] #[]] w (iC w):=by
 have dr:xs.length=ns.length:=by rw [<-hx,lM]
 have xo:ys.length=ns.length:=by rw [<-hy,lM]
 have hf:=ho.mU;rw [xo,<-dr];refine (a7o 41 #[] A B ca cb xs.length xs ys (fun _ W=>Below w.heap.size w W) w (by omega) rfl (by omega) a6f (fun k W W' h hb=>h.trans (hb.mono h.size)) (aq _ _) (fun k W hW=>⟨(h1.row.below hW).more hW.size,(h2.row.below hW).more hW.size⟩) (fun k W g1 g2 hW => ?_)).mono (fun e w' h=>h);have e:az xs[k]=az ys[k]:=by
  have h0:(xs.map az)[k]? = (ys.map az)[k]? := by rw [hx,hy]
  rw [getElem?_map,getElem?_map,gE g1,gE g2] at h0;injection h0
 have gH:=(Mm (nds:=xs) (by rw [hx];exact ho.small)).2 _ (gM g1);exact (aaO (((h1.each _ (gM g1)).below hW).more hW.size) (((h2.each _ (gM g2)).below hW).more hW.size) e (by omega) (fun l hl=>by have:=gH.2 l hl;omega)).mono fun e w' ⟨a,b⟩=>⟨a,hW.trans (b.mono hW.size)⟩
theorem Yo {X:List LN} {m ga gb:Nat} {ns:List aI} {w:World} (ha:ft w ga X m ns) (hb:ft w gb X m ns) (ho:jJ X m ns) :
 Calls Tryz.prog 11 #[.pointer (some ⟨ga,0,none⟩),.pointer (some ⟨gb,0,none⟩)] w (iC w):=by
 have HA:=kp (fun w' (h:Below w.heap.size w w')=>(ha.below h).shape ho);have HB:=kp (fun w' (h:Below w.heap.size w w')=>(hb.below h).shape ho);have Ev:=kp (fun w' (h:Below w.heap.size w w')=>(ha.below h).nodes ho);have Ew:=kp (fun w' (h:Below w.heap.size w w')=>(hb.below h).nodes ho);have Ho:=kp ho;generalize hQ:iC w=Q;have HQ:=kp (show ∀w',Below w.heap.size w w'->Q (.returned (.bool true)) w' from fun w' h=>by rw [<-hQ];exact ⟨rfl,h⟩);clear hQ ha hb ho;go_enter Tryz.func11,Tryz.ntmps11;go_wp2_with fail;refine (HA.o w (aq _ _)).mono ?_;rintro e w1 ⟨A1,c1,y1,rfl,i1,k1,b1⟩;have I1:=kp i1;have K1:=kp k1;have B1:=kp b1;clear i1 k1 b1;go_wp2_with fail;refine (HB.o w1 B1.o).mono ?_;rintro e w2 ⟨A2,c2,y2,rfl,i2,k2,b2⟩;have B2:=aR B1 b2;have HS:=kp (Rg (A:=A1) (B:=A2) (m:=m) (ca:=c1) (cb:=c2) (xs:=y1) (ys:=y2) (w:=w2) ((I1.o.below b2).more b2.size) i2 (K1.o.trans k2.symm) (by have:=Ho.o.n16;have h:=congrArg length K1.o;rw [lM] at h;omega) (fun x hx=>by have:=Ho.o.short x.keys (by rw [<-K1.o];exact mem_map_of_mem hx);omega));clear i2 k2 b2 I1 K1 B1;go_wp2_with fail;refine HS.o.mono ?_;rintro e w3 ⟨rfl,b3⟩;have B3:=aR B2 b3;clear b3 HS B2;go_wp2_with fail;refine (Ev.o w3 B3.o).mono ?_;rintro e w4 ⟨A4,c4,y4,rfl,o4,p4,b4⟩;have B4:=aR B3 b4;have N4:=kp o4.at_;have P4:=kp p4;clear o4 p4 b4 B3;go_wp2_with fail;refine (Ew.o w4 B4.o).mono ?_;rintro e w5 ⟨A5,c5,y5,rfl,o5,p5,b5⟩;have B5:=aR B4 b5;have HE:=kp (a8Y (A:=A4) (B:=A5) (ca:=c4) (cb:=c5) ((N4.o.below b5).more b5.size) o5.at_ P4.o p5 Ho.o);clear o5 p5 b5 B4 N4 P4;go_wp2_with fail;refine HE.o.mono ?_;rintro e w6 ⟨rfl,b6⟩;have Hf:=kp (HQ.o w6 (B5.o.trans (b6.mono B5.o.size)));clear b6 HE;go_wp2_with fail;exact Hf.o
end Go.Proofs.YtjopcamkclndlaaGreat.Tc
namespace Go.Proofs.YtjopcamkclndlaaGreat.Tc
open List Go.RowKit Base Go.Maps Go.WideMaps
section
def diag (L:LN):List (Int×Int):=L.map fun (i:Nat)=>((i:Int),(i:Int))
structure Tw where
 w0:World
 X:List LN
 m:Nat
 ns:List aI
 ga:Nat
 gb:Nat
 gm:Nat
 gp:Nat
structure Tw.Ok (c:Tw):Prop where
 ok:jJ c.X c.m c.ns
 N1:ft c.w0 c.ga c.X c.m c.ns
 Rc:ft c.w0 c.gb c.X c.m c.ns
 m0:c.w0.heap.size<=c.gm
 p0:c.w0.heap.size<=c.gp
 mp:c.gm≠c.gp
 lead:∀ (i:Nat) (n:aI),c.ns[i]? = some n->n.aj+1=c.X.length\/∀x∈di n,∃n':aI,c.ns[x.child]? = some n'/\n'.aj=n.aj+1
structure Tw.Dy (c:Tw) (w:World) (L:LN):Prop where
 base:Below c.w0.heap.size c.w0 w
 box:aa w c.gm 106 #[.pointer (some ⟨c.ga,0,none⟩),.pointer (some ⟨c.gb,0,none⟩),.map (some c.gp)]
 met:tH w c.gp (diag L)
 nd:L.Nodup
 lt:∀i∈L,i<c.ns.length
def rM (c:Tw) (w:World) (e:Ending) (w':World):Prop:=e = .returned (.bool true)/\∃L,c.Dy w' L/\bK (fun k=>k=c.gp) w w'
section
variable {c:Tw} {w w' w1:World} {L:LN} {e:Ending}
theorem Tw.Dy.below (h:c.Dy w L) (hb:Below w.heap.size w w'):c.Dy w' L :=
 ⟨h.base.trans (hb.mono h.base.size),h.box.under hb,h.met.same (hb.block _ h.met.lt),h.nd,h.lt⟩
theorem rM.from_ (h:rM c w1 e w') (hb:Below w.heap.size w w1):rM c w e w':=by
 obtain ⟨h1,L,h2,h3⟩:=h;exact ⟨h1,L,h2,(bK.below hb).trans h3⟩
def Fz (c:Tw) (i:Nat):Prop:=∀w L,c.Dy w L->Calls Tryz.prog 43 #[.pointer (some ⟨c.gm,0,none⟩),.agg #[.int .i64 (i:Nat),.int .i64 (i:Nat)]] w (rM c w)
theorem a6Z {l:LN} {n:Nat} (hn:l.Nodup) (h:∀i∈l,i<n):l.length<=n:=by
 have:=(nodup_iff_pairwise_ne.1 hn)
 have hs:l ⊆ range n:=fun i hi=>mem_range.2 (h i hi)
 have:=hn.length_le_of_subset hs
 rwa [length_range] at this
attribute [local go_sem] a0Z
theorem ab5 (hd:c.Dy w L) (last:Bool) (x:Cl) (bl bw:Nat) (h1:aa w bl 4 #[.bool last]) (h2:aa w bw 103 #[.pointer (some ⟨c.gm,0,none⟩)]) (hn:last=false->Fz c x.child) :
 Calls Tryz.prog 131 (#[.agg (bQ x),.agg (bQ x)]++#[.pointer (some ⟨bl,0,none⟩),.pointer (some ⟨bw,0,none⟩)]) w (rM c w):=by
 have au:=((aq w.heap.size w).alloc (ah _) (.cells (bQ x) 98)).alloc (by simp) (.cells (bQ x) 98);have bL:=kp ((aa.new w 98 (bQ x)).alloc (.cells (bQ x) 98));have aV:=kp (aa.lay (w:=w.alloc (.cells (bQ x) 98)) (g:=w.heap.size+1) (t:=98) (cs:=bQ x) (by simp));have Hd:=kp (hd.below au);have l0:=(h1.under au).one.1;have l1:=(h2.under au).one.1;have ay:=kp au;have Hn:=kp hn;generalize hQ:rM c w=Q;have HQ:=kp (show ∀e w1 w',Below w.heap.size w w1->rM c w1 e w'->Q e w' from fun e w1 w' hb h=>by rw [<-hQ];exact h.from_ hb);clear hQ au h1 h2 hd hn;generalize dk:w.alloc (.cells (bQ x) 98)=W1 at *;generalize dN:W1.alloc (.cells (bQ x) 98)=W2 at *;have fe:W1.heap.size=w.heap.size+1:=by rw [<-dk];simp
 have aD:=(aa.fQ bL.o).1;have bD:=(aa.fQ aV.o).1;clear bL aV;rw [show (#[.agg (bQ x),.agg (bQ x)]++#[.pointer (some ⟨bl,0,none⟩),.pointer (some ⟨bw,0,none⟩)]:AV)=#[.agg (bQ x),.agg (bQ x),.pointer (some ⟨bl,0,none⟩),.pointer (some ⟨bw,0,none⟩)] from rfl];cases last with
 | true =>
  have Hf:=kp (HQ.o _ _ _ ay.o ⟨rfl,L,Hd.o,bK.refl _ _⟩);go_enter Tryz.func131,Tryz.ntmps131;go_wp2_with fail;exact Hf.o
 | false =>
  have HC:=kp (Hn.o rfl W2 L Hd.o);unfold Fz at *;go_enter Tryz.func131,Tryz.ntmps131;go_wp2_with fail;refine HC.o.mono ?_;intro e w3 h3;obtain ⟨rfl,h3⟩:=h3;have Hf:=kp (HQ.o _ _ _ ay.o ⟨rfl,h3⟩);clear h3 HC;go_wp2_with fail;exact Hf.o
theorem a88:∀ (args:AV) (w:World),(callFunc 131 args).run Tryz.prog w = .ok (.enter 131 args) w:=by
 intro args w
 kernel_rfl
theorem a5o (hc:c.Ok) (hd:c.Dy w L) (last:Bool) (l:List Cl) (A B:OA) (ca cb:Nat) (hl:l.length<=1000000) (hA:Row w w.heap.size A (l.flatMap bT)) (hB:Row w w.heap.size B (l.flatMap bT)) (fA:∀k,eo A (l.flatMap bT) k->k≠c.gp) (fB:∀k,eo B (l.flatMap bT) k->k≠c.gp) (hn:last=false->∀x∈l,Fz c x.child) :
 Calls Tryz.prog 92 #[.pointer (some ⟨c.gm,0,none⟩),.bool last,.slice A l.length ca,.slice B l.length cb] w (rM c w):=by
 have au:=((aq w.heap.size w).alloc (ah _) (.cells #[.pointer (some ⟨c.gm,0,none⟩)] 103)).alloc (by simp) (.cells #[.bool last] 4);have bL:=kp ((aa.new w 103 #[.pointer (some ⟨c.gm,0,none⟩)]).alloc (.cells #[.bool last] 4));have aV:=kp (aa.lay (w:=w.alloc (.cells #[.pointer (some ⟨c.gm,0,none⟩)] 103)) (g:=w.heap.size+1) (t:=4) (cs:=#[.bool last]) (by simp));have Lt:=hd.met.lt;have Hd:=kp (hd.below au);have ay:=kp au;generalize hQ:rM c w=Q;have HQ:=kp (show ∀e w1 w',Below w.heap.size w w1->rM c w1 e w'->Q e w' from fun e w1 w' hb h=>by rw [<-hQ];exact h.from_ hb);clear hQ hd;generalize dk:w.alloc (.cells #[.pointer (some ⟨c.gm,0,none⟩)] 103)=W1 at *;generalize dN:W1.alloc (.cells #[.bool last] 4)=W2 at *;have fe:W1.heap.size=w.heap.size+1:=by rw [<-dk];simp
 have HE:=kp (abd 131 #[.pointer (some ⟨w.heap.size+1,0,none⟩),.pointer (some ⟨w.heap.size,0,none⟩)] A B ca cb l.length l l (fun _ W=>∃L,c.Dy W L/\bK (fun k=>k=c.gp) W2 W) W2 hl rfl rfl a88
  (fun k W W' ⟨L,h1,h2⟩ hb=>⟨L,h1.below hb,h2.trans (bK.below hb)⟩) ⟨L,Hd.o,bK.refl _ _⟩
  (fun k W ⟨L,h1,h2⟩=>⟨(pL (hA.below ay.o) (fun k hk=>h2.block k (dL (Row.cW hA hk) ay.o.size) (fA k hk))).more (aT ay.o.size h2.size),(pL (hB.below ay.o) (fun k hk=>h2.block k (dL (Row.cW hB hk) ay.o.size) (fB k hk))).more (aT ay.o.size h2.size)⟩)
  (fun k W g1 g2 ⟨L,h1,h2⟩=>(ab5 h1 last l[k] (w.heap.size+1) w.heap.size ((h2.block _ aV.o.lt (by omega)).trans aV.o) ((h2.block _ bL.o.lt (by omega)).trans bL.o) (fun e=>hn e _ (gM g1))).mono fun e w' ⟨k1,L',k2,k3⟩=>⟨k1,L',k2,h2.trans k3⟩))
 clear hA hB fA fB hn Lt;go_enter Tryz.func92,Tryz.ntmps92;go_wp2_with fail;refine HE.o.mono ?_;rintro e w3 ⟨rfl,h3⟩;have Hf:=kp (HQ.o _ _ _ ay.o ⟨rfl,h3⟩);clear h3 HE;go_wp2_with fail;exact Hf.o
end
end
section
variable {c:Tw} {w w' w1:World} {L:LN} {e:Ending}
theorem aaW {i:Nat} (hi:i<=1000000):mM ((i:Int),(i:Int)):=⟨by dsimp only;omega,by dsimp only;omega,by dsimp only;omega,by dsimp only;omega⟩
theorem a1f {i:Nat} {L:LN}:((i:Int),(i:Int))∈diag L↔i∈L:=by
 unfold diag;rw [mem_map];constructor
 .rintro ⟨j,hj,e⟩;injection e with e _
  have:j=i:=by omega
  rw [<-this];exact hj
 .exact fun h=>⟨i,h,rfl⟩
theorem ZK {a b:Int} (h:(DataW.lit (Lit.int .i64 a):DataW Unit) = .lit (.int .i64 b)):a=b:=by
 injection h with h
 injection h
theorem RF {g:Nat} {l:List (Int×Int)} {p:Int×Int} (h:tH w g l) (hp:mM p):(Instr.lookup 104 (.map (some g)) (pV p) false).run Tryz.prog w = .ok (.int .i64 (if p∈l then 1 else 0)) w:=by
 obtain ⟨D,aE,br⟩:=h;obtain ⟨q,jM,hv,_⟩:=aE.lookup_int EK Tryz.underlying104 Tryz.underlying3 (tN w) (uX p hp);rw [br.at_ p hp] at hv;rw [jM,<-ZK hv]
theorem Yx {A B C:Type} {T X:A->B->C->Prop} {G:Prop} (main:(∀a b c,T a b c->X a b c)->G) (tail:∀a b c,T a b c->X a b c):G:=main tail
theorem My {α:Type} {a b:α} {w1 w2:World} (h:(Result.ok a w1:Result α) = .ok b w2):w1=w2:=by cases h;rfl
theorem EE:KeyLaw Tryz.prog 109:=deep_law_laid laidOut (m:=2) (by omega) (of_decide_eq_true (by kernel_rfl)) (by kernel_rfl) (by kernel_rfl)
theorem a9J {D:DataW Unit} {l:List (Int×Int)} {p:Int×Int} (h:yG 109 D l) (hp:mM p) (hn:p∉l):yG 109 (D.put (pK p) (.lit (.int .i64 0))) l:=by
 have hl:WideAt.IsKeyLit (pK p):=trivial;refine ⟨h.map.put _ _,fun q hq => ?_⟩;by_cases e:q=p
 .subst e;rw [atKey_put_same h.map hl,if_neg hn]
 .rw [atKey_put_other (fun hh=>e (MY uX EK hq hp hh)),h.at_ q hq]
theorem a9N {g:Nat} {l:List (Int×Int)} {p:Int×Int} (h:tH w g l) (hp:mM p) (hn:p∉l) (hl:l.length<=1000000) :
 ∃ (v0:Value) (st:Int) (w1:World),(Instr.mapEntry 104 (.map (some g)) (pV p)).run Tryz.prog w = .ok (.tuple #[v0,.int .i64 st]) w1/\w.grownBy w1 (some g)/\(Instr.lookup 104 (.map (some g)) (pV p) false).run Tryz.prog w1 = .ok (.int .i64 0) w1/\∃w3,(Instr.entryStore 104 (.map (some g)) (.int .i64 st) (.int .i64 1)).run Tryz.prog w1 = .ok () w3/\tH w3 g (l++[p])/\w.grownBy w3 (some g):=by
 obtain ⟨D,aE,br⟩:=h;have jZ:=aE;obtain ⟨es,Ij,hb,F,hs,hD⟩:=jZ;have BP:l.length<maxLen:=by unfold maxLen;omega
 have wz:∀o,w.grownBy (ChangeMaps.setBlock w g o) (some g):=fun o=>⟨rfl,rfl,rfl,by simp [ChangeMaps.setBlock],fun i _ hi=>ChangeMaps.heap_setBlock_other hb _ (fun e=>hi (by rw [e]))⟩
 obtain ⟨v0,st,VD,VE,yE,K6,fM⟩:=WideElems.entry_then_store EE Tryz.underlying104 (z := .int .i64 0) (fun u=>tN u) hb F (uX p hp);have ax:(ChangeMaps.setBlock w g (.map VD VE)).heap[g]? = some (.map VD VE):=ChangeMaps.heap_setBlock_same hb _;refine ⟨v0,st,_,yE,wz _,?_,?_⟩
 .rcases EE.find w (uX p hp) es.toList F.keys with ⟨h1,h2⟩ | ⟨j,e0,h1,h2,h3⟩
  .have r1:(Instr.mapEntry 104 (.map (some g)) (pV p)).run Tryz.prog w = .ok (.tuple #[.int .i64 0,.int .i64 (Ij:Nat)]) (ChangeMaps.setBlock w g (.map (es.push ⟨pV p,.int .i64 0,Ij⟩) (Ij+1))):=by
    simp [Instr.mapEntry,run_underlying Tryz.underlying104,MapKept.run_getObj_map hb,EE.check w false (uX p hp),h1,tN w,MapKept.run_setObj_map _ hb,Result.andThen,ChangeMaps.setBlock,goInt]
   obtain ⟨w',mG,VF,_⟩:=aE.update EK Tryz.underlying104 BP (uX p hp) (plainElem_int Tryz.underlying3 (show (Lit.int .i64 0).wf=true by decide));have r2:(Instr.mapUpdate 104 (.map (some g)) (pV p) (.int .i64 0)).run Tryz.prog w = .ok () (ChangeMaps.setBlock w g (.map (es.push ⟨pV p,.int .i64 0,Ij⟩) (Ij+1))):=by
    simp [Instr.mapUpdate,run_underlying Tryz.underlying104,MapKept.run_getObj_map hb,EE.check w false (uX p hp),h1,MapKept.run_setObj_map _ hb,Result.andThen,ChangeMaps.setBlock]
   rw [r2] at mG;replace mG:=My mG;rw [r1] at yE;replace yE:=My yE;rw [<-yE,mG];obtain ⟨q,jM,hv,_⟩:=VF.lookup_int EK Tryz.underlying104 Tryz.underlying3 (tN w') (uX p hp);rw [(a9J br hp hn).at_ p hp,if_neg hn] at hv;rw [jM,<-ZK hv]
  .have hj:es[j]? = some e0:=by simpa using h2
   have KS:es.modify j (fun e=>{ e with key:=pV p })=es:=by
    apply Array.ext';rw [Array.toList_modify,ChangeMaps.modify_eq_set _ _ _ _ h2];have:({ e0 with key:=pV p }:MapEntry)=e0:=by rw [<-h3]
    rw [this];exact WideElems.set_self _ _ _ h2
   have r1:(Instr.mapEntry 104 (.map (some g)) (pV p)).run Tryz.prog w = .ok (.tuple #[e0.val,.int .i64 e0.born]) (ChangeMaps.setBlock w g (.map es Ij)):=by
    simp [Instr.mapEntry,run_underlying Tryz.underlying104,MapKept.run_getObj_map hb,EE.check w false (uX p hp),h1,hj,h3,EE.stays w (uX p hp),KS,MapKept.run_setObj_map _ hb,Result.andThen,ChangeMaps.setBlock,goInt]
   rw [r1] at yE;replace yE:=My yE;have dg:tH (ChangeMaps.setBlock w g (.map VD VE)) g l:=tH.same ⟨D,aE,br⟩ (by rw [<-yE];exact (ChangeMaps.heap_setBlock_same hb _).trans hb.symm);have:=RF dg hp;rw [if_neg hn] at this;exact this
 .obtain ⟨es',cl',h1,h2⟩:=fM _ (.int .i64 1) ax;obtain ⟨w',mG,VF,_⟩:=aE.update EK Tryz.underlying104 BP (uX p hp) (plainElem_int Tryz.underlying3 (show (Lit.int .i64 1).wf=true by decide));rw [h2] at mG;replace mG:=My mG;have hm:tH w' g (l++[p]):=⟨_,by rw [aS];exact VF,br.put uX EK hp⟩
  rw [<-mG] at hm;refine ⟨_,h1,hm.same ?_,⟨rfl,rfl,rfl,by simp [ChangeMaps.setBlock],fun i _ hi => ?_⟩⟩
  .rw [ChangeMaps.heap_setBlock_same ax _,ChangeMaps.heap_setBlock_same hb _]
  .have av:i≠g:=fun e=>hi (by rw [e])
   exact (ChangeMaps.heap_setBlock_other ax _ av).trans (ChangeMaps.heap_setBlock_other hb _ av)
end
theorem a6b:∀ (args:AV) (w:World),(callFunc 93 args).run Tryz.prog w = .ok (.enter 93 args) w:=by
 intro args w
 kernel_rfl
theorem abN (A B:OA) (ca cb:Nat) (l:List Cl) (w:World):Calls Tryz.prog 93 #[.slice A l.length ca,.slice B l.length cb] w (iC w):=by
 have HQ:=kp (show iC w (.returned (.bool true)) w from ⟨rfl,aq _ _⟩);generalize iC w=Q at *;have q0:((l.length:Int) == (l.length:Int))=true:=by simp
 go_enter Tryz.func93,Tryz.ntmps93;go_wp2_with fail;exact HQ.o
theorem a14 {c:Tw} (hc:c.Ok) {i:Nat} {n:aI} (hi:c.ns[i]? = some n) (hn:n.aj+1≠c.X.length->∀x∈di n,Fz c x.child):Fz c i:=by
 intro w L hd;have lv:=(bS hi).1;have Lu:=hc.ok.mU;have xe:=aaW (i:=i) (by omega);have au:=(aq w.heap.size w).alloc (ah _) (.cells #[.int .i64 (i:Nat),.int .i64 (i:Nat)] 109);have cQ:=kp (aa.new w 109 #[.int .i64 (i:Nat),.int .i64 (i:Nat)]);have Hd:=kp (hd.below au);have ay:=kp au;have uk:=kp hd;generalize hQ:rM c w=Q;have HQ:=kp (show ∀e w',rM c w e w'->Q e w' from fun e w' h=>by rw [<-hQ];exact h);clear hQ au hd;generalize dk:w.alloc (.cells #[.int .i64 (i:Nat),.int .i64 (i:Nat)] 109)=W1 at *;obtain ⟨z0,z1,_,_⟩:=cQ.o.two;have ko:=kp (show ∀k,(Instr.lookup 104 (.map (some c.gp)) (.agg #[.int .i64 (i:Nat),.int .i64 (i:Nat)]) false).run Tryz.prog (W1.drewN k) = .ok (.int .i64 (if ((i:Int),(i:Int))∈diag L then 1 else 0)) (W1.drewN k) from fun k=>RF (w:=W1.drewN k) (Hd.o.met.same rfl) xe);have m0:=Hd.o.box.cell 0;have m1:=Hd.o.box.cell 1;have m2:=Hd.o.box.cell 2;by_cases hm:i∈L
 .have ko:=ko.out;rw [if_pos (a1f.2 hm)] at ko;have Hf:=kp (fun k=>HQ.o _ (W1.drewN k) ⟨rfl,L,Hd.o.below (below_drewN (aq _ _) k),bK.below (below_drewN ay.o k)⟩);clear Hd ay uk HQ hn;go_enter Tryz.func43,Tryz.ntmps43;go_wp2_with fail
  go_quiet (fail)
  go_wp2_with fail;exact Hf.o _
 .have da:=kp (fun h=>hm (a1f.1 h));have Ik:=ko.out;rw [if_neg da.out] at Ik;go_enter Tryz.func43,Tryz.ntmps43;go_upto_region 1 with fail
  go_quiet (fail)
  go_upto_region 3 with fail
  go_cut [] from 16 to 24 (fun wx=>c.Dy wx (L++[i])/\bK (fun k=>k=c.gp) w wx/\aa wx w.heap.size 109 #[.int .i64 (i:Nat),.int .i64 (i:Nat)])
  case first =>
   have HTw:=kp (show bK (fun k=>k=c.gp) w (W1.drewN nq).drew from (bK.below (below_drewN ay.o nq)).drew);have hlq:=RF (w:=(W1.drewN nq).drew) (Hd.o.met.same rfl) xe;rw [if_neg da.out] at hlq;have HE:=kp (a9N (w:=(W1.drewN nq).drew) (Hd.o.met.same rfl) xe da.out (by have:=a6Z uk.o.nd uk.o.lt;unfold diag;rw [lM];omega));have Cr:=kp (show c.Dy (W1.drewN nq).drew L from Hd.o.below ((below_drewN (aq _ _) nq).drew));have VG:=kp (show aa (W1.drewN nq).drew w.heap.size 109 #[.int .i64 (i:Nat),.int .i64 (i:Nat)] from cQ.o);clear ko Ik HQ hn;refine wp_region_noPanic ?_;refine dt (t:=9) (S:=(fun w'=>w'.cell? ⟨c.gm,2,none⟩=some (.map (some c.gp))/\w'.cell? ⟨w.heap.size,0,none⟩=some (.int .i64 (i:Nat))/\w'.cell? ⟨w.heap.size,1,none⟩=some (.int .i64 (i:Nat)))) (by kernel_rfl) ⟨m2,z0,z1⟩ (fun ad => ?_);generalize hWq:(W1.drewN nq).drew=Wq at *;refine tD 0 1 2 3 ad ?_;refine tk 4 ad ?_;obtain ⟨v0,st,We,yE,kt,iE,w3,hse,NP,vo⟩:=HE.o;have zr:IntKind.i64.wrap 1=1:=by decide
   have qi:c.gp<Wq.heap.size:=Cr.o.met.lt;have AH:=hc.mp;have ae:=Cr.o.box.lt;have Ex:=VG.o.lt;have VH:c.gp≠w.heap.size:=by have:=uk.o.met.lt;omega
   have e1:We.heap[c.gm]? = Wq.heap[c.gm]? := kt.block _ ae (fun e=>AH (by injection e));have e2:We.heap[w.heap.size]? = Wq.heap[w.heap.size]? := kt.block _ Ex (fun e=>VH (by injection e with e;exact e.symm));have He:=kp (show We.cell? ⟨c.gm,2,none⟩=some (.map (some c.gp))/\We.cell? ⟨w.heap.size,0,none⟩=some (.int .i64 (i:Nat))/\We.cell? ⟨w.heap.size,1,none⟩=some (.int .i64 (i:Nat)) from ⟨(cZ (a:=⟨c.gm,2,none⟩) e1).trans ad.1,(cZ (a:=⟨w.heap.size,0,none⟩) e2).trans ad.2.1,(cZ (a:=⟨w.heap.size,1,none⟩) e2).trans ad.2.2⟩)
   have HF:=kp (show c.Dy w3 (L++[i])/\bK (fun k=>k=c.gp) w w3/\aa w3 w.heap.size 109 #[.int .i64 (i:Nat),.int .i64 (i:Nat)] by
    have ht:bK (fun k=>k=c.gp) Wq w3:=⟨vo.os,vo.tape,vo.output,vo.size,fun k hk hp=>vo.block k hk (fun e=>hp (by injection e))⟩
    refine ⟨⟨Cr.o.base.trans (ht.toBelow (fun k e=>by rw [e];exact hc.p0) Cr.o.base.size),(ht.block _ ae AH).trans Cr.o.box,by unfold diag;rw [map_append];exact NP,?_,?_⟩,HTw.o.trans ht,(ht.block _ Ex (fun e=>VH e.symm)).trans VG.o⟩
    .exact nodup_append.2 ⟨Cr.o.nd,by simp,fun a ha b hb e=>hm (by rw [mem_singleton.1 hb] at e;rw [<-e];exact ha)⟩
    .intro j hj;rcases mem_append.1 hj with hj | hj
     .exact Cr.o.lt j hj
     .rw [mem_singleton.1 hj];exact lv)
   clear HE Cr VG HTw kt vo NP AH ae Ex VH e1 e2 cQ Hd ay m0 m1 m2 z0 z1 hWq qi;refine pk (sJ (eh (i:=5) (fun K hK => ?_)) (hU (eh (i:=7) (fun K hK => ?_))))
   .go_simp
    refine hK.out _ _ ad (fun ad => ?_);clear hK K
    try simp only [Act.put,setIfInBounds_toArray,set_cons_zero,set_cons_succ]
    refine tk 6 ad ?_;refine oT 7 fun K hK=>?_
    go_simp
    refine oK hK ?_ fun af=>?_
    .exact He.o
    replace ad:=af;clear hK K af;refine tk 8 ad ?_;refine rr (o := ?oe9) (by kernel_rfl) ?ae9 (by kernel_rfl) (fun K hK => ?be9)
    case ae9=>(simp only [getElem?_toArray,getElem?_cons_succ,getElem?_cons_zero];exact rfl)
    go_simp
    refine hK.out _ _ ?_;clear hK K ad;refine NoPanic.normal ?_
    try simp only [Act.put,setIfInBounds_toArray,set_cons_zero,set_cons_succ]
    go_wp2_with fail
    go_meet
    exact HF.o
   .go_simp
    refine hK.out _ _ He.o (fun ad => ?_);clear hK K
    try simp only [Act.put,setIfInBounds_toArray,set_cons_zero,set_cons_succ]
    refine tk 8 ad ?_;refine oT 5 fun K hK=>?_
    go_simp
    refine oK hK ?_ fun af=>?_
    .exact He.o
    replace ad:=af;clear hK K af;refine tk 6 ad ?_;refine rr (o := ?of9) (by kernel_rfl) ?af9 (by kernel_rfl) (fun K hK => ?bf9)
    case af9=>(simp only [getElem?_toArray,getElem?_cons_succ,getElem?_cons_zero];exact rfl)
    go_simp
    refine hK.out _ _ ?_;clear hK K ad;refine NoPanic.normal ?_
    try simp only [Act.put,setIfInBounds_toArray,set_cons_zero,set_cons_succ]
    go_wp2_with fail
    go_meet
    exact HF.o
  case rest =>
   obtain ⟨Ej,zw,ax⟩:=hcut;have oI:=kp Ej;have BC:=kp zw;have aM:=kp ax;clear ko Ik m0 m1 m2 z0 z1 cQ Hd ay uk da hm dk;have yi:=kp (show ∀w',Below wc.heap.size wc w'->w'.cell? ⟨c.gm,0,none⟩=some (.pointer (some ⟨c.ga,0,none⟩))/\w'.cell? ⟨w.heap.size,0,none⟩=some (.int .i64 (i:Nat)) from fun w' hb=>⟨(oI.o.below hb).box.cell 0,(aM.o.under hb).cell 0⟩);have Ey:=kp (show ∀w',Below wc.heap.size wc w'->w'.cell? ⟨c.gm,1,none⟩=some (.pointer (some ⟨c.gb,0,none⟩))/\w'.cell? ⟨w.heap.size,1,none⟩=some (.int .i64 (i:Nat)) from fun w' hb=>⟨(oI.o.below hb).box.cell 1,(aM.o.under hb).cell 1⟩);have Ev:=kp (show ∀w',Below wc.heap.size wc w'->Calls Tryz.prog 58 #[.pointer (some ⟨c.ga,0,none⟩),.int .i64 (i:Nat)] w' (FD n w') from fun w' hb=>(hc.N1.below (oI.o.below hb).base).node hc.ok hi);have Ew:=kp (show ∀w',Below wc.heap.size wc w'->Calls Tryz.prog 58 #[.pointer (some ⟨c.gb,0,none⟩),.int .i64 (i:Nat)] w' (FD n w') from fun w' hb=>(hc.Rc.below (oI.o.below hb).base).node hc.ok hi);obtain ⟨wB,GY⟩:∃z,wc=z:=⟨_,rfl⟩
   rw [GY] at yi Ey Ev Ew oI BC aM;have Il:=kp (show T4 wB n n none none none none wc by rw [GY];exact T4.start (aq _ _));clear GY;go_upto_region 4 with fail
   go_cut [5] from 25 to 34 (fun v5 wx=>∃ (k5:Nat) (nx:Nd),v5 = .pointer (some ⟨k5,0,none⟩)/\T4 wB n n (some nx) none (some (k5,bG nx)) none wx)
   case first =>
    have HT:=kp (Il.o.below (aq wc.heap.size wc).drew);have Hk:=yi;have HN:=Ev;clear Il yi Ey Ev Ew hn HQ oI BC aM hc hi;refine wp_region_noPanic ?_;refine dt (t:=99) (S:=(fun w'=>w'.cell? ⟨c.gm,0,none⟩=some (.pointer (some ⟨c.ga,0,none⟩))/\w'.cell? ⟨w.heap.size,0,none⟩=some (.int .i64 (i:Nat)))) (by kernel_rfl) (Hk.o _ HT.o.bJ) (fun ad => ?_);generalize wc.drew=wx at *;refine tD 0 1 2 3 ad ?_;refine tB 4 5 ad ?_;apply Yx (T:=fun k nx wx=>T4 wB n n (some nx) none (some (k,zN)) none wx/\(wx.cell? ⟨c.gm,0,none⟩=some (.pointer (some ⟨c.ga,0,none⟩))/\wx.cell? ⟨w.heap.size,0,none⟩=some (.int .i64 (i:Nat))))
    case main =>
     intro tail;refine pk (sJ (eh (i:=6) (fun K hK => ?_)) (hU (eh (i:=10) (fun K hK => ?_))))
     .go_simp
      refine (HN.o _ HT.o.bJ).mono ?_;rintro e wx ⟨nx,rfl,k1,k2,⟨k3,k4⟩,k5⟩;replace HT:=kp (HT.o.get k1 k2 k3 k4 k5);refine hK.out _ _ (Hk.o _ HT.o.bJ) (fun af => ?_);clear hK K k1 k2 k3 k4 k5
      try clear ad
      have ad:=af;clear af
      try simp only [Act.put,setIfInBounds_toArray,set_cons_zero,set_cons_succ]
      refine mX 7 8 9 ad ?_;refine pk (hU (eh (i:=10) (fun K hK => ?_)))
      go_simp
      replace HT:=kp (HT.o.al zN);refine hK.out _ _ (Hk.o _ HT.o.bJ) (fun af => ?_);clear hK K
      try clear ad
      generalize wx.heap.size=kx at HT ⊢;generalize wx.alloc _=wx at *;have ad:=af;clear af
      try simp only [Act.put,setIfInBounds_toArray,set_cons_zero,set_cons_succ]
      exact tail kx nx wx ⟨HT.o,ad⟩
     .go_simp
      replace HT:=kp (HT.o.al zN);refine hK.out _ _ (Hk.o _ HT.o.bJ) (fun af => ?_);clear hK K
      try clear ad
      generalize wx.heap.size=kx at HT ⊢;generalize wx.alloc _=wx at *;have ad:=af;clear af
      try simp only [Act.put,setIfInBounds_toArray,set_cons_zero,set_cons_succ]
      refine pk (hU (eh (i:=6) (fun K hK => ?_)))
      go_simp
      refine (HN.o _ HT.o.bJ).mono ?_;rintro e wx ⟨nx,rfl,k1,k2,⟨k3,k4⟩,k5⟩;replace HT:=kp (HT.o.get k1 k2 k3 k4 k5);refine hK.out _ _ (Hk.o _ HT.o.bJ) (fun af => ?_);clear hK K k1 k2 k3 k4 k5
      try clear ad
      have ad:=af;clear af
      try simp only [Act.put,setIfInBounds_toArray,set_cons_zero,set_cons_succ]
      refine mX 7 8 9 ad ?_;exact tail kx nx wx ⟨HT.o,ad⟩
    case tail =>
     rintro kx nx wx ⟨HT,ad⟩;replace HT:=kp HT;refine pk (hU (eh (i:=11) (fun K hK => ?_)));obtain ⟨_,fD⟩:=aa.cw (HT.o.gs _ _ rfl).2;obtain ⟨wf,sq⟩:∃z,aK wx kx 0 (dJ nx)=z:=⟨_,rfl⟩
     replace HT:=kp (HT.o.st rfl);rw [sq] at HT;obtain ⟨d1,A1,l1,c1,⟨k1,h1,⟨a1,b1,e1,i1,j1,o1,r1,s1,t1,u1⟩⟩⟩:=nx;simp only [dJ,aK,Nat.zero_add,Nat.reduceAdd] at sq
     go_simp
     refine hK.out _ _ (Hk.o _ HT.o.bJ) (fun af => ?_);clear hK K ad sq fD;have ad:=af;clear af
     try simp only [Act.put,setIfInBounds_toArray,set_cons_zero,set_cons_succ]
     refine tk 12 ad ?_;refine dY (by kernel_rfl) ?_ _
     try clear ad
     refine NoPanic.normal ?_;go_wp2_with fail
     go_meet
     exact ⟨_,_,rfl,HT.o⟩
   case rest =>
    obtain ⟨k5,nx,rfl,vw⟩:=hcut;have Il:=kp vw;clear vw;go_upto_region 5 with fail
    go_cut [7] from 35 to 44 (fun v7 wx=>∃ (k7:Nat) (ny:Nd),v7 = .pointer (some ⟨k7,0,none⟩)/\T4 wB n n (some nx) (some ny) (some (k5,bG nx)) (some (k7,bG ny)) wx)
    case first =>
     have HT:=kp (Il.o.below (aq wc.heap.size wc).drew);have Hk:=Ey;have HN:=Ew;clear Il yi Ey Ev Ew hn HQ oI BC aM hc hi;refine wp_region_noPanic ?_;refine dt (t:=99) (S:=(fun w'=>w'.cell? ⟨c.gm,1,none⟩=some (.pointer (some ⟨c.gb,0,none⟩))/\w'.cell? ⟨w.heap.size,1,none⟩=some (.int .i64 (i:Nat)))) (by kernel_rfl) (Hk.o _ HT.o.bJ) (fun ad => ?_);generalize wc.drew=wx at *;refine tD 0 1 2 3 ad ?_;refine tB 4 5 ad ?_;apply Yx (T:=fun k ny wx=>T4 wB n n (some nx) (some ny) (some (k5,bG nx)) (some (k,zN)) wx/\(wx.cell? ⟨c.gm,1,none⟩=some (.pointer (some ⟨c.gb,0,none⟩))/\wx.cell? ⟨w.heap.size,1,none⟩=some (.int .i64 (i:Nat))))
     case main =>
      intro tail;refine pk (sJ (eh (i:=6) (fun K hK => ?_)) (hU (eh (i:=10) (fun K hK => ?_))))
      .go_simp
       refine (HN.o _ HT.o.bJ).mono ?_;rintro e wx ⟨ny,rfl,k1,k2,⟨k3,k4⟩,k5⟩;replace HT:=kp ((HT.o.swap.get k1 k2 k3 k4 k5).swap);refine hK.out _ _ (Hk.o _ HT.o.bJ) (fun af => ?_);clear hK K k1 k2 k3 k4 k5
       try clear ad
       have ad:=af;clear af
       try simp only [Act.put,setIfInBounds_toArray,set_cons_zero,set_cons_succ]
       refine mX 7 8 9 ad ?_;refine pk (hU (eh (i:=10) (fun K hK => ?_)))
       go_simp
       replace HT:=kp ((HT.o.swap.al zN).swap);refine hK.out _ _ (Hk.o _ HT.o.bJ) (fun af => ?_);clear hK K
       try clear ad
       generalize wx.heap.size=kx at HT ⊢;generalize wx.alloc _=wx at *;have ad:=af;clear af
       try simp only [Act.put,setIfInBounds_toArray,set_cons_zero,set_cons_succ]
       exact tail kx ny wx ⟨HT.o,ad⟩
      .go_simp
       replace HT:=kp ((HT.o.swap.al zN).swap);refine hK.out _ _ (Hk.o _ HT.o.bJ) (fun af => ?_);clear hK K
       try clear ad
       generalize wx.heap.size=kx at HT ⊢;generalize wx.alloc _=wx at *;have ad:=af;clear af
       try simp only [Act.put,setIfInBounds_toArray,set_cons_zero,set_cons_succ]
       refine pk (hU (eh (i:=6) (fun K hK => ?_)))
       go_simp
       refine (HN.o _ HT.o.bJ).mono ?_;rintro e wx ⟨ny,rfl,k1,k2,⟨k3,k4⟩,k5⟩;replace HT:=kp ((HT.o.swap.get k1 k2 k3 k4 k5).swap);refine hK.out _ _ (Hk.o _ HT.o.bJ) (fun af => ?_);clear hK K k1 k2 k3 k4 k5
       try clear ad
       have ad:=af;clear af
       try simp only [Act.put,setIfInBounds_toArray,set_cons_zero,set_cons_succ]
       refine mX 7 8 9 ad ?_;exact tail kx ny wx ⟨HT.o,ad⟩
     case tail =>
      rintro kx ny wx ⟨HT,ad⟩;replace HT:=kp HT;refine pk (hU (eh (i:=11) (fun K hK => ?_)));obtain ⟨_,fD⟩:=aa.cw (HT.o.hs _ _ rfl).2;obtain ⟨wf,sq⟩:∃z,aK wx kx 0 (dJ ny)=z:=⟨_,rfl⟩
      replace HT:=kp ((HT.o.swap.st rfl).swap);rw [sq] at HT;obtain ⟨d1,A1,l1,c1,⟨k1,h1,⟨a1,b1,e1,i1,j1,o1,r1,s1,t1,u1⟩⟩⟩:=ny;simp only [dJ,aK,Nat.zero_add,Nat.reduceAdd] at sq
      go_simp
      refine hK.out _ _ (Hk.o _ HT.o.bJ) (fun af => ?_);clear hK K ad sq fD;have ad:=af;clear af
      try simp only [Act.put,setIfInBounds_toArray,set_cons_zero,set_cons_succ]
      refine tk 12 ad ?_;refine dY (by kernel_rfl) ?_ _
      try clear ad
      refine NoPanic.normal ?_;go_wp2_with fail
      go_meet
      exact ⟨_,_,rfl,HT.o⟩
    case rest =>
     obtain ⟨k7,ny,rfl,vw⟩:=hcut;obtain ⟨fh,tf,AH,Er⟩:=vw.xs nx rfl;obtain ⟨AI,vX,Cd,Ef⟩:=vw.ys ny rfl;obtain ⟨g5,b5⟩:=vw.gs _ _ rfl;obtain ⟨g7,b7⟩:=vw.hs _ _ rfl;have a4e:=kp vw.bJ;have VI:=kp (oI.o.below vw.bJ);have qY:=kp (BC.o.trans (bK.below vw.bJ));have gH:=hc.ok.small n (mem_of_getElem? hi);have qi:=oI.o.met.lt;have wz:=vw.bJ.size;obtain ⟨eD,eL,eA,eN⟩:=RM (fh.trans AI.symm);have Db:nx.aj=n.aj:=by rw [<-fh];rfl
     have rX:∀z:Nd,az z=n->z.ls.flatMap Ll.cs++[z.all]=di n:=fun z hz=>by rw [<-hz];unfold di az;simp [flatMap_def]
     have um:∀z:Nd,az z=n->z.ls.length<=4/\∀l∈z.ls,l.cs.length<=1000:=fun z hz=>by
      have h:=gH;rw [<-hz] at h;unfold az at h;exact ⟨by simpa using h.1,fun l hl=>h.2 _ (mem_map_of_mem hl)⟩
     have dr:=um nx fh;have xo:=um ny AI;have iS:(di n).length<=1000000:=by
      rw [<-rX nx fh,aS];have h1:∀ (ls:List Ll),(∀l∈ls,l.cs.length<=1000)->(ls.flatMap Ll.cs).length<=ls.length*1000:=fun ls=>by
       induction ls with
       | nil=>intro _;simp
       | cons a ls ih =>
        intro h;have h2:=ih (fun l hl=>h l (mem_cons_of_mem _ hl));have h3:=h a mem_cons_self;rw [flatMap_cons,aS,length_cons];omega
      have:=h1 nx.ls dr.2;have:=dr.1;rw [length_singleton];omega
     have Hk:=kp (show ∀w',Below wc.heap.size wc w'->w'.cell? ⟨c.gm,0,none⟩=some (.pointer (some ⟨c.ga,0,none⟩))/\(jU w' k5 nx)/\(jU w' k7 ny) from fun w' hb=>⟨(VI.o.below hb).box.cell 0,(aa.cw (b5.under hb)).1,(aa.cw (b7.under hb)).1⟩);have Hkt:=kp (show ∀w' L',c.Dy w' L'->aa w' k5 100 (bG nx)->aa w' k7 100 (bG ny)->w'.cell? ⟨c.gm,0,none⟩=some (.pointer (some ⟨c.ga,0,none⟩))/\(jU w' k5 nx)/\(jU w' k7 ny) from fun w' L' hd h5 h7=>⟨hd.box.cell 0,(aa.cw h5).1,(aa.cw h7).1⟩);obtain ⟨xD,yD⟩:=(Hk.o wc (aq _ _)).2;have q0:((nx.aj:Int) != (ny.aj:Int))=false:=by rw [eD];simp
     have q1:((nx.ls.length:Int) != (ny.ls.length:Int))=false:=by rw [eN];simp
     have Ea:=kp (show ∀w',Below wc.heap.size wc w'->Calls Tryz.prog 33 #[.pointer (some ⟨c.ga,0,none⟩)] w' _ from fun w' hb=>(hc.N1.below (VI.o.below hb).base).shape hc.ok)
     have HLs:=kp (show ∀ (A:OA) (cc:Nat) (ys:List Fa) w',ys.map Fa.keys=c.X->Calls Tryz.prog 80 #[.agg #[.slice A ys.length cc,.int .i64 c.m],.int .i64 nx.aj] w' (fun e NF=>e = .returned (.bool (decide (n.aj+1=c.X.length)))/\Below w'.heap.size w' NF) from fun A cc ys w' hy=>by
      have hl:ys.length=c.X.length:=by rw [<-hy,lM]
      have h1:=hc.ok.n1;have JB:=hc.ok.n16;have h3:=hc.ok.yN.aj n (mem_of_getElem? hi);have:=AR A ys.length cc c.m nx.aj w' (by omega) (by omega) (by rw [Db];omega);rw [hl,Db] at this;rw [hl,Db]
      exact this)
     have HEx:=kp (show ∀w',Below wc.heap.size wc w'->Calls Tryz.prog 81 #[.agg (bG nx)] w' (xG (di n) w') from fun w' hb=>by have:=J3 nx w' ((tf.below hb).more hb.size) dr.1 dr.2;rw [rX nx fh] at this;exact this);have HEy:=kp (show ∀w',Below wc.heap.size wc w'->Calls Tryz.prog 81 #[.agg (bG ny)] w' (xG (di n) w') from fun w' hb=>by have:=J3 ny w' ((vX.below hb).more hb.size) xo.1 xo.2;rw [rX ny AI] at this;exact this);have Hn:=kp hn
     have HLl:=kp (show ∀w',bK (fun k=>k=c.gp) wc w'->Calls Tryz.prog 91 #[.slice nx.A nx.ls.length nx.c,.slice ny.A ny.ls.length ny.c,.func (.func 93) #[] #[]] w' (iC w') from fun w' ht=>by
      have av:∀ (z:Nd),kb wB.heap.size z->∀k,pQ z k->k≠c.gp:=fun z hz k hk e=>by have:=hz.Mx hk;omega
      have da:∀ (z:Nd),dp wc wc.heap.size z->kb wB.heap.size z->dp w' w'.heap.size z:=fun z h1 h2=>dp.more ⟨pL h1.row fun k hk=>ht.block k (Row.cW h1.row hk) (av z h2 k (.inl hk)),fun l hl=>pL (h1.each l hl) fun k hk=>ht.block k (Row.cW (h1.each l hl) hk) (av z h2 k (.inr ⟨l,hl,hk⟩))⟩ ht.size
      exact XM _ a6b (fun A B ca cb l w h1 _ _=>abN A B ca cb l w) (da nx tf AH) (da ny vX Cd) (fh.trans AI.symm) (by have:=dr.1;omega) (fun l hl=>by have:=dr.2 l hl;omega))
     have ti:=kp iS;have bZ:=kp b5;have fE:=kp b7;have Hg:=kp (show wB.heap.size<=k5/\wB.heap.size<=k7/\c.gp<wB.heap.size from ⟨g5,g7,qi⟩);clear Il yi Ey Ev Ew vw fh tf AH Er AI vX Cd Ef b5 b7 g5 g7 hn gH qi wz eD eL eA eN Db rX um dr xo iS Lu hi;go_upto_region 8 with fail
     clear xD yD q0 q1;refine wp_region_noPanic ?_;refine dt (t:=99) (S:=(fun w'=>w'.cell? ⟨c.gm,0,none⟩=some (.pointer (some ⟨c.ga,0,none⟩))/\(jU w' k5 nx)/\(jU w' k7 ny))) (by kernel_rfl) (Hk.o _ (aq _ _).drew) (fun ad => ?_);have ai:=kp ((aq wc.heap.size wc).drew);generalize wc.drew=wx at *;refine tD 0 1 2 3 ad ?_;refine tD 4 6 7 9 ad ?_;refine tk 11 ad ?_;refine oT 5 fun K hK=>?_
     go_simp
     refine (Ea.o _ ai.o).mono ?_;rintro e w4 ⟨A4,c4,ys,rfl,_,Cg,cq⟩;have kr:=aR ai cq;have sr:=kp (HLs.o A4 c4 ys w4 Cg);clear Cg cq;refine oK hK ?_ fun af=>?_
     .exact Hk.o _ kr.o
     replace ad:=af;clear hK K af;refine oT 8 fun K hK=>?_
     go_simp
     refine sr.o.mono ?_;rintro e w5 ⟨rfl,cV⟩;have qZ:=aR kr cV;clear cV sr;refine oK hK ?_ fun af=>?_
     .exact Hk.o _ qZ.o
     replace ad:=af;clear hK K af;refine oT 10 fun K hK=>?_
     go_simp
     refine (HEx.o _ qZ.o).mono ?_;rintro e w6 ⟨v6,rfl,VJ,eR⟩;obtain ⟨A6,c6,rfl⟩:=eM VJ;have Pa:=aR qZ eR;have VK:=kp VJ;clear eR VJ;refine oK hK ?_ fun af=>?_
     .exact Hk.o _ Pa.o
     replace ad:=af;clear hK K af;refine oT 12 fun K hK=>?_
     go_simp
     refine (HEy.o _ Pa.o).mono ?_;rintro e w7 ⟨v7,rfl,VL,jS⟩;obtain ⟨A7,c7,rfl⟩:=eM VL;have VM:=aR Pa jS;have VN:=kp VL;have ae5:=kp ((gV VK.o).below jS |>.more jS.size);clear jS VL;refine oK hK ?_ fun af=>?_
     .exact Hk.o _ VM.o
     replace ad:=af;clear hK K af;have Hz:=kp (show wB.heap.size<=w5.heap.size/\wB.heap.size<=w6.heap.size from ⟨aT a4e.o.size qZ.o.size,aT a4e.o.size Pa.o.size⟩);have zx:=kp (a5o hc (VI.o.below VM.o) (decide (n.aj+1=c.X.length)) (di n) A6 A7 c6 c7 ti.o ae5.o (gV VN.o) (fun k hk e=>by have:=(VK.o.lt k (AM VK.o hk)).1;have:=Hg.o;have:=Hz.o;omega) (fun k hk e=>by have:=(VN.o.lt k (AM VN.o hk)).1;have:=Hg.o;have:=Hz.o;omega) (fun e=>Hn.o (of_decide_eq_false e)));refine oT 13 fun K hK=>?_
     go_simp
     refine zx.o.mono ?_;rintro e w8 ⟨rfl,L8,hd8,ht8⟩;have Hd8:=kp hd8;have Pb:=kp ((bK.below VM.o).trans ht8);clear hd8 ht8 zx;refine oK hK ?_ fun af=>?_
     .exact Hkt.o _ L8 Hd8.o ((Pb.o.block _ bZ.o.lt (by have:=Hg.o;omega)).trans bZ.o) ((Pb.o.block _ fE.o.lt (by have:=Hg.o;omega)).trans fE.o)
     replace ad:=af;clear hK K af;refine tD 14 15 16 17 ad ?_;refine tk 18 ad ?_;refine oT 19 fun K hK=>?_
     go_simp
     refine (HLl.o _ Pb.o).mono ?_;rintro e w9 ⟨rfl,ss⟩;have Hd9:=kp (Hd8.o.below ss);have VO:=kp (Pb.o.trans (bK.below ss));clear ss;refine oK hK ?_ fun af=>?_
     .exact Hkt.o _ L8 Hd9.o ((VO.o.block _ bZ.o.lt (by have:=Hg.o;omega)).trans bZ.o) ((VO.o.block _ fE.o.lt (by have:=Hg.o;omega)).trans fE.o)
     replace ad:=af;clear hK K af;refine tB 20 21 ad ?_;refine dY (by kernel_rfl) ?_ _
     try clear ad
     refine NoPanic.normal ?_;have Hf:=kp (HQ.o _ _ ⟨rfl,L8,Hd9.o,qY.o.trans VO.o⟩);go_wp2_with fail;exact Hf.o
theorem Zb {c:Tw} (hc:c.Ok):∀ (d i:Nat) (n:aI),c.ns[i]? = some n->n.aj+d+1=c.X.length->Fz c i
 | 0,i,n,hi,hd=>a14 hc hi (fun h=>absurd hd (by omega))
 | d+1,i,n,hi,hd=>a14 hc hi (fun h x hx=>by
  rcases hc.lead i n hi with h1 | h1
  .omega
  .obtain ⟨n',h2,h3⟩:=h1 x hx
   exact Zb hc d x.child n' h2 (by omega))
def YX (nd:Nat) (ns:List aI):Prop:=∀ (i:Nat) (n:aI),ns[i]? = some n->n.aj+1=nd\/∀x∈di n,∃n':aI,ns[x.child]? = some n'/\n'.aj=n.aj+1
theorem tI.leads {X:List LN} {m most:Nat} {ns:List aI} (h:tI X m most ns):YX X.length ns:=fun i n hi=>by
 obtain ⟨x,_,_,_,h4⟩:=h.each i n hi;rcases h4 with h4 | h4
 .exact .inl h4
 .exact .inr fun c hc=>(h4 c hc).2
theorem a8A {X:List LN} {m ga gb:Nat} {ns:List aI} {w:World} (ha:ft w ga X m ns) (hb:ft w gb X m ns) (ho:jJ X m ns) (hl:YX X.length ns) :
 Calls Tryz.prog 12 #[.pointer (some ⟨ga,0,none⟩),.pointer (some ⟨gb,0,none⟩)] w (iC w):=by
 have HA:=kp (fun w' (h:Below w.heap.size w w')=>(ha.below h).shape ho);have HB:=kp (fun w' (h:Below w.heap.size w w')=>(hb.below h).shape ho);have Vs:=kp (fun w' (h:Below w.heap.size w w')=>(ha.below h).whole ho);have Es:=kp (fun w' (h:Below w.heap.size w w')=>(hb.below h).whole ho);have sr:=kp (fun w' (h:Below w.heap.size w w')=>(ha.below h).len ho);have VP:=kp (fun w' (h:Below w.heap.size w w')=>(hb.below h).len ho);have Cp:=kp (fun w' (h:Below w.heap.size w w')=>(ha.below h).top ho);have Lh:=kp (fun w' (h:Below w.heap.size w w')=>(hb.below h).top ho);have rQ:=@run_makeMap Tryz.prog;have Ha:=kp ha;have Hb:=kp hb;have Ho:=kp ho;have Hl:=kp hl;generalize hQ:iC w=Q;have HQ:=kp (show ∀w',Below w.heap.size w w'->Q (.returned (.bool true)) w' from fun w' h=>by rw [<-hQ];exact ⟨rfl,h⟩);clear hQ ha hb ho hl;obtain ⟨n,hn⟩:∃n,ns.length=n:=⟨_,rfl⟩
 rw [hn] at sr VP Cp Lh;have Hn:=kp hn;clear hn;have q0:((n:Int) == (n:Int))=true:=by simp
 go_enter Tryz.func12,Tryz.ntmps12;go_wp2_with fail;refine (Vs.o w (aq _ _)).mono ?_;rintro e w1 ⟨rfl,b1⟩;have B1:=kp b1;clear b1;go_wp2_with fail;refine (Es.o w1 B1.o).mono ?_;rintro e w2 ⟨rfl,b2⟩;have B2:=aR B1 b2;clear b2 B1;go_wp2_with fail;refine (HA.o w2 B2.o).mono ?_;rintro e w3 ⟨A1,c1,y1,rfl,i1,k1,b1⟩;have I1:=kp i1;have K1:=kp k1;have B3:=aR B2 b1;clear i1 k1 b1 B2;go_wp2_with fail;refine (HB.o w3 B3.o).mono ?_;rintro e w4 ⟨A2,c2,y2,rfl,i2,k2,b2⟩;have B4:=aR B3 b2;have HS:=kp (Rg (A:=A1) (B:=A2) (m:=m) (ca:=c1) (cb:=c2) (xs:=y1) (ys:=y2) (w:=w4) ((I1.o.below b2).more b2.size) i2 (K1.o.trans k2.symm) (by have:=Ho.o.n16;have h:=congrArg length K1.o;rw [lM] at h;omega) (fun x hx=>by have:=Ho.o.short x.keys (by rw [<-K1.o];exact mem_map_of_mem hx);omega));clear i2 k2 b2 I1 K1 B3;go_wp2_with fail;refine HS.o.mono ?_;rintro e w5 ⟨rfl,b5⟩;have B5:=aR B4 b5;clear b5 HS B4;go_wp2_with fail;refine (sr.o w5 B5.o).mono ?_;rintro e w6 ⟨rfl,he⟩;have he:=he.symm;subst he;by_cases hz:n=0
 .subst hz;have oY:((0:Int) == 0)=true:=by simp
  go_wp2_with fail;refine (sr.o _ B5.o).mono ?_;rintro e w6 ⟨rfl,he⟩;have he:=he.symm;subst he;go_wp2_with fail;refine (VP.o _ B5.o).mono ?_;rintro e w6 ⟨rfl,he⟩;have he:=he.symm;subst he;have Hf:=kp (HQ.o _ B5.o);go_wp2_with fail;exact Hf.o
 .have oY:((n:Int) == 0)=false:=by rw [beq_eq_false_iff_ne];omega
  go_wp2_with fail;refine (VP.o _ B5.o).mono ?_;rintro e w6 ⟨rfl,he⟩;have he:=he.symm;subst he;obtain ⟨t,ht⟩:∃t:Nat,t+1=n:=⟨n-1,by omega⟩
  have Ht:=kp ht;have Pc:(n:Int)-1=(t:Nat):=by omega
  rw [Pc] at Cp Lh;clear Pc;have eR:=((aq w5.heap.size w5).alloc (ah _) (.map #[] 0)).alloc (by simp) (.cells #[.pointer (some ⟨ga,0,none⟩),.pointer (some ⟨gb,0,none⟩),.map (some w5.heap.size)] 106);have qV:tH ((w5.alloc (.map #[] 0)).alloc (.cells #[.pointer (some ⟨ga,0,none⟩),.pointer (some ⟨gb,0,none⟩),.map (some w5.heap.size)] 106)) w5.heap.size []:=⟨_,(World.ownsMap_made w5 Tryz.prog 109 (plainElem (H:=Unit) Tryz.prog 3)).alloc _,yG.nil _⟩
  have aJ:aa ((w5.alloc (.map #[] 0)).alloc (.cells #[.pointer (some ⟨ga,0,none⟩),.pointer (some ⟨gb,0,none⟩),.map (some w5.heap.size)] 106)) (w5.heap.size+1) 106 #[.pointer (some ⟨ga,0,none⟩),.pointer (some ⟨gb,0,none⟩),.map (some w5.heap.size)]:=aa.lay (by simp);obtain ⟨W6,lL⟩:∃z,(w5.alloc (.map #[] 0)).alloc (.cells #[.pointer (some ⟨ga,0,none⟩),.pointer (some ⟨gb,0,none⟩),.map (some w5.heap.size)] 106)=z:=⟨_,rfl⟩
  rw [lL] at eR qV aJ;obtain ⟨c,hc⟩:∃c:Tw,c=⟨w5,X,m,ns,ga,gb,w5.heap.size+1,w5.heap.size⟩:=⟨_,rfl⟩
  have a4f:c.Ok:=by
   subst hc;exact ⟨Ho.o,Ha.o.below B5.o,Hb.o.below B5.o,by show w5.heap.size<=w5.heap.size+1;omega,ah _,by show w5.heap.size+1≠w5.heap.size;omega,Hl.o⟩
  have Ck:c.Dy W6 []:=by
   subst hc;exact ⟨eR,aJ,qV,nodup_nil,fun i h=>by cases h⟩
  obtain ⟨nt,wo⟩:∃nt,ns[t]? = some nt:=⟨_,gE (by have:=Hn.o;omega)⟩
  have hd0:nt.aj=0:=Ho.o.yN.top nt (by rw [Hn.o,<-ht,Nat.add_sub_cancel];exact wo)
  have HC:=kp (show Calls Tryz.prog 43 #[.pointer (some ⟨w5.heap.size+1,0,none⟩),.agg #[.int .i64 (t:Nat),.int .i64 (t:Nat)]] W6 (rM c W6) by
   have h1:=Ho.o.n1;have:=Zb a4f (X.length-1) t nt (by subst hc;exact wo) (by subst hc;rw [hd0];show 0+(X.length-1)+1=X.length;omega) W6 [] Ck;subst hc
   exact this)
  have HR:=kp (show ∀e w',rM c W6 e w'->e = .returned (.bool true)/\Below w.heap.size w w' from fun e w' h=>by
   obtain ⟨h1,L,h2,_⟩:=h;refine ⟨h1,?_⟩;have:=h2.base;subst hc
   exact B5.o.trans (this.mono B5.o.size))
  have B6:=aR B5 eR;clear hc a4f Ck wo hd0 eR qV aJ;generalize rM c W6=R at *;go_wp2_with fail;refine (Cp.o _ B6.o).mono ?_;rintro e w6 ⟨rfl,he⟩;have he:=he.symm;subst he;go_wp2_with fail;refine (Lh.o _ B6.o).mono ?_;rintro e w6 ⟨rfl,he⟩;have he:=he.symm;subst he;go_wp2_with fail;refine HC.o.mono ?_;intro e w7 h7;obtain ⟨rfl,b7⟩:=HR.o e w7 h7;have Hf:=kp (HQ.o _ b7);clear b7 h7 HC HR;go_wp2_with fail;exact Hf.o
end Go.Proofs.YtjopcamkclndlaaGreat.Tc
namespace Go.Proofs.YtjopcamkclndlaaGreat.Tc
open List Go.RowKit Base
section
variable {ps:List (LN×Ag)} {f f':Option Rec} {k a:Nat}
def N3 (ps:List (LN×Ag)) (f f':Option Rec) (k:Nat):Prop:=∀key part st r,il ps f key part st=some r->r.1.nodes.length<=k->il ps f' key part st=some r/\st.nodes.length<=r.1.nodes.length
theorem a1i (H:N3 ps f f' k):∀ (gs:List (Nat×LN)) (s r:St×List Cl),iA ps f gs s=some r->r.1.nodes.length<=k->iA ps f' gs s=some r/\s.1.nodes.length<=r.1.nodes.length
 | [],s,r,h,hk=>by injection h with h;subst h;exact ⟨rfl,ah _⟩
 | g::gs,s,r,h,hk=>by
  unfold iA at h ⊢;obtain ⟨q,hq,h⟩:=Option.bind_eq_some_iff.1 h;obtain ⟨h1,h2⟩:=a1i H gs _ _ h hk;obtain ⟨h3,h4⟩:=H _ _ _ _ hq (aT h2 hk);exact ⟨by rw [h3];exact h1,aT h4 h2⟩
theorem a0A (H:N3 ps f f' k) {part:LN}:∀ (ls:List LN) (s r:St×List (List Cl)),iP ps f a part ls s=some r->r.1.nodes.length<=k->iP ps f' a part ls s=some r/\s.1.nodes.length<=r.1.nodes.length
 | [],s,r,h,hk=>by injection h with h;subst h;exact ⟨rfl,ah _⟩
 | l::ls,s,r,h,hk=>by
  unfold iP at h ⊢;obtain ⟨q,hq,h⟩:=Option.bind_eq_some_iff.1 h;obtain ⟨h1,h2⟩:=a0A H ls _ _ h hk;obtain ⟨h3,h4⟩:=a1i H _ _ _ hq (aT h2 hk);exact ⟨by rw [h3];exact h1,aT h4 h2⟩
theorem Y5 (H:N3 ps f f' k) {lifts:List (List LN)} {most:Nat} (part:LN) (st:St) (r:St×Nat) (h:fR ps lifts most f a part st=some r) (hk:r.1.nodes.length<=k):fR ps lifts k f' a part st=some r/\st.nodes.length<=r.1.nodes.length:=by
 unfold fR at h ⊢;split at h
 .injection h with h
  subst h;exact ⟨rfl,ah _⟩
 .obtain ⟨q,hq,h⟩:=Option.bind_eq_some_iff.1 h;obtain ⟨x,hx,h⟩:=Option.bind_eq_some_iff.1 h;split at h
  .injection h with h
   subst h;dsimp only at hk;rw [aS] at hk;have jF:x.1.nodes.length<k:=Nat.lt_of_succ_le (by simpa using hk);obtain ⟨h1,h2⟩:=H _ _ _ _ hx (by omega);obtain ⟨h3,h4⟩:=a0A H _ _ _ hq (by omega);refine ⟨?_,by dsimp only at h2 h4 ⊢;rw [aS];omega⟩;rw [h3];show (il ps f' 0 part q.1).bind _=_;rw [h1];show (if x.1.nodes.length<k then _ else _)=_;rw [if_pos jF]
  .cases h
end
theorem abQ {ps:List (LN×Ag)} {k:Nat}:N3 ps none none k:=fun key part st r h _=>by
 refine ⟨h,?_⟩;injection h with h
 subst h;exact ah _
theorem ZC {ps:List (LN×Ag)} {lifts:List (List LN)} {most k nd:Nat}:∀ (d:Nat) (part:LN) (st:St) (r:St×Nat),visit ps lifts most nd d part st=some r->r.1.nodes.length<=k->visit ps lifts k nd d part st=some r/\st.nodes.length<=r.1.nodes.length
 | 0,part,st,r,h,hk=>Y5 abQ part st r h hk
 | d+1,part,st,r,h,hk=>Y5 (f:=some (visit ps lifts most nd d)) (f':=some (visit ps lifts k nd d)) (fun key part st r h hk=>by
  obtain ⟨q,hq,e⟩:=Option.map_eq_some_iff.1 h;subst e;obtain ⟨h1,h2⟩:=ZC d part st q hq hk
  exact ⟨by show (visit ps lifts k nd d part st).map _=_;rw [h1];rfl,h2⟩) part st r h hk
theorem aac {s:aW} {fs:List Fa} {most:Nat} {ns:List aI} (h:dQ s fs most=some ns):dQ s fs ns.length=some ns:=by
 unfold dQ at h ⊢;by_cases he:fs=[]
 .rw [if_pos he] at h ⊢;exact h
 .rw [if_neg he] at h ⊢;obtain ⟨r,hr,rfl⟩:=Option.map_eq_some_iff.1 h;rw [(ZC _ _ _ _ hr (ah _)).1];rfl
theorem a7x {s:aW} {fs l:List Fa} (h:gK s fs) (e:aG l=aG fs):gK s l:=by
 have hl:l.length=fs.length:=by have:=congrArg length e;unfold aG at this;rwa [lM,lM] at this
 have hm:∀f∈l,∃f'∈fs,pl f=pl f':=fun f hf=>by
  have:pl f∈aG fs:=by rw [<-e];exact mem_map_of_mem hf
  obtain ⟨f',h1,h2⟩:=mem_map.1 this;exact ⟨f',h1,h2.symm⟩
 have hg:∀i (h1:i<l.length) (h2:i<fs.length),pl l[i]=pl fs[i]:=fun i h1 h2=>by
  have:=congrArg (fun x:List (LN×Ag)=>x[i]?) e;unfold aG at this;rw [getElem?_map,getElem?_map,gE h1,gE h2] at this;injection this
 refine ⟨by rw [hl];exact h.len,fun f hf => ?_,fun f hf => ?_,fun i hi => ?_⟩
 .obtain ⟨f',h1,h2⟩:=hm f hf;have e:f.keys=f'.keys:=congrArg Prod.fst h2;rw [e];exact h.keys f' h1
 .obtain ⟨f',h1,h2⟩:=hm f hf;have e:f.ag=f'.ag:=congrArg Prod.snd h2;rw [e];exact h.ag f' h1
 .have h1:=h.vN i (by rw [<-hl];exact hi);have e1:l[i].keys=fs[i].keys:=congrArg Prod.fst (hg i (by omega) (by omega));have e2:l[i+1].keys=fs[i+1].keys:=congrArg Prod.fst (hg (i+1) hi (by omega));rw [e1,e2];exact h1
theorem a7W {s:aW} {fs:List Fa} {ns:List aI} {ga:Nat} {w:World} (h:gW w w.heap.size s) (hs:dO s) (hf:gK s fs) (hc:dQ s fs 20000=some ns) (ha:ft w ga (s.ak.map dK) s.aU.length ns) (ho:jJ (s.ak.map dK) s.aU.length ns) :
 Calls Tryz.prog 13 #[.agg (cj s),.pointer (some ⟨ga,0,none⟩)] w (iC w):=by
 have au:=(aq w.heap.size w).alloc (ah _) (.cells (cj s) 25);have HB:=kp (aa.new w 25 (cj s));have Hh:=kp (show ∀w',Below w.heap.size w w'->gW w' w'.heap.size s from fun w' hb=>(h.below hb).more hb.size);have Ha:=kp ha;have Ho:=kp ho;have Hs:=kp hs;have Hf:=kp hf;have Hc:=kp hc;have ay:=kp au;have HSa:=kp (fun w' (h:Below w.heap.size w w')=>(ha.below h).shape ho);have sr:=kp (fun w' (h:Below w.heap.size w w')=>(ha.below h).len ho)
 have HFc:=kp (show ∀w',Below w.heap.size w w'->Calls Tryz.prog 45 #[.pointer (some ⟨ga,0,none⟩),.int .i64 4000] w' (ID (aG fs) w') from fun w' hb=>by
  obtain ⟨A,An,c,cn,most,ys,nds,h1,h2,h3,h4,h5⟩:=ha.below hb;have aX:=EW hc;have VQ:mP s fs ns most ga A An c cn ys nds w':=⟨hs,Ry hs hf hc,h1,h2,h3,h4,h5,aX⟩
  have:=VQ.facts (by have:=hf.len;omega);rw [a71 hs hf hc] at this
  exact this)
 generalize hQ:iC w=Q;have HQ:=kp (show ∀w',Below w.heap.size w w'->Q (.returned (.bool true)) w' from fun w' h=>by rw [<-hQ];exact ⟨rfl,h⟩);obtain ⟨nn,eE⟩:∃nn,ns.length=nn:=⟨_,rfl⟩
 rw [eE] at sr;have vq:=kp eE;clear hQ h ha ho hs hf hc au eE;generalize dk:w.alloc (.cells (cj s) 25)=W1 at *;obtain ⟨z0,z1,_,_⟩:=HB.o.two;go_enter Tryz.func13,Tryz.ntmps13;go_wp2_with fail;refine (Ql s W1 (Hh.o _ ay.o) Hs.o).mono ?_;rintro e w1 ⟨r1,rfl,eC,b1⟩;subst eC;have B1:=aR ay b1;have c0:=aL b1 z0;have c1:=aL b1 z1;have me:=bu HB b1;clear b1 z0 z1 HB ay dk;go_wp2_with fail;refine (ZM s w1 (Hh.o _ B1.o) Hs.o).mono ?_;rintro e w2 ⟨A2,c2,y2,rfl,i2,k2,b2⟩;have B2:=aR B1 b2;have I2:=kp i2.at_;have K2:=kp k2;have aV:=bu me b2;clear i2 k2 b2 c0 c1 B1 me;go_wp2_with fail;refine (HSa.o _ B2.o).mono ?_;rintro e w3 ⟨A3,c3,y3,rfl,i3,k3,b3⟩;have B3:=aR B2 b3;have bM:=bu aV b3;have HS:=kp (Rg (A:=A2) (B:=A3) (m:=s.aU.length) (ca:=c2) (cb:=c3) (xs:=y2) (ys:=y3) (w:=w3) ((I2.o.below b3).more b3.size) i3 (K2.o.trans k3.symm) (by have:=Ho.o.n16;have h:=congrArg length K2.o;rw [lM] at h;omega) (fun x hx=>by have:=Ho.o.short x.keys (by rw [<-K2.o];exact mem_map_of_mem hx);omega));clear i3 k3 b3 I2 K2 B2 aV;go_wp2_with fail;refine HS.o.mono ?_;rintro e w4 ⟨rfl,b4⟩;have B4:=aR B3 b4;have fN:=bu bM b4;clear b4 HS B3 bM;go_wp2_with fail;refine (HFc.o _ B4.o).mono ?_;rintro e w5 ⟨A5,c5,l,rfl,hl,ho5,hk5,b5⟩;have B5:=aR B4 b5;have eg:=bu fN b5;have Hl:=kp (show aG l=aG fs from hl);have Ho5:=kp ho5.uM;clear b5 hl ho5 hk5 B4 fN HFc;go_upto_region 6 with fail
 obtain ⟨z0,z1,_,_⟩:=eg.o.two;refine wp_region_noPanic ?_;refine dt (t:=99) (S:=(fun w'=>w'.cell? ⟨w.heap.size,0,none⟩=some (.slice s.A s.ak.length s.c)/\w'.cell? ⟨w.heap.size,1,none⟩=some (.slice s.Am s.aU.length s.cm))) (by kernel_rfl) ⟨z0,z1⟩ (fun ad => ?_);have qF:=kp ((aq w5.heap.size w5).drew);generalize w5.drew=wx at *;have xp:=kp (B5.o.trans (qF.o.mono B5.o.size));have GX:=kp (sr.o _ xp.o)
 have Ez:=kp (show Calls Tryz.prog 9 #[.agg (cj s),.int .i64 (nn:Nat),.slice A5 l.length c5] wx (fun e w'=>∃go:Nat,e = .returned (.tuple #[.pointer (some ⟨go,0,none⟩),.int .i64 0])/\ft w' go (s.ak.map dK) s.aU.length ns/\Below wx.heap.size wx w') from by
  have hn:=EW Hc.o;have oV:=a7x Hf.o Hl.o;refine (PN s nn A5 c5 l wx (Hh.o _ xp.o) ((Ho5.o.below qF.o).more qF.o.size) (II Hs.o oV (by have:=vq.o;omega))).mono fun e w' hr => ?_
  obtain ⟨go,A,An,c,cn,ys,nds,he,h1,h2,h3,h4,h5,h6,_⟩:=hr.1 ns (by rw [Qi Hl.o,<-vq.o];exact aac Hc.o)
  exact ⟨go,he,⟨A,An,c,cn,nn,ys,nds,h1,h2,h3,h4,h5⟩,h6⟩)
 refine mX 0 1 3 ad ?_;refine oT 2 fun K hK=>?_
 go_simp
 refine GX.o.mono ?_;rintro e w6 ⟨rfl,he⟩;have he:=he.symm;subst he;refine oK hK ?_ fun af=>?_
 .exact ad
 replace ad:=af;clear hK K af;refine oT 4 fun K hK=>?_
 go_simp
 refine Ez.o.mono ?_;rintro e w7 ⟨go,rfl,ha7,jS⟩;have Ha7:=kp ha7;have B7:=aR xp jS;have fE:=kp jS;clear ha7 jS;refine oK hK ?_ fun af=>?_
 .exact ⟨aL fE.o ad.1,aL fE.o ad.2⟩
 replace ad:=af;clear hK K af;refine tD 5 6 7 8 ad ?_;refine tk 9 ad ?_;refine dY (by kernel_rfl) ?_ _
 try clear ad
 refine NoPanic.normal ?_;have HE:=kp (Yo (Ha.o.below B7.o) Ha7.o Ho.o);clear z0 z1;go_wp2_with fail;refine HE.o.mono ?_;rintro e w8 ⟨rfl,b8⟩;have wK:=kp (HQ.o _ (B7.o.trans (b8.mono B7.o.size)));clear b8 HE;go_wp2_with fail;exact wK.o
end Go.Proofs.YtjopcamkclndlaaGreat.Tc
