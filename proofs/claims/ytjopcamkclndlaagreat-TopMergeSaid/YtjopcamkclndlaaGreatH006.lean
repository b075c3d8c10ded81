/- Parts of a proof. -/
import Derived.Test.YtjopcamkclndlaaGreatH005
import Derived.LoopN
set_option linter.unusedVariables false
set_option linter.unusedSimpArgs false
set_option maxRecDepth 100000
set_option maxHeartbeats 8000000
namespace Go.Proofs.YtjopcamkclndlaaGreat.Tc
open List Go.RowKit Base
section
attribute [local go_sem] Oper.semAt_some
def yO (rs:List Rn) (size i:Nat):List Rn:=(rs.drop (i*size)).take size
def a0z (rs:List Rn) (size n0 B D0:Nat) (w0:World) (pre:List (Part rs.length size)) (W:World):Prop :=
 (∃ (v:Value) (out:List Rn),Boxed W B 142 v/\W.ownsRow D0 30 1 v out.length (out.map kH)/\(∀r∈out,l9 W v r/\∀b,ir r.A r.fs b->D0<=b)/\(out.length=pre.length/\∀i (h:i<out.length),gU (out[i]'h).fs/\∀j,pre[i]?.map (·.1)=some j->(aG (out[i]'h).fs).Perm (fS (yO rs size j)))/\D0<=W.heap.size)/\Below n0 w0 W
theorem a5I (rs:List Rn) (size n0 B D0 D:Nat) (w0:World) (hn:n0<=w0.heap.size) (hD:n0<=D):OwnFrom D (a0z rs size n0 B D0 w0):=by
 refine OwnFrom.and (Own.from (fun pre W W' row hs hg hr => ?_) _) (ownFrom_below hn hD);obtain ⟨v,out,h1,h2,h3,h4,h5⟩:=hs;refine ⟨v,out,h1.kept hg (fun e' => ?_),h2.kept hg ?_,fun r jb=>⟨⟨?_,(h3 r jb).1.2⟩,(h3 r jb).2⟩,h4,aT h5 hg.size⟩
 .obtain ⟨o,ho,hc⟩:=hr B e'.symm;rw [show W.heap[B]? = _ from h1] at ho;cases ho;cases hc
 .rcases h2.2 with ⟨rfl,_⟩ | ⟨g,cap,cur,rfl,_,jB,_⟩
  .exact .inl rfl
  .refine .inr fun e' => ?_
   obtain ⟨o,ho,hc⟩:=hr g (by simpa [Value.ownBlock] using e'.symm);rw [jB] at ho;cases ho;cases hc
 .exact dG.more ⟨uY (h3 r jb).1.1.row hg hr,fun f hf=>uY ((h3 r jb).1.1.keys f hf) hg hr⟩ hg.size
theorem qO.sub {w:World} {B b off:Nat} {rs:List Rn} (h:qO w B (some ⟨b,off,none⟩) rs) (i e:Nat):qO w B (some ⟨b,off+i,none⟩) ((rs.drop i).take e):=by
 refine ⟨?_,fun r hr=>h.each r (mem_of_mem_drop (mem_of_mem_take hr))⟩;rcases h.row with h0 | ⟨b',jy,e',hb,hc⟩
 .have:rs=[]:=by simpa using h0
  subst this;exact .inl (by simp)
 .injection e' with e'
  injection e' with e1 e2 _
  subst e1 e2;refine .inr ⟨b,off+i,rfl,hb,fun j v hv => ?_⟩;rw [List.map_take,map_drop,getElem?_take] at hv;split at hv
  .rw [getElem?_drop] at hv;have:=hc (i+j) v hv;rw [show off+(i+j)=off+i+j by omega] at this;exact this
  .cases hv
theorem qO.below {w w':World} {B:Nat} {A:OA} {rs:List Rn} (h:qO w B A rs) (hb:Below B w w'):qO w' B A rs:=⟨h.row.below hb,fun r hr=>(h.each r hr).below hb⟩
theorem qO.more {w:World} {B B':Nat} {A:OA} {rs:List Rn} (h:qO w B A rs) (hB:B<=B'):qO w B' A rs:=⟨h.row.more hB,fun r hr=>(h.each r hr).more hB⟩
def sE (ps:List (LN×Ag)) (w:World) (e:Ending) (w':World):Prop:=∃ (v:Value) (n:Int) (l:List Fa),e = .returned (.tuple #[v,.int .i64 n,.int .i64 0])/\(l.map pl).Perm ps/\gU l/\cT w' w.heap.size v l/\jK w.heap.size l/\Below w.heap.size w w'
theorem sE.mk {ps:List (LN×Ag)} {w:World} {v:Value} {n:Int} {l':List Fa} {w':World} (h1:(l'.map pl).Perm ps) (h2:gU l') (h3:cT w' w.heap.size v l') (h4:jK w.heap.size l') (hb:Below w.heap.size w w'):sE ps w (.returned (.tuple #[v,.int .i64 n,.int .i64 0])) w':=⟨v,n,l',rfl,h1,h2,h3,h4,hb⟩
theorem a7u (A:OA) (rs:List Rn) (c fV:Nat) (w:World) (hf:2<=fV) (yh:fV<=1000000) (h1:rs.length<=1) (hr:qO w w.heap.size A rs) (ho:∀r∈rs,J4 r) :
 Calls Tryz.prog 63 #[.int .i64 fV,.slice A rs.length c] w (sE (fS rs) w):=by
 have HC:=kp EJ;have SP:¬ ((fV:Nat):Int)<2:=by omega
 have aci:decide ((fV:Int)<2)=false:=decide_eq_false SP;rcases rs with _ | ⟨r,_ | ⟨r',rs⟩⟩
 .have Hf:=kp (show ∀n:Int,sE (fS []) w (.returned (.tuple #[.slice none 0 0,.int .i64 n,.int .i64 0])) w from fun n=>sE.mk (by simp [fS]) List.Pairwise.nil ⟨gL _ _ _ _,fun f hf=>by cases hf⟩ (fun f hf=>by cases hf) (aq _ _));generalize hQ:sE (fS []) w=Q at *;clear hQ hr ho h1;rw [show ([]:List Rn).length=0 from rfl];go_enter Tryz.func63,Tryz.ntmps63;go_wp2_with fail;refine wp_loop_rounds 1 ?_;rw [rounds_succ];go_wp2_with fail;refine bodyPost_ret (v := .tuple #[.slice none 0 0,.int .i64 0,.int .i64 0]) (by simp [results,Tryz.results63,go_sem]) rfl (Hf.o 0)
 .have a1P:=hr.row;have Bu:=hr.each r (by simp);have db:=ho r (by simp);obtain ⟨b,off,hA,hb,c0⟩:=Row.at_ a1P (k:=0) (by simp);have c1:w.cell? ⟨b,off,none⟩=some (.slice r.A r.fs.length r.c):=c0;subst hA;have ee:=kp (HC.o r.A r.fs r.c w (aT db.len (by omega)) db.keys Bu);have Hf:=kp (show ∀ (n:Int) v l' w',l'.map pl=r.fs.map pl->cT w' w.heap.size v l'->jK w.heap.size l'->Below w.heap.size w w'->sE (fS [r]) w (.returned (.tuple #[v,.int .i64 n,.int .i64 0])) w' from fun n v l' w' h1 h2 h3 h4=>sE.mk (by rw [h1];simp [fS,aG]) (RC h1 db.sorted) h2 h3 h4);generalize hQ:sE (fS [r]) w=Q at *;clear hQ hr ho h1 c0 a1P Bu db hb;rw [show [r].length=1 from rfl];go_enter Tryz.func63,Tryz.ntmps63;go_wp2_with fail;refine wp_loop_rounds 1 ?_;rw [rounds_succ];go_wp2_with fail;refine ee.o.mono ?_;rintro e w1 ⟨v,l',rfl,h1,h2,h3,h4⟩;have wK:=kp (fun n=>Hf.o n v l' w1 h1 h2 h3 h4);clear h1 h2 h3 h4 c1;go_wp2_with fail;refine bodyPost_ret (v := .tuple #[v,.int .i64 0,.int .i64 0]) (by simp [results,Tryz.results63,go_sem]) rfl (wK.o 0)
 .simp at h1
theorem a9H (A:OA) (rs:List Rn) (c fV:Nat) (w:World) (hf:2<=fV) (yh:fV<=1000000) (h2:rs.length=2) (pd:rs.length<=c) (fj:c<=9223372036854775807) (hr:qO w w.heap.size A rs) (ho:∀r∈rs,J4 r) :
 Calls Tryz.prog 63 #[.int .i64 fV,.slice A rs.length c] w (sE (fS rs) w):=by
 have HC:=kp EJ;have HMg:=kp aaw;have JM:=kp a7l;have Hr:=kp hr;have Ho:=kp ho;obtain ⟨i0,cG,cI,cH,cJ⟩:=info_parts a0G;have SP:¬ ((fV:Nat):Int)<2:=by omega
 have aci:decide ((fV:Int)<2)=false:=decide_eq_false SP;obtain ⟨b,off,hA⟩:∃b off,A=some ⟨b,off,none⟩:=by
  obtain ⟨b,off,hA,_⟩:=Row.at_ hr.row (k:=0) (by rw [lM];omega);exact ⟨b,off,hA⟩
 subst hA;have oC:fV≥2:=hf;have lz:=kp (a03 (by omega) (fun r hr=>(ho r hr).len));clear hr ho;have HQ:=kp (show ∀v (n:Int) l' w',(l'.map pl).Perm (fS rs)->gU l'->cT w' w.heap.size v l'->jK w.heap.size l'->Below w.heap.size w w'->sE (fS rs) w (.returned (.tuple #[v,.int .i64 n,.int .i64 0])) w' from fun v n l' w' h1 h2 h3 h4 hb=>sE.mk h1 h2 h3 h4 hb);generalize hQ:sE (fS rs) w=Q at *;clear hQ;obtain ⟨m,hm⟩:∃m,rs.length=m:=⟨_,rfl⟩
 have Hm:=kp hm;have pg:=kp h2;have dg:1<m:=by omega
 have NP:m<=2:=by omega
 rw [hm] at pd ⊢;clear h2 hm;refine (callsIn_wide (n:=9)).1 ?_;refine callsIn_of_wp_marks Tryz.func63 rfl trivial ?_ rfl;simp only [Tryz.ntmps63,size_toArray,length_cons,length_nil,Nat.reduceAdd,Nat.reduceSub,Array.replicate_succ,Array.replicate_zero,push_toArray,append_toArray,nil_append,cons_append]
 gi_wp2
 refine wpIn_loop_rounds 2 ?_;rw [roundsIn_succ]
 gi_wp2_with (refine ⟨trivial,?_⟩;gi_at_call 108;refine (callsIn_wide.2 (JM.o (some ⟨b,off,none⟩) m c fV (by omega) _)).mono ?_;rintro e w' ⟨rfl,rfl⟩)
 obtain ⟨W0,dj⟩:∃W0,((w.alloc (.cells #[.slice none 0 0] 142)).alloc (.cells #[.slice (some ⟨b,off,none⟩) m c] 142)).alloc (.cells #[.int .i64 fV] 3)=W0:=⟨_,rfl⟩
 have mY:W0.heap.size=w.heap.size+3:=by rw [<-dj];simp
 have JN:Below w.heap.size w W0:=by rw [<-dj];exact (((aq _ w).alloc (ah _) _).alloc (by simp) _).alloc (by simp;omega) _
 have ye:Boxed W0 w.heap.size 142 (.slice none 0 0):=by rw [<-dj];exact ((Boxed.new w _ _).alloc _).alloc _
 have lD:aa W0 (w.heap.size+1) 142 #[.slice (some ⟨b,off,none⟩) m c]:=by
  rw [<-dj];exact aa.alloc (aa.lay (w:=w.alloc (.cells #[.slice none 0 0] 142)) (by simp)) _
 have qW:aa W0 (w.heap.size+1+1) 3 #[.int .i64 fV]:=by
  rw [<-dj];exact aa.lay (w:=(w.alloc (.cells #[.slice none 0 0] 142)).alloc (.cells #[.slice (some ⟨b,off,none⟩) m c] 142)) (by simp)
 rw [dj];clear dj;have acj:=ab6 8 (by omega) (w.heap.size+1) (w.heap.size+1+1) b off rs.length c fV (by omega) yh (by have:=Hm.o;omega) (by have:=Hm.o;omega) fj W0 (by omega) (by omega) (some ⟨b,off,none⟩) (.inr rfl) (by rw [Hm.o];exact lD.one.1) qW.one.1;refine wpIn_rangeFunc_ownF rfl (by omega) (gf:=143) (lb:=#[.pointer (some ⟨w.heap.size+1,0,none⟩),.pointer (some ⟨w.heap.size+1+1,0,none⟩)]) rfl trivial (enters_of Tryz.func143 (by kernel_rfl) rfl)
  acj (fun h k=>h.trans k) (Qp (by omega) (by omega)) (aq _ _) (fun _=>rfl)
  (a0z rs fV w.heap.size w.heap.size (w.heap.size+3) w) (fun _ _ _=>False) (a5I rs fV w.heap.size w.heap.size (w.heap.size+3) _ w (ah _) (by omega)) (fun _ _ _ _ _ hs _ _=>hs)
  ⟨⟨.slice none 0 0,[],ye,gL _ _ _ _,(fun r hr=>by cases hr),⟨rfl,fun i h=>by simp at h⟩,by omega⟩,JN⟩
  (fun x=>{ tmps:=#[.int .i64 fV,.slice (some ⟨b,off,none⟩) m c,undef,undef,.slice none 0 0,.int .i64 0,.int .i64 0,.int .i64 0,.pointer (some ⟨w.heap.size,0,none⟩),j5 b off 1 rs.length fV x.1,.int .i64 fV,.bool false,.slice (some ⟨b,off,none⟩) m c,.int .i64 m,.bool true,undef,undef,.slice (some ⟨b,off,none⟩) m c,.int .i64 fV,.func (.func 143) #[] #[.pointer (some ⟨w.heap.size+1,0,none⟩),.pointer (some ⟨w.heap.size+1+1,0,none⟩)],j5 b off 1 rs.length fV x.1,undef,undef,undef,undef,undef,undef,undef,undef,undef,undef,undef,undef,undef,undef,undef],defers:=[] }) ?assign ?body ?done ?stop
 case assign =>
  intro lp x W K hK
  gi_wp2
  exact hK
 case body =>
  rintro lp pre x W ⟨⟨v,out,aJ,aE,fv,cM,rY⟩,aC⟩ aX;obtain ⟨i,hi⟩:=x;have vc:=((Hr.o.below aC).more aC.size).sub (i*fV) fV;have jR:j5 b off 1 rs.length fV i = .slice (some ⟨b,off+i*fV,none⟩) (yO rs fV i).length (yO rs fV i).length:=by
   unfold j5 yO;rw [length_take,length_drop,Nat.mul_one]
  have ee:=kp (fun W' (hb:Below W.heap.size W W')=>HMg.o (some ⟨b,off+i*fV,none⟩) (yO rs fV i) (yO rs fV i).length W' (by unfold yO;rw [length_take,length_drop];have:=Hm.o;omega) ((vc.below hb).more hb.size) (fun r hr=>Ho.o r (mem_of_mem_drop (mem_of_mem_take hr))));have bO:=kp aJ;have bF:=kp aE;have kN:=kp fv;have fJ:=kp cM;have ai:=kp aC;obtain ⟨Av,cv,rfl⟩:=iq aE;have c0:=aJ.cell;have f0:=aJ.frozen;dsimp only;rw [jR];clear aJ aE fv cM aC vc jR;have wH:w.heap.size<W.heap.size:=bO.o.lt
  gi_wp2
  refine MS (t:=5) (S:=(fun w'=>w'.cell? ⟨w.heap.size,0,none⟩=some (.slice Av out.length cv)/\w'.frozen? ⟨w.heap.size,0,none⟩=false)) (by kernel_rfl) (by kernel_rfl) ⟨c0,f0⟩ (fun ad => ?_);refine tB 0 1 ad ?_;refine oT 2 fun K hK=>?_
  go_simp
  refine (ee.o _ (aq _ _).drew).mono ?_;rintro e w2 ⟨v2,l2,rfl,Bz,K7,gz,qo,aH⟩;have ack:=kp K7;clear K7;obtain ⟨A2,c2,rfl⟩:=gz.form;have Sw:=kp Bz;have fK:=kp gz;have Br:=kp qo;have aF:=kp (show Below W.heap.size W w2 from (aq _ _).drew.trans aH);clear Bz gz qo aH;refine oK hK ?_ fun af=>?_
  .exact ⟨aL aF.o c0,by rw [lU aF.o _ _ wH];exact f0⟩
  replace ad:=af;clear hK K af;have qh:w.heap.size<w2.heap.size:=dL wH aF.o.size;have fI:=kp (eV bF.o aF.o);have Sx:=kp (fun r hr=>(kN.o r hr).1.below aF.o);have wy:=kp (show l9 w2 (.slice Av out.length cv) ⟨A2,l2,c2⟩ from l9.new (B:=W.drew.heap.size) fK.o Br.o (fun j hj=>(bF.o.lt j hj).2));have Sy:=kp (ai.o.trans (aF.o.mono ai.o.size));have je:=kp (show ∀j,j<w.heap.size+3->(Value.slice Av out.length cv).ownBlock≠some j from fun j hj hh=>by have:=(bF.o.lt j hh).1;omega);have iV:=kp (show w.heap.size+3<=w2.heap.size from aT rY aF.o.size);have wI:=kp (show out.length<1048576*64 from by have:=aX;have:=fJ.o.1;have:=Hm.o;omega);refine oT 3 fun K hK=>?_
  go_simp
  refine oK hK ?_ fun af=>?_
  .exact ⟨aL ((aq _ _).alloc (ah _) _) ad.1,by rw [lU ((aq _ _).alloc (ah w2.heap.size) _) _ _ qh];exact ad.2⟩
  replace ad:=af;clear hK K af;refine oT 4 fun K hK=>?_
  refine xB rfl (.tmp 21) (.tmp 24) 142 rfl (w.heap.size+3) 30 i0 (.slice none 0 0) 24 Tryz.underlying142 cG cI cH cJ rfl w2 (.slice A2 l2.length c2) rfl (.slice Av out.length cv) out.length (out.map kH) rfl fI.o rfl wI.o (by decide) iV.o ?_;intro v5 w5 aY bV;obtain ⟨A5,c5,h5⟩:=iq aY;subst h5;have cP:=kp aY;have dh:=kp bV;clear aY bV
  go_simp
  refine oK hK ?_ fun af=>?_
  .have e1:=(dh.o.de qh (je.o _ (by omega)))
   have e2:=(Below.heap_alloc w2 (.cells #[.slice A2 l2.length c2] 30) _ qh)
   exact ⟨(cZ (a:=⟨w.heap.size,0,none⟩) (e1.trans e2.symm)).trans ad.1,by have h:=ad.2;unfold World.frozen? at h ⊢;rw [e1.trans e2.symm];exact h⟩
  replace ad:=af;clear hK K af;refine rr (o := ?op5) (by kernel_rfl) ?ap5 (by kernel_rfl) (fun K hK => ?bp5)
  case ap5=>(simp only [getElem?_toArray,getElem?_cons_succ,getElem?_cons_zero];exact rfl)
  obtain ⟨ic,oX⟩:=ad;have ad:=ic
  go_simp
  refine hK.out _ _ ?_;clear hK K ad;refine tJ.normal ?_
  try simp only [Act.put,setIfInBounds_toArray,set_cons_zero,set_cons_succ]
  have Sz:=kp (show Boxed (w5.setCell ⟨w.heap.size,0,none⟩ (.slice A5 (out.length+1) c5)) w.heap.size 142 (.slice A5 (out.length+1) c5) from Boxed.set _ (show Boxed w5 w.heap.size 142 (.slice Av out.length cv) from (dh.o.de qh (je.o _ (by omega))).trans ((aF.o.block _ wH).trans bO.o)));have SA:=kp (grownBy_setCell' w5 w.heap.size (.slice A5 (out.length+1) c5));have qX:=kp (show ∀k,k<W.heap.size->k≠w.heap.size->(Value.slice Av out.length cv).ownBlock≠some k->(w5.setCell ⟨w.heap.size,0,none⟩ (.slice A5 (out.length+1) c5)).heap[k]? = W.heap[k]? from fun k hk h1 h2=>(Below.heap_setCell w5 ⟨w.heap.size,0,none⟩ _ k h1).trans ((dh.o.de (dL hk aF.o.size) h2).trans (aF.o.block k hk)));have qe:=kp (show W.heap.size<=w5.heap.size from aT aF.o.size dh.o.grown.size);refine ⟨⟨by simp;exact qe.o,fun k o ho hc => ?_⟩,⟨qX.o _ (by omega) (by omega) (je.o _ (by omega)),qX.o _ (by omega) (by omega) (je.o _ (by omega))⟩,⟨_,out++[⟨A2,l2,c2⟩],Sz.o,?_,?_,?_,by simp;exact aT rY qe.o⟩,?_⟩
  .have aA:k<W.heap.size:=(Array.getElem?_eq_some_iff.1 ho).1;refine (qX.o k aA (fun e => ?_) (fun e => ?_)).trans ho
   .subst e;have:=bO.o;unfold Boxed at this;rw [this] at ho;injection ho with ho
    rw [<-ho] at hc;cases hc
   .rcases bF.o.2 with ⟨h0,_⟩ | ⟨g,cap,cur,h0,_,jB,_⟩
    .rw [h0] at e;cases e
    .rw [h0] at e;injection e with e
     subst e;rw [jB] at ho;injection ho with ho
     rw [<-ho] at hc;cases hc
  .rw [aS,map_append];exact cP.o.kept SA.o (.inr (fun e=>by have:=(cP.o.lt _ e).1;omega))
  .intro r hr;have nH:∀b,ir r.A r.fs b->w.heap.size+3<=b:=fun b hb=>by
    rcases mem_append.1 hr with hr | hr
    .exact (kN.o r hr).2 b hb
    .rw [mem_singleton.1 hr] at hb;exact aT rY (D2 fK.o Br.o hb)
   have jf:l9 w5 (.slice A5 (out.length+1) c5) r:=by
    rcases mem_append.1 hr with hr | hr
    .exact (Sx.o r hr).app dh.o
    .rw [mem_singleton.1 hr];exact wy.o.app dh.o
   refine ⟨⟨?_,jf.2⟩,nH⟩;have e:(w5.setCell ⟨w.heap.size,0,none⟩ (.slice A5 (out.length+1) c5)).heap.size=w5.heap.size:=by simp
   rw [e];exact jf.1.same fun b hb=>Below.heap_setCell w5 ⟨w.heap.size,0,none⟩ _ b (by have:=nH b hb;show b≠w.heap.size;omega)
  .refine ⟨by rw [aS,aS,fJ.o.1];rfl,fun i' gP => ?_⟩;by_cases sW:i'<out.length
   .rw [getElem_append_left sW];obtain ⟨g1,g2⟩:=fJ.o.2 i' sW;refine ⟨g1,fun j hj=>g2 j ?_⟩;rw [getElem?_append_left (by rw [<-fJ.o.1];exact sW)] at hj;exact hj
   .have NQ:i'=out.length:=by rw [aS] at gP;simp at gP;omega
    have kt:(out++[(⟨A2,l2,c2⟩:Rn)])[i']'gP=⟨A2,l2,c2⟩:=by
     rw [getElem_append_right (by omega)];simp [NQ]
    rw [kt];refine ⟨ack.o,fun j hj => ?_⟩;rw [getElem?_append_right (by rw [<-fJ.o.1];omega),NQ,fJ.o.1,Nat.sub_self] at hj;have SQ:i=j:=by simpa using hj
    subst SQ;exact Sw.o
  .exact (dh.o.mO Sy.o fI.o (by omega) (by have:=iV.o;omega)).setCell (p:=⟨w.heap.size,0,none⟩) (ah _) _
 case done =>
  rintro D xs W hD ⟨ow,dr⟩ ⟨⟨v,out,aJ,aE,fv,cM,rY⟩,aC⟩ hK;have sd:xs.length=1:=by
   rcases xs with _ | ⟨x,_ | ⟨y,xs⟩⟩
   .simp at dr;have:=pg.o;simp [dr] at this
   .rfl
   .have e:y.1=1:=by
     simp only [map_cons,length_cons] at ow;have:=congrArg (fun l=>l[1]?) ow;simp at this;exact this
    have:=y.2;rw [e] at this;have:=pg.o;omega
  have BG:(xs[0]?).map (·.1)=some 0:=by
   have:=congrArg (fun l=>l[0]?) ow;rw [sd] at this;simpa using this
  obtain ⟨ho1,ho2⟩:=cM;rw [sd] at ho1;obtain ⟨r0,D4⟩:∃r0,out=[r0]:=length_eq_one_iff.1 ho1;subst D4;obtain ⟨SR,BH⟩:=ho2 0 (by simp);have wL:=BH 0 BG;have a1Q:yO rs fV 0=rs:=by
   unfold yO;rw [Nat.zero_mul,drop_zero,take_of_length_le (by have:=pg.o;omega)]
  rw [a1Q] at wL;simp only [getElem_cons_zero] at SR wL;obtain ⟨Av,cv,rfl⟩:=iq aE;have c0:=aJ.cell;obtain ⟨bo,oo,hAo,lH,d0⟩:=Row.at_ (gV aE) (k:=0) (by simp);subst hAo;have d1:W.cell? ⟨bo,oo,none⟩=some (.slice r0.A r0.fs.length r0.c):=d0;have jf:=(fv r0 (by simp)).1;have dR:r0.fs.length<=1000000:=by
   have h1:=wL.length_eq;unfold aG at h1;rw [lM] at h1;have:=lz.o;omega
  have ee:=kp (HC.o r0.A r0.fs r0.c W dR (fun f hf=>Y4 (rs:=rs) (fun r hr=>(Ho.o r hr).keys) (wL.mem_iff.1 (mem_map_of_mem (f:=pl) hf))) jf.1);have Hs0:=kp SR;have SS:=kp wL;have ai:=kp aC;have HK:=kp hK;have hDl:D<W.heap.size:=(Array.getElem?_eq_some_iff.1 hK).1;clear BG ho2 SR BH wL a1Q aE fv d0 jf aC hK ow dr;rw [show [r0].length=1 from rfl] at c0
  gi_wp2
  rw [roundsIn_succ]
  gi_wp2_with (refine ⟨trivial,?_⟩;gi_at_call 66;refine (callsIn_wide.2 ee.o).mono ?_;rintro e w2 ⟨v,l',rfl,G3,jZ,J',jc⟩;have a1R:=kp G3;have BI:=kp jZ;have acm:=kp J';have Hb':=kp jc;clear G3 jZ J' jc)
  have NR:=(Hb'.o.block D hDl).trans HK.o;refine ⟨by simp,.inl ⟨_,_,rfl,run_takeDeferred NR,?_⟩⟩;have hg:=grownBy_putObj' w2 D (.deferred none);have j7:∀r,some D=some r->∃o:Obj,w2.heap[r]? = some o/\o.isCells=false:=fun r e=>by cases e;exact ⟨_,NR,rfl⟩
  refine ⟨.tuple #[v,.int .i64 1,.int .i64 0],by simp [results,Tryz.results63,go_sem],HQ.o v 1 l' _ ?_ (RC a1R.o Hs0.o) ⟨?_,fun f hf=>⟨?_,(BI.o.2 f hf).2⟩⟩ (fun f hf b off e av=>aT ai.o.size (acm.o f hf b off e av)) ?_⟩
  .rw [a1R.o];exact SS.o
  .exact nX (ownsRow_putObj BI.o.1 _ NR rfl) ai.o.size
  .exact (uY (BI.o.2 f hf).1 hg j7).more hg.size
  .exact (ai.o.trans (Hb'.o.mono ai.o.size)).trans (belowK_b (w:=w) (ah _) w2 D _ _ (by omega) NR rfl rfl)
 case stop =>
  rintro D c pre W _ _ h _;exact h.elim
end
section
attribute [local go_sem] Oper.semAt_some
def QH (ps:List (LN×Ag)) (w:World) (e:Ending) (w':World):Prop:=∃ (v:Value) (l:List Fa),e = .returned (.tuple #[v,.int .i64 0])/\(l.map pl).Perm ps/\gU l/\cT w' w.heap.size v l/\jK w.heap.size l/\Below w.heap.size w w'
theorem a5P {l:List Fa} {rs:List Rn} (hn:l.length<=64) (h1:∀i (h:i<rs.length),(aG rs[i].fs).Perm (aG (jV l 32 i))) (h2:l.length<=rs.length*32) (h3:∀i,i<rs.length->i*32<l.length):rs.length<=2/\(fS rs).Perm (aG l):=by
 have hr:rs.length<=2:=by
  rcases Nat.lt_or_ge 2 rs.length with h | h
  .have:=h3 2 h;omega
  .exact h
 refine ⟨hr,?_⟩;rcases rs with _ | ⟨a,_ | ⟨b,_ | ⟨c,rs⟩⟩⟩
 .have:l=[]:=eq_nil_of_length_eq_zero (by simpa using h2);subst this;exact List.Perm.refl _
 .have h:=h1 0 (by simp);have e:jV l 32 0=l:=by
   unfold jV;rw [Nat.zero_mul,drop_zero,take_of_length_le (by simpa using h2)]
  rw [e] at h;simpa [fS] using h
 .have ha:=h1 0 (by simp);have hb:=h1 1 (by simp);have e:aG l=aG (jV l 32 0)++aG (jV l 32 1):=by
   unfold jV aG;rw [Nat.zero_mul,drop_zero,Nat.one_mul,<-map_append,take_of_length_le (l:=l.drop 32) (by rw [length_drop];omega),take_append_drop]
  rw [e];simpa [fS] using ha.append hb
 .simp at hr
theorem cT.base {w:World} {B B':Nat} {v:Value} {l:List Fa} (h:cT w B v l) (hb:B'<=B):cT w B' v l:=⟨nX h.1 hb,h.2⟩
theorem a7F (A:OA) (rs:List Rn) (c fV:Nat) (w:World) (hf:2<=fV) (yh:fV<=1000000) (h2:rs.length<=2) (pd:rs.length<=c) (fj:c<=9223372036854775807) (hr:qO w w.heap.size A rs) (ho:∀r∈rs,J4 r) :
 Calls Tryz.prog 63 #[.int .i64 fV,.slice A rs.length c] w (sE (fS rs) w):=by
 rcases Nat.lt_or_ge rs.length 2 with h | h
 .exact a7u A rs c fV w hf yh (by omega) hr ho
 .exact a9H A rs c fV w hf yh (by omega) pd fj hr ho
theorem a6T (A:OA) (l:List Fa) (c:Nat) (w:World) (hn:l.length<=64) (pd:l.length<=c) (fj:c<=9223372036854775807) (hk:∀f∈l,f.keys.length<=1000000) (hr:dG w w.heap.size A l) :
 Calls Tryz.prog 25 #[.int .i64 32,.int .i64 4,.slice A l.length c] w (QH (aG l) w):=by
 have HR:=kp (aaU A l c 32 w (by omega) (by omega) (by omega) pd fj hk hr);have HP:=kp a7F;have Hn:=kp hn;have Hk:=kp hk;have gQ:=kp (show ∀v l' w',(l'.map pl).Perm (aG l)->gU l'->cT w' w.heap.size v l'->jK w.heap.size l'->Below w.heap.size w w'->QH (aG l) w (.returned (.tuple #[v,.int .i64 0])) w' from fun v l' w' h1 h2 h3 h4 hb=>⟨v,l',rfl,h1,h2,h3,h4,hb⟩);clear hr hk;generalize hQ:QH (aG l) w=Q at *;clear hQ;obtain ⟨m,hm⟩:∃m,l.length=m:=⟨_,rfl⟩
 have Hm:=kp hm;rw [hm] at HR;rw [hm] at hn pd ⊢;clear hm;go_enter Tryz.func25,Tryz.ntmps25;go_wp2_with fail;refine HR.o.mono ?_;rintro e w1 ⟨A1,c1,rs,rfl,br,⟨iv,nI⟩,eY,iE,Bh,ax⟩;obtain ⟨h2,JG⟩:=a5P Hn.o (fun i h=>(eY i h).2.1) iE Bh;have om:∀r∈rs,∀f∈r.fs,f.keys.length<=1000000:=fun r hr f hf=>by
  obtain ⟨i,hi,rfl⟩:=getElem_of_mem hr;have hm:pl f∈aG (rs[i]'hi).fs:=mem_map_of_mem hf;have h3:=(eY i hi).2.1.mem_iff.1 hm;obtain ⟨f',gZ,e⟩:=mem_map.1 h3;have e2:f'.keys=f.keys:=congrArg Prod.fst e;rw [<-e2];exact Hk.o f' (mem_of_mem_drop (mem_of_mem_take gZ))
 have db:∀r∈rs,J4 r:=fun r hr=>by
  have hk:=om r hr;obtain ⟨i,hi,rfl⟩:=getElem_of_mem hr;refine ⟨(eY i hi).1,(eY i hi).2.2,hk,?_⟩;have:=(eY i hi).2.1.length_eq;have h4:(jV l 32 i).length<=32:=by unfold jV;rw [length_take];omega
  unfold aG at this;rw [lM,lM] at this;omega
 have pf:=kp (HP.o A1 rs c1 4 w1 (by omega) (by omega) h2 iv nI br db);have Dm:=kp JG;have aM:=kp ax;clear om db eY iE Bh br ax HR h2 JG;obtain ⟨k,hk⟩:∃k,rs.length=k:=⟨_,rfl⟩
 rw [hk] at pf;rw [hk] at iv ⊢;clear hk;go_wp2_with fail;refine pf.o.mono ?_;rintro e w2 ⟨v2,n2,l2,rfl,qu,iJ,gz,qo,aH⟩;have Hf:=kp (gQ.o v2 l2 w2 (qu.trans Dm.o) iJ (gz.base aM.o.size) (fun f hf b off h1 h2=>aT aM.o.size (qo f hf b off h1 h2)) (aM.o.trans (aH.mono aM.o.size)));clear qu iJ gz qo aH;go_wp2_with fail;exact Hf.o
end
def fit (n:Int):Prop := -9223372036854775808<=n/\n<=9223372036854775807
instance (n:Int):Decidable (fit n):=inferInstanceAs (Decidable (_/\_))
def cap (n:Int):Int:=if fit n then n else 0
def fits (n:Int):Bool:=decide (fit n)
theorem PB {n:Int} (h:fit n):cap n=n:=if_pos h
theorem R9 {n:Int} (h:¬fit n):cap n=0:=if_neg h
theorem Rb {n:Int} (h:fit n):fits n=true:=by simp [fits,h]
theorem PQ {n:Int} (h:¬fit n):fits n=false:=by simp [fits,h]
theorem a8U (a b:Int) (w:World) (ha:fit a) (hb:fit b) (h:fit (a+b)) :
 Calls Tryz.prog 111 #[.int .i64 a,.int .i64 b] w fun e w'=>e = .returned (.tuple #[.int .i64 (a+b),.bool true])/\w=w':=by
 unfold fit at ha hb h;obtain ⟨qv,zy⟩:=ha;obtain ⟨ax,aH⟩:=hb;obtain ⟨h1,h2⟩:=h;go_enter Tryz.func111,Tryz.ntmps111
 go_wp2
 all_goals (go_ret2;exact ⟨rfl,rfl⟩)
theorem a83 (a b:Int) (w:World) (ha:fit a) (hb:fit b) (h:¬fit (a+b)) :
 Calls Tryz.prog 111 #[.int .i64 a,.int .i64 b] w fun e w'=>e = .returned (.tuple #[.int .i64 0,.bool false])/\w=w':=by
 unfold fit at ha hb h;obtain ⟨qv,zy⟩:=ha;obtain ⟨ax,aH⟩:=hb;by_cases h0:0<b
 .have h1:9223372036854775807-b<a:=by omega
  clear h;go_enter Tryz.func111,Tryz.ntmps111
  go_wp2
  all_goals (go_ret2;exact ⟨rfl,rfl⟩)
 .have h1:a < -9223372036854775808-b:=by omega
  have h2:b<0:=by omega
  clear h;go_enter Tryz.func111,Tryz.ntmps111
  go_wp2
  all_goals (go_ret2;exact ⟨rfl,rfl⟩)
theorem Zx (a b:Int) (w:World) (ha:fit a) (hb:fit b) :
 Calls Tryz.prog 111 #[.int .i64 a,.int .i64 b] w fun e w'=>e = .returned (.tuple #[.int .i64 (cap (a+b)),.bool (fits (a+b))])/\w=w':=by
 by_cases h:fit (a+b)
 .rw [PB h,Rb h];exact a8U a b w ha hb h
 .rw [R9 h,PQ h];exact a83 a b w ha hb h
def tV (a b:Ag):Ag:=⟨a.c+b.c,a.s0+b.s0,min a.n0 b.n0,max a.x0 b.x0,a.s1+b.s1,min a.n1 b.n1,max a.x1 b.x1,a.s2+b.s2,min a.n2 b.n2,max a.x2 b.x2⟩
def eX (a:Ag):Prop:=fit a.c/\fit a.s0/\fit a.n0/\fit a.x0/\fit a.s1/\fit a.n1/\fit a.x1/\fit a.s2/\fit a.n2/\fit a.x2
def Ps (s n x s' n' x':Int) (w:World) (e:Ending) (w':World):Prop:=e = .returned (.tuple #[.agg #[.int .i64 (cap (s+s')),.int .i64 (min n n'),.int .i64 (max x x')],.bool (fits (s+s'))])/\Below w.heap.size w w'
theorem a5w (s n x s' n' x':Int) (w:World) (hs:fit s) (o7:fit s'):Calls Tryz.prog 112 #[.agg #[.int .i64 s,.int .i64 n,.int .i64 x],.agg #[.int .i64 s',.int .i64 n',.int .i64 x']] w (Ps s n x s' n' x' w):=by
 have HA:=kp (fun w=>Zx s s' w hs o7);have gQ:=kp (show ∀ (mn mx:Int) (w':World),mn=min n n'->mx=max x x'->Below w.heap.size w w'->Ps s n x s' n' x' w (.returned (.tuple #[.agg #[.int .i64 (cap (s+s')),.int .i64 mn,.int .i64 mx],.bool (fits (s+s'))])) w' from fun mn mx w' h1 h2 h3=>by subst h1 h2;exact ⟨rfl,h3⟩);generalize hQ:Ps s n x s' n' x' w=Q at *;clear hQ;go_enter Tryz.func112,Tryz.ntmps112;go_wp2_with fail;refine (HA.o _).mono ?_;rintro e w' ⟨rfl,rfl⟩
 go_wp2
 all_goals first
  | refine bodyPost_ret (v := .tuple #[.agg #[.int .i64 (cap (s+s')),.int .i64 n,.int .i64 x],.bool (fits (s+s'))]) (by simp [results,Tryz.results112,go_sem]) rfl (gQ.o _ _ _ (by omega) (by omega) ((((aq _ w).alloc (ah _) _).alloc (by simp) _).alloc (by simp;omega) _))
  | refine bodyPost_ret (v := .tuple #[.agg #[.int .i64 (cap (s+s')),.int .i64 n,.int .i64 x'],.bool (fits (s+s'))]) (by simp [results,Tryz.results112,go_sem]) rfl (gQ.o _ _ _ (by omega) (by omega) ((((aq _ w).alloc (ah _) _).alloc (by simp) _).alloc (by simp;omega) _))
  | refine bodyPost_ret (v := .tuple #[.agg #[.int .i64 (cap (s+s')),.int .i64 n',.int .i64 x],.bool (fits (s+s'))]) (by simp [results,Tryz.results112,go_sem]) rfl (gQ.o _ _ _ (by omega) (by omega) ((((aq _ w).alloc (ah _) _).alloc (by simp) _).alloc (by simp;omega) _))
  | refine bodyPost_ret (v := .tuple #[.agg #[.int .i64 (cap (s+s')),.int .i64 n',.int .i64 x'],.bool (fits (s+s'))]) (by simp [results,Tryz.results112,go_sem]) rfl (gQ.o _ _ _ (by omega) (by omega) ((((aq _ w).alloc (ah _) _).alloc (by simp) _).alloc (by simp;omega) _))
def ps (a:Ag) (k:Nat):Int:=match k with | 0=>a.s0 | 1=>a.s1 | _=>a.s2
def pn (a:Ag) (k:Nat):Int:=match k with | 0=>a.n0 | 1=>a.n1 | _=>a.n2
def px (a:Ag) (k:Nat):Int:=match k with | 0=>a.x0 | 1=>a.x1 | _=>a.x2
def eT (a b:Ag) (k:Nat):Ag:=⟨a.c+b.c,if 0<k then a.s0+b.s0 else 0,if 0<k then min a.n0 b.n0 else 0,if 0<k then max a.x0 b.x0 else 0,if 1<k then a.s1+b.s1 else 0,if 1<k then min a.n1 b.n1 else 0,if 1<k then max a.x1 b.x1 else 0,if 2<k then a.s2+b.s2 else 0,if 2<k then min a.n2 b.n2 else 0,if 2<k then max a.x2 b.x2 else 0⟩
def EU (a b:Ag):Prop:=fit (a.c+b.c)/\fit (a.s0+b.s0)/\fit (a.s1+b.s1)/\fit (a.s2+b.s2)
instance (a b:Ag):Decidable (EU a b):=inferInstanceAs (Decidable (_/\_))
def bY (a b:Ag):Option Ag:=if a.c=0 then some b else if b.c=0 then some a else if EU a b then some (tV a b) else none
theorem eX.ps {a:Ag} (h:eX a) (k:Nat):fit (ps a k):=by
 unfold eX at h;unfold Tc.ps;split
 .exact h.2.1
 .exact h.2.2.2.2.1
 .exact h.2.2.2.2.2.2.2.1
theorem aa.part {w:World} {g:Nat} {t:TypeId} {a:Ag} (h:aa w g t (bj a)) {k:Nat} (hk:k<3) :
 (w.cell? ⟨g,1+k*3,none⟩=some (.int .i64 (ps a k))/\w.cell? ⟨g,1+k*3+1,none⟩=some (.int .i64 (pn a k))/\w.cell? ⟨g,1+k*3+2,none⟩=some (.int .i64 (px a k))) /\
 (w.frozen? ⟨g,1+k*3,none⟩=false/\w.frozen? ⟨g,1+k*3+1,none⟩=false/\w.frozen? ⟨g,1+k*3+2,none⟩=false):=by
 obtain ⟨⟨a0,a1,a2,a3,a4,a5,a6,a7,a8,a9⟩,⟨f0,f1,f2,f3,f4,f5,f6,f7,f8,f9⟩⟩:=aa.eS h
 match k,hk with
 | 0,_=>exact ⟨⟨a1,a2,a3⟩,f1,f2,f3⟩
 | 1,_=>exact ⟨⟨a4,a5,a6⟩,f4,f5,f6⟩
 | 2,_=>exact ⟨⟨a7,a8,a9⟩,f7,f8,f9⟩
theorem aa.a5x {w:World} {g:Nat} {t:TypeId} {a b:Ag} {k:Nat} (h:aa w g t (bj (eT a b k))) (hk:k<3) :
 aa (((w.setCell ⟨g,1+k*3,none⟩ (.int .i64 (Tc.ps a k+Tc.ps b k))).setCell ⟨g,1+k*3+1,none⟩ (.int .i64 (min (pn a k) (pn b k)))).setCell ⟨g,1+k*3+2,none⟩ (.int .i64 (max (px a k) (px b k)))) g t (bj (eT a b (k+1))):=by
 match k,hk,h with
 | 0,_,h=>exact ((h.set 1 _).set 2 _).set 3 _
 | 1,_,h=>exact ((h.set 4 _).set 5 _).set 6 _
 | 2,_,h=>exact ((h.set 7 _).set 8 _).set 9 _
theorem a7H (a b:Ag):eT a b 3=tV a b:=rfl
theorem a94 {a b:Ag} (h0:fit (a.c+b.c)) (h:∀i,i<3->fit (ps a i+ps b i)):EU a b:=⟨h0,h 0 (by omega),h 1 (by omega),h 2 (by omega)⟩
theorem a5U {a b:Ag} {k:Nat} (hk:k<3) (h:¬fit (ps a k+ps b k)):¬EU a b:=by
 intro hs
 match k,hk,h with
 | 0,_,h=>exact h hs.2.1
 | 1,_,h=>exact h hs.2.2.1
 | 2,_,h=>exact h hs.2.2.2
theorem QQ {w:World} {p a:Addr} {u:Value} (h:a.block≠p.block):(w.setCell p u).cell? a=w.cell? a:=cZ (Below.heap_setCell w p u a.block h)
theorem ED {w:World} {p q r a:Addr} {u v x:Value} (h1:a.block≠p.block) (h2:a.block≠q.block) (h3:a.block≠r.block):(((w.setCell p u).setCell q v).setCell r x).cell? a=w.cell? a :=
 (QQ h3).trans ((QQ h2).trans (QQ h1))
def N2 (a b:Ag) (w:World) (e:Ending) (w':World):Prop:=e = .returned (.tuple #[.agg (bj ((bY a b).getD aO)),.bool (bY a b).isSome])/\Below w.heap.size w w'
theorem QX (a b:Ag) (w:World) (ha:eX a) (hb:eX b):Calls Tryz.prog 65 #[.agg (bj a),.agg (bj b)] w (N2 a b w):=by
 have HA:=kp (fun w=>Zx a.c b.c w ha.1 hb.1);have HP:=kp (fun k w=>a5w (ps a k) (pn a k) (px a k) (ps b k) (pn b k) (px b k) w (ha.ps k) (hb.ps k));have gQ:=kp (show ∀ (o:Option Ag) w',bY a b=o->Below w.heap.size w w'->N2 a b w (.returned (.tuple #[.agg (bj (o.getD aO)),.bool o.isSome])) w' from fun o w' h1 h2=>by subst h1;exact ⟨rfl,h2⟩);have aF:=kp ((((aq w.heap.size w).alloc (ah _) (.cells (bj a) 54)).alloc (by simp) (.cells (bj b) 54)));generalize hQ:N2 a b w=Q at *;clear hQ ha hb;by_cases h0:a.c=0
 .have Hj:=kp (show bY a b=some b from if_pos h0);go_enter Tryz.func65,Tryz.ntmps65;go_wp2_with fail;refine bodyPost_ret (v := .tuple #[.agg (bj ((some b:Option Ag).getD aO)),.bool (some b:Option Ag).isSome]) (by simp [results,Tryz.results65,go_sem,aO]) rfl (gQ.o (some b) _ Hj.o (aF.o.alloc (by simp;omega) _))
 by_cases h1:b.c=0
 .have Hj:=kp (show bY a b=some a by unfold bY;rw [if_neg h0,if_pos h1]);go_enter Tryz.func65,Tryz.ntmps65;go_wp2_with fail;refine bodyPost_ret (v := .tuple #[.agg (bj ((some a:Option Ag).getD aO)),.bool (some a:Option Ag).isSome]) (by simp [results,Tryz.results65,go_sem,aO]) rfl (gQ.o (some a) _ Hj.o (aF.o.alloc (by simp;omega) _))
 go_enter Tryz.func65,Tryz.ntmps65;go_wp2_with fail;refine (HA.o _).mono ?_;rintro e w' ⟨rfl,rfl⟩;by_cases hf:fit (a.c+b.c)
 .rw [PB hf,Rb hf];go_wp2_with fail;have hl3:((w.alloc (.cells (bj a) 54)).alloc (.cells (bj b) 54)).heap.size=w.heap.size+2:=by simp
  have oD:=kp ((((aa.new w 54 (bj a)).alloc (.cells (bj b) 54)).alloc (.cells (bj aO) 54)).alloc (.cells (bj (eT a b 0)) 54));have DA:=kp (((aa.lay (w:=w.alloc (.cells (bj a) 54)) (g:=w.heap.size+1) (t:=54) (cs:=bj b) (by simp)).alloc (.cells (bj aO) 54)).alloc (.cells (bj (eT a b 0)) 54));have lI:=kp ((aa.lay (w:=(w.alloc (.cells (bj a) 54)).alloc (.cells (bj b) 54)) (g:=w.heap.size+1+1) (t:=54) (cs:=bj aO) (by simp)).alloc (.cells (bj (eT a b 0)) 54));have DB:=kp (aa.lay (w:=((w.alloc (.cells (bj a) 54)).alloc (.cells (bj b) 54)).alloc (.cells (bj aO) 54)) (g:=w.heap.size+1+1+1) (t:=54) (cs:=bj (eT a b 0)) (by simp));have bH:=kp ((aF.o.alloc (by simp;omega) (.cells (bj aO) 54)).alloc (by simp;omega) (.cells (bj (eT a b 0)) 54))
  go_loopw [32] (fun SU wr=>∃k:Nat,k<=3/\SU = .int .i64 k/\aa wr w.heap.size 54 (bj a)/\aa wr (w.heap.size+1) 54 (bj b)/\aa wr (w.heap.size+1+1) 54 (bj aO)/\aa wr (w.heap.size+1+1+1) 54 (bj (eT a b k))/\(∀i,i<k->fit (ps a i+ps b i))/\Below w.heap.size w wr) (fun SU _=>3-(intOf SU).toNat)
  case atStart=>exact ⟨0,by omega,rfl,oD.o,DA.o,lI.o,DB.o,fun i hi=>by omega,bH.o⟩
  case round =>
   clear oD DA lI DB bH aF hl3 HA;obtain ⟨k,hk,rfl,wJ,ui,ku,K9,ie,aC⟩:=hrel;have oD:=kp wJ;have DA:=kp ui;have lI:=kp ku;have DB:=kp K9;have JT:=kp ie;have ai:=kp aC;have dv:w.heap.size+3<wr.heap.size:=DB.o.lt;clear wJ ui ku K9 ie aC;by_cases ae:k<3
   .obtain ⟨⟨a0,a1,a2⟩,_⟩:=aa.part oD.o ae;obtain ⟨⟨b0,b1,b2⟩,_⟩:=aa.part DA.o ae;obtain ⟨_,⟨f0,f1,f2⟩⟩:=aa.part DB.o ae;have dz:(0:Int)<=(k:Int):=by omega
    have df:(k:Int)<3:=by omega
    have pf:=kp (HP.o k);have SV:=kp (fun w' (h:aa w' (w.heap.size+1+1+1) 54 (bj (eT a b k)))=>aa.a5x h ae);clear HP;generalize gv:ps a k=s1 at a0 pf SV ⊢;generalize iJ:ps b k=s2 at b0 pf SV ⊢;have gv:=gv.symm;have iJ:=iJ.symm;generalize pn a k=n1 at *;generalize px a k=x1 at *;generalize pn b k=n2 at *;generalize px b k=x2 at *;have ub:=kp (show ¬fit (s1+s2)->bY a b=none from fun h=>by rw [gv,iJ] at h;unfold bY;rw [if_neg h0,if_neg h1,if_neg (a5U ae h)])
    have xQ:=kp (show fit (s1+s2)->∀i,i<k+1->fit (ps a i+ps b i) from fun h i hi=>by
     rcases Nat.lt_succ_iff_lt_or_eq.1 hi with hi | rfl
     .exact JT.o i hi
     .rw [<-gv,<-iJ];exact h)
    clear gv iJ;go_wp2_with fail;refine wp_region_noPanic ?_;refine dt (t:=99) (S:=(fun w'=>((w'.cell? ⟨w.heap.size,1+k*3,none⟩=some (.int .i64 s1)/\w'.cell? ⟨w.heap.size,1+k*3+1,none⟩=some (.int .i64 n1)/\w'.cell? ⟨w.heap.size,1+k*3+2,none⟩=some (.int .i64 x1))/\(w'.cell? ⟨w.heap.size+1,1+k*3,none⟩=some (.int .i64 s2)/\w'.cell? ⟨w.heap.size+1,1+k*3+1,none⟩=some (.int .i64 n2)/\w'.cell? ⟨w.heap.size+1,1+k*3+2,none⟩=some (.int .i64 x2))))) (by kernel_rfl) ⟨⟨a0,a1,a2⟩,b0,b1,b2⟩ (fun ad => ?_);refine tD 0 1 2 3 ad ?_;refine tD 4 5 6 7 ad ?_;refine tB 8 13 ad ?_;have aeK:wr.drew.heap.size=wr.heap.size:=by simp
    refine oT 9 fun K hK=>?_
    go_simp
    refine (pf.o wr.drew).mono ?_;rintro e w2 ⟨rfl,aH⟩;have aF:=kp aH;clear aH;refine oK hK ?_ fun af=>?_
    .exact ⟨⟨aL aF.o ad.1.1,aL aF.o ad.1.2.1,aL aF.o ad.1.2.2⟩,aL aF.o ad.2.1,aL aF.o ad.2.2.1,aL aF.o ad.2.2.2⟩
    replace ad:=af;clear hK K af;have BJ:=kp (oD.o.drew.under aF.o);have acn:=kp (DA.o.drew.under aF.o);have a1S:=kp (lI.o.drew.under aF.o);have a1T:=kp (DB.o.drew.under aF.o);have ec:=kp (ai.o.drew.trans (aF.o.mono (by simp;omega)));obtain ⟨⟨j0,j1,j2⟩,⟨SX,f1',f2'⟩⟩:=aa.part a1T.o ae;clear f0 f1 f2;refine tD 10 11 12 14 ad ?_;refine oT 15 fun K hK=>?_
    go_simp
    refine oK hK ?_ fun af=>?_
    .exact ⟨⟨(ED (by simp<;>omega) (by simp<;>omega) (by simp<;>omega)).trans ad.1.1,(ED (by simp<;>omega) (by simp<;>omega) (by simp<;>omega)).trans ad.1.2.1,(ED (by simp<;>omega) (by simp<;>omega) (by simp<;>omega)).trans ad.1.2.2⟩,(ED (by simp<;>omega) (by simp<;>omega) (by simp<;>omega)).trans ad.2.1,(ED (by simp<;>omega) (by simp<;>omega) (by simp<;>omega)).trans ad.2.2.1,(ED (by simp<;>omega) (by simp<;>omega) (by simp<;>omega)).trans ad.2.2.2⟩
    replace ad:=af;clear hK K af;refine tk 16 ad ?_;refine dY (by kernel_rfl) ?_ _
    try clear ad
    refine NoPanic.normal ?_;by_cases G5:fit (s1+s2)
    .rw [PB G5,Rb G5];go_wp2_with fail;refine ⟨⟨k+1,by omega,by go_num,?_,?_,?_,?_,xQ.o G5,?_⟩,by simp [intOf];omega⟩
     .exact ((BJ.o.bX (p:=⟨w.heap.size+1+1+1,1+k*3,none⟩) (by simp<;>omega) _).bX (p:=⟨w.heap.size+1+1+1,1+k*3+1,none⟩) (by simp<;>omega) _).bX (p:=⟨w.heap.size+1+1+1,1+k*3+2,none⟩) (by simp<;>omega) _
     .exact ((acn.o.bX (p:=⟨w.heap.size+1+1+1,1+k*3,none⟩) (by simp<;>omega) _).bX (p:=⟨w.heap.size+1+1+1,1+k*3+1,none⟩) (by simp<;>omega) _).bX (p:=⟨w.heap.size+1+1+1,1+k*3+2,none⟩) (by simp<;>omega) _
     .exact ((a1S.o.bX (p:=⟨w.heap.size+1+1+1,1+k*3,none⟩) (by simp<;>omega) _).bX (p:=⟨w.heap.size+1+1+1,1+k*3+1,none⟩) (by simp<;>omega) _).bX (p:=⟨w.heap.size+1+1+1,1+k*3+2,none⟩) (by simp<;>omega) _
     .exact SV.o _ a1T.o
     .exact ((ec.o.setCell (p:=⟨w.heap.size+1+1+1,1+k*3,none⟩) (by simp<;>omega) _).setCell (p:=⟨w.heap.size+1+1+1,1+k*3+1,none⟩) (by simp<;>omega) _).setCell (p:=⟨w.heap.size+1+1+1,1+k*3+2,none⟩) (by simp<;>omega) _
    .have kn:=kp (ub.o G5);rw [R9 G5,PQ G5];have a1U:=kp (((a1S.o.bX (p:=⟨w.heap.size+1+1+1,1+k*3,none⟩) (by simp<;>omega) (.int .i64 0)).bX (p:=⟨w.heap.size+1+1+1,1+k*3+1,none⟩) (by simp<;>omega) (.int .i64 (min n1 n2))).bX (p:=⟨w.heap.size+1+1+1,1+k*3+2,none⟩) (by simp<;>omega) (.int .i64 (max x1 x2)));have qS:=kp (((ec.o.setCell (p:=⟨w.heap.size+1+1+1,1+k*3,none⟩) (by simp<;>omega) (.int .i64 0)).setCell (p:=⟨w.heap.size+1+1+1,1+k*3+1,none⟩) (by simp<;>omega) (.int .i64 (min n1 n2))).setCell (p:=⟨w.heap.size+1+1+1,1+k*3+2,none⟩) (by simp<;>omega) (.int .i64 (max x1 x2)));generalize (((w2.setCell ⟨w.heap.size+1+1+1,1+k*3,none⟩ (.int .i64 0)).setCell ⟨w.heap.size+1+1+1,1+k*3+1,none⟩ (.int .i64 (min n1 n2))).setCell ⟨w.heap.size+1+1+1,1+k*3+2,none⟩ (.int .i64 (max x1 x2)))=W3 at *;obtain ⟨⟨z0,z1,z2,z3,z4,z5,z6,z7,z8,z9⟩,gD⟩:=aa.eS a1U.o;go_wp2_with fail;have ni:=kp (aa.vF (.int .i64 0) (.int .i64 0) (.int .i64 0) (.int .i64 0) (.int .i64 0) (.int .i64 0) (.int .i64 0) (.int .i64 0) (.int .i64 0) (.int .i64 0) a1U.o);have dW:=kp (Below.vF (.int .i64 0) (.int .i64 0) (.int .i64 0) (.int .i64 0) (.int .i64 0) (.int .i64 0) (.int .i64 0) (.int .i64 0) (.int .i64 0) (.int .i64 0) qS.o (show w.heap.size<=w.heap.size+1+1 by omega));clear z0 z1 z2 z3 z4 z5 z6 z7 z8 z9;generalize ((((((((((W3.setCell { block:=w.heap.size+1+1,off:=0 } (Value.int IntKind.i64 0)).setCell { block:=w.heap.size+1+1,off:=1 } (Value.int IntKind.i64 0)).setCell { block:=w.heap.size+1+1,off:=2 } (Value.int IntKind.i64 0)).setCell { block:=w.heap.size+1+1,off:=3 } (Value.int IntKind.i64 0)).setCell { block:=w.heap.size+1+1,off:=4 } (Value.int IntKind.i64 0)).setCell { block:=w.heap.size+1+1,off:=5 } (Value.int IntKind.i64 0)).setCell { block:=w.heap.size+1+1,off:=6 } (Value.int IntKind.i64 0)).setCell { block:=w.heap.size+1+1,off:=7 } (Value.int IntKind.i64 0)).setCell { block:=w.heap.size+1+1,off:=8 } (Value.int IntKind.i64 0)).setCell { block:=w.heap.size+1+1,off:=9 } (Value.int IntKind.i64 0))=WF at *;obtain ⟨⟨z0,z1,z2,z3,z4,z5,z6,z7,z8,z9⟩,_⟩:=aa.eS ni.o;refine bodyPost_ret (v := .tuple #[.agg (bj ((none:Option Ag).getD aO)),.bool (none:Option Ag).isSome]) (by simp [results,Tryz.results65,go_sem,aO,z0,z1,z2,z3,z4,z5,z6,z7,z8,z9]) rfl (gQ.o none _ kn.o dW.o)
   .obtain rfl:k=3:=by omega
    have cD:=(aa.eS DB.o).1;obtain ⟨⟨z0,z1,z2,z3,z4,z5,z6,z7,z8,z9⟩,⟨f0,f1,f2,f3,f4,f5,f6,f7,f8,f9⟩⟩:=aa.eS lI.o;go_wp2_with fail;have Hj:=kp (show bY a b=some (eT a b 3) by unfold bY;rw [if_neg h0,if_neg h1,if_pos (a94 hf JT.o),a7H]);have ni:=kp (aa.vF (.int .i64 (eT a b 3).c) (.int .i64 (eT a b 3).s0) (.int .i64 (eT a b 3).n0) (.int .i64 (eT a b 3).x0) (.int .i64 (eT a b 3).s1) (.int .i64 (eT a b 3).n1) (.int .i64 (eT a b 3).x1) (.int .i64 (eT a b 3).s2) (.int .i64 (eT a b 3).n2) (.int .i64 (eT a b 3).x2) lI.o);have dW:=kp (Below.vF (.int .i64 (eT a b 3).c) (.int .i64 (eT a b 3).s0) (.int .i64 (eT a b 3).n0) (.int .i64 (eT a b 3).x0) (.int .i64 (eT a b 3).s1) (.int .i64 (eT a b 3).n1) (.int .i64 (eT a b 3).x1) (.int .i64 (eT a b 3).s2) (.int .i64 (eT a b 3).n2) (.int .i64 (eT a b 3).x2) ai.o (show w.heap.size<=w.heap.size+1+1 by omega));clear z0 z1 z2 z3 z4 z5 z6 z7 z8 z9;generalize ((((((((((wr.setCell { block:=w.heap.size+1+1,off:=0 } (Value.int IntKind.i64 (eT a b 3).c)).setCell { block:=w.heap.size+1+1,off:=1 } (Value.int IntKind.i64 (eT a b 3).s0)).setCell { block:=w.heap.size+1+1,off:=2 } (Value.int IntKind.i64 (eT a b 3).n0)).setCell { block:=w.heap.size+1+1,off:=3 } (Value.int IntKind.i64 (eT a b 3).x0)).setCell { block:=w.heap.size+1+1,off:=4 } (Value.int IntKind.i64 (eT a b 3).s1)).setCell { block:=w.heap.size+1+1,off:=5 } (Value.int IntKind.i64 (eT a b 3).n1)).setCell { block:=w.heap.size+1+1,off:=6 } (Value.int IntKind.i64 (eT a b 3).x1)).setCell { block:=w.heap.size+1+1,off:=7 } (Value.int IntKind.i64 (eT a b 3).s2)).setCell { block:=w.heap.size+1+1,off:=8 } (Value.int IntKind.i64 (eT a b 3).n2)).setCell { block:=w.heap.size+1+1,off:=9 } (Value.int IntKind.i64 (eT a b 3).x2))=WF at *;obtain ⟨⟨z0,z1,z2,z3,z4,z5,z6,z7,z8,z9⟩,_⟩:=aa.eS ni.o;refine bodyPost_ret (v := .tuple #[.agg (bj (eT a b 3)),.bool true]) (by simp [results,Tryz.results65,go_sem,z0,z1,z2,z3,z4,z5,z6,z7,z8,z9]) rfl (gQ.o (some (eT a b 3)) _ Hj.o dW.o)
 .rw [R9 hf,PQ hf];have Hj:=kp (show bY a b=none by unfold bY;rw [if_neg h0,if_neg h1,if_neg (fun h=>hf h.1)]);go_wp2_with fail;refine bodyPost_ret (v := .tuple #[.agg (bj ((none:Option Ag).getD aO)),.bool (none:Option Ag).isSome]) (by simp [results,Tryz.results65,go_sem,aO]) rfl (gQ.o (none) _ Hj.o ((aF.o.alloc (by simp;omega) _).alloc (by simp;omega) _))
section
variable {P:Program} {an:Array Oper} {Q:Exit->Act->World->Prop} {md:Region.Mode} {S:World->Prop} {t:Nat}
theorem aaq {i j:Nat} {o o':Oper} {fuel:Nat} {listed:Array Bool} {a:Act} {w:World} (hr:Region.ready md an listed=[i,j]) (ho:an[i]? = some o) (NS:an[j]? = some o') (zk:i≠t) (Bm:j≠t)
 (h:∀K':Act->World->Prop,Shut (∀a w,S w->(S w->hZ P md an Q S t fuel (listed.setIfInBounds i true) a w)->K' a w)->if Region.wanted o (yielded an a.tmps)=true then Oper.wp P o a w K' Q else K' (a.put o.dst undef) w)
 (h':∀K':Act->World->Prop,Shut (∀a w,S w->(S w->hZ P md an Q S t fuel (listed.setIfInBounds j true) a w)->K' a w)->if Region.wanted o' (yielded an a.tmps)=true then Oper.wp P o' a w K' Q else K' (a.put o'.dst undef) w) :
 hZ P md an Q S t (fuel+1) listed a w:=by
 refine ⟨fun h0=>(by rw [hr] at h0;cases h0),fun k hk => ?_⟩;rw [hr] at hk;rcases mem_cons.1 hk with rfl | hk
 .exact wpOp_step ho (fun K' hK=>h K' (fun a w hS hW=>hK a w ⟨fun _=>hS,hW hS⟩))
 .obtain rfl:k=j:=by simpa using hk
  exact wpOp_step NS (fun K' hK=>h' K' (fun a w hS hW=>hK a w ⟨fun _=>hS,hW hS⟩))
end
theorem a9l (P R:List Fa) (s:Fa) (a:Ag):((((((((((((P++s::R).flatMap fG).set (P.length*11+1) (.int .i64 a.c)).set (P.length*11+2) (.int .i64 a.s0)).set (P.length*11+3) (.int .i64 a.n0)).set (P.length*11+4) (.int .i64 a.x0)).set (P.length*11+5) (.int .i64 a.s1)).set (P.length*11+6) (.int .i64 a.n1)).set (P.length*11+7) (.int .i64 a.x1)).set (P.length*11+8) (.int .i64 a.s2)).set (P.length*11+9) (.int .i64 a.n2)).set (P.length*11+10) (.int .i64 a.x2))=(P++(⟨s.A,s.keys,s.c,a⟩:Fa)::R).flatMap fG:=by
 have hl:(P.flatMap fG).length=P.length*11:=kI xr P;rw [flatMap_append,flatMap_append,flatMap_cons,flatMap_cons,<-hl];generalize P.flatMap fG=X;generalize R.flatMap fG=Y;simp [fG,set_append_right]
abbrev ru (w:World) (g o:Nat) (a:Ag):World:=((((((((((w.setCell ⟨g,o+1,none⟩ (.int .i64 a.c)).setCell ⟨g,o+2,none⟩ (.int .i64 a.s0)).setCell ⟨g,o+3,none⟩ (.int .i64 a.n0)).setCell ⟨g,o+4,none⟩ (.int .i64 a.x0)).setCell ⟨g,o+5,none⟩ (.int .i64 a.s1)).setCell ⟨g,o+6,none⟩ (.int .i64 a.n1)).setCell ⟨g,o+7,none⟩ (.int .i64 a.x1)).setCell ⟨g,o+8,none⟩ (.int .i64 a.s2)).setCell ⟨g,o+9,none⟩ (.int .i64 a.n2)).setCell ⟨g,o+10,none⟩ (.int .i64 a.x2))
theorem a97 {w:World} {B:Nat} {e:TypeId} {g n c:Nat} {P R:List Fa} {s:Fa} (h:w.ownsRow B e 11 (.slice (some ⟨g,0,none⟩) n c) n ((P++s::R).flatMap fG)) (a:Ag) :
 (ru w g (P.length*11) a).ownsRow B e 11 (.slice (some ⟨g,0,none⟩) n c) n ((P++(⟨s.A,s.keys,s.c,a⟩:Fa)::R).flatMap fG):=by
 have hl:=kI xr (P++s::R);simp only [aS,length_cons] at hl;rw [<-a9l P R s a];refine gX (gX (gX (gX (gX (gX (gX (gX (gX (gX h ?_ _) ?_ _) ?_ _) ?_ _) ?_ _) ?_ _) ?_ _) ?_ _) ?_ _) ?_ _
 all_goals ((try simp only [length_set]);omega)
theorem a8T {w:World} {g o k:Nat} {a:Ag} (hk:k≠g):(ru w g o a).heap[k]? = w.heap[k]? := by
 unfold ru
 repeat rw [Below.heap_setCell _ ⟨g,_,none⟩ _ k hk]
theorem ZR {B:Nat} {x w:World} {g o:Nat} (a:Ag) (h:Below B x w) (hg:B<=g):Below B x (ru w g o a) :=
 ((((((((((h.setCell (p:=⟨g,o+1,none⟩) hg _).setCell (p:=⟨g,o+2,none⟩) hg _).setCell (p:=⟨g,o+3,none⟩) hg _).setCell (p:=⟨g,o+4,none⟩) hg _).setCell (p:=⟨g,o+5,none⟩) hg _).setCell (p:=⟨g,o+6,none⟩) hg _).setCell (p:=⟨g,o+7,none⟩) hg _).setCell (p:=⟨g,o+8,none⟩) hg _).setCell (p:=⟨g,o+9,none⟩) hg _).setCell (p:=⟨g,o+10,none⟩) hg _)
theorem abH (w:World) (g o:Nat) (a:Ag):(ru w g o a).heap.size=w.heap.size:=by unfold ru;simp
theorem dx.ru {w:World} {g o n c:Nat} {f:Fa} {a:Ag} (h:dx w (.slice (some ⟨g,0,none⟩) n c) f):dx (ru w g o a) (.slice (some ⟨g,0,none⟩) n c) f:=by
 refine ⟨?_,h.2⟩;rw [abH];rcases h.1 with h1 | ⟨b,off,e,hb,hc⟩
 .exact .inl h1
 .by_cases h0:aP f.keys=[]
  .exact .inl h0
  .refine .inr ⟨b,off,e,hb,fun i v hv => ?_⟩;have:=hc i v hv;rw [<-this];exact cZ (a:=⟨b,off+i,none⟩) (a8T (fun hh=>h.2 b off e h0 (by subst hh;rfl)))
theorem cT.ru {w:World} {B g n c:Nat} {P R:List Fa} {s:Fa} (h:cT w B (.slice (some ⟨g,0,none⟩) n c) (P++s::R)) (a:Ag) :
 cT (Tc.ru w g (P.length*11) a) B (.slice (some ⟨g,0,none⟩) n c) (P++(⟨s.A,s.keys,s.c,a⟩:Fa)::R):=by
 obtain ⟨h1,h2⟩:=h;obtain ⟨A',c',e⟩:=eM h1;have hn:n=(P++s::R).length:=by injection e
 have hl:(P++(⟨s.A,s.keys,s.c,a⟩:Fa)::R).length=(P++s::R).length:=by simp
 refine ⟨?_,fun x hx => ?_⟩
 .rw [hl];rw [<-hn] at h1 ⊢;exact a97 h1 a
 .rcases mem_append.1 hx with hx | hx
  .exact (h2 x (mem_append_left _ hx)).ru
  .rcases mem_cons.1 hx with rfl | hx
   .exact dx.ru (f:=⟨s.A,s.keys,s.c,a⟩) (h2 s (mem_append_right _ mem_cons_self))
   .exact (h2 x (mem_append_right _ (mem_cons_of_mem _ hx))).ru
def uN (out:List (LN×Ag)) (p:LN×Ag):Option (List (LN×Ag)) :=
 match out.getLast? with
 | none=>some [p]
 | some q=>if bP q.1 p.1=0 then (bY q.2 p.2).map fun j=>out.dropLast++[(q.1,j)] else some (out++[p])
def ki:List (LN×Ag)->List (LN×Ag)->Option (List (LN×Ag))
 | out,[]=>some out
 | out,p::ps=>(uN out p).bind fun o=>ki o ps
theorem Mu {a b j:Ag} (ha:eX a) (hb:eX b) (h:bY a b=some j):eX j:=by
 unfold bY at h;split at h
 .injection h with h;subst h;exact hb
 .split at h
  .injection h with h;subst h;exact ha
  .split at h
   .rename_i hs;injection h with h
    subst h;obtain ⟨s0,s1,s2,s3⟩:=hs;unfold eX tV at *;unfold fit at *;refine ⟨s0,s1,?_,?_,s2,?_,?_,s3,?_,?_⟩<;>(dsimp only;omega)
   .cases h
theorem sx {w w':World} {g o:Nat} {v1 v2 v3 v4 v5 v6 v7 v8 v9 nD:Value} (hb:w'.heap[g]? = w.heap[g]?)
 (h:w.cell? ⟨g,o+1,none⟩=some v1/\w.cell? ⟨g,o+2,none⟩=some v2/\w.cell? ⟨g,o+3,none⟩=some v3/\w.cell? ⟨g,o+4,none⟩=some v4/\w.cell? ⟨g,o+5,none⟩=some v5/\w.cell? ⟨g,o+6,none⟩=some v6/\w.cell? ⟨g,o+7,none⟩=some v7/\w.cell? ⟨g,o+8,none⟩=some v8/\w.cell? ⟨g,o+9,none⟩=some v9/\w.cell? ⟨g,o+10,none⟩=some nD):w'.cell? ⟨g,o+1,none⟩=some v1/\w'.cell? ⟨g,o+2,none⟩=some v2/\w'.cell? ⟨g,o+3,none⟩=some v3/\w'.cell? ⟨g,o+4,none⟩=some v4/\w'.cell? ⟨g,o+5,none⟩=some v5/\w'.cell? ⟨g,o+6,none⟩=some v6/\w'.cell? ⟨g,o+7,none⟩=some v7/\w'.cell? ⟨g,o+8,none⟩=some v8/\w'.cell? ⟨g,o+9,none⟩=some v9/\w'.cell? ⟨g,o+10,none⟩=some nD:=by
 obtain ⟨h1,h2,h3,h4,h5,h6,h7,h8,h9,zz⟩:=h;have e:∀i,w'.cell? ⟨g,i,none⟩=w.cell? ⟨g,i,none⟩:=fun i=>cZ (a:=⟨g,i,none⟩) hb
 simp only [e];exact ⟨h1,h2,h3,h4,h5,h6,h7,h8,h9,zz⟩
theorem a1k {w:World} {g k:Nat} {v0 v1 v2 v3 v4 v5 v6 v7 v8 v9:Value} (hk:k≠g):((((((((((w.setCell ⟨g,0,none⟩ v0).setCell ⟨g,1,none⟩ v1).setCell ⟨g,2,none⟩ v2).setCell ⟨g,3,none⟩ v3).setCell ⟨g,4,none⟩ v4).setCell ⟨g,5,none⟩ v5).setCell ⟨g,6,none⟩ v6).setCell ⟨g,7,none⟩ v7).setCell ⟨g,8,none⟩ v8).setCell ⟨g,9,none⟩ v9).heap[k]? = w.heap[k]? := by
 repeat rw [Below.heap_setCell _ ⟨g,_,none⟩ _ k hk]
theorem aab (P:List (LN×Ag)) (q p:LN×Ag):uN (P++[q]) p=if bP q.1 p.1=0 then (bY q.2 p.2).map fun j=>P++[(q.1,j)] else some (P++[q]++[p]):=by
 unfold uN;simp
def nW (ps:List (LN×Ag)) (w:World) (e:Ending) (w':World):Prop :=
 match ki [] ps with
 | none=>e = .returned (.tuple #[.slice none 0 0,.int .i64 12])/\Below w.heap.size w w'
 | some qs=>∃ (v:Value) (l:List Fa),e = .returned (.tuple #[v,.int .i64 0])/\l.map pl=qs/\cT w' w.heap.size v l/\jK w.heap.size l/\Below w.heap.size w w'
theorem nW.no {ps:List (LN×Ag)} {w w':World} (h:ki [] ps=none) (hb:Below w.heap.size w w'):nW ps w (.returned (.tuple #[.slice none 0 0,.int .i64 12])) w':=by
 unfold nW;rw [h];exact ⟨rfl,hb⟩
theorem nW.yes {ps qs:List (LN×Ag)} {w w':World} {v:Value} {l:List Fa} (h:ki [] ps=some qs) (h1:l.map pl=qs) (h2:cT w' w.heap.size v l) (h3:jK w.heap.size l) (hb:Below w.heap.size w w'):nW ps w (.returned (.tuple #[v,.int .i64 0])) w':=by
 unfold nW;rw [h];exact ⟨v,l,rfl,h1,h2,h3,hb⟩
theorem a5T (A:OA) (l:List Fa) (c:Nat) (w:World) (hn:l.length<=1000000) (hk:∀f∈l,f.keys.length<=1000000) (zB:∀f∈l,eX f.ag) (hr:dG w w.heap.size A l) :
 Calls Tryz.prog 26 #[.slice A l.length c] w (nW (l.map pl) w):=by
 have ub:=kp (show ki [] (l.map pl)=none->∀w',Below w.heap.size w w'->nW (l.map pl) w (.returned (.tuple #[.slice none 0 0,.int .i64 12])) w' from fun h w' hb=>nW.no h hb);have gQ:=kp (show ∀v l' w',ki [] (l.map pl)=some (l'.map pl)->cT w' w.heap.size v l'->jK w.heap.size l'->Below w.heap.size w w'->nW (l.map pl) w (.returned (.tuple #[v,.int .i64 0])) w' from fun v l' w' h h2 h3 hb=>nW.yes h rfl h2 h3 hb);have Hr:=kp hr;have Hk:=kp hk;have BK:=kp zB;have HC:=kp EJ;have Bv:=kp M1;have HJ:=kp QX;obtain ⟨i0,cG,cI,cH,cJ⟩:=info_parts EO;clear hr hk zB;generalize hQ:nW (l.map pl) w=Q at *;clear hQ;obtain ⟨n,hN⟩:∃n,l.length=n:=⟨_,rfl⟩
 rw [hN] at hn ⊢;have Hn:=kp hN;clear hN;go_enter Tryz.func26,Tryz.ntmps26;go_wp2_with fail
 go_loopw [4,12] (fun v4 kq wr=>∃ (k:Nat) (out:List Fa) (A':OA) (c':Nat),k<=n/\kq = .int .i64 k/\v4 = .slice A' out.length c'/\out.length<=k/\ki [] (l.map pl)=ki (out.map pl) ((l.drop k).map pl)/\(∀f∈out,eX f.ag)/\(∀f∈out,f.keys.length<=1000000)/\cT wr w.heap.size (.slice A' out.length c') out/\Below w.heap.size w wr) (fun _ kq _=>n-(intOf kq).toNat)
 case atStart=>exact ⟨0,[],none,0,aZ _,rfl,rfl,ah _,rfl,(fun f hf=>by cases hf),(fun f hf=>by cases hf),⟨gL _ _ _ _,(fun f hf=>by cases hf)⟩,aq _ _⟩
 case round =>
  obtain ⟨k,out,A',c',hk,rfl,rfl,BL,hfo,hof,db,aE,aC⟩:=hrel;have wM:=kp hfo;have G6:=kp hof;have eP:=kp db;have bF:=kp aE;have ai:=kp aC;clear hfo hof db aE aC;by_cases ae:k<n
  .have aA:k<l.length:=by rw [Hn.o];exact ae
   have ie:=(Hr.o.below ai.o).more ai.o.size;obtain ⟨b,off,rfl,hb,c0,c1,c2,c3,c4,c5,c6,c7,c8,c9,iw⟩:=ie.cells k aA;have hf:=ie.keys _ (gM aA)
   have Hkb:=kp (show ∀b off,(l[k]'aA).A=some ⟨b,off,none⟩->aP (l[k]'aA).keys≠[]->b<w.heap.size from fun b off e av=>by
    rcases Hr.o.keys _ (gM aA) with h | ⟨b',jy,e',jc,_⟩
    .exact absurd h av
    .rw [e] at e';injection e' with e';injection e' with e1;omega)
   have Ka:=kp (show (l.drop k).map pl=pl (l[k]'aA)::(l.drop (k+1)).map pl by rw [drop_eq_getElem_cons aA];rfl);have qf:=Hk.o _ (gM aA);have wK:=kp (BK.o _ (gM aA));generalize (l[k]'aA)=f at *;have cS:=(aq wr.heap.size wr).alloc (ah _) (.cells (eB f) 56);have iH:=kp (aa.new wr 56 (eB f));have aF:=aR ai cS;have fK:=kp (bF.o.below cS);have Hf:=kp ((hf.below cS).more cS.size);clear ie hf cS;have dz:(0:Int)<=(k:Int):=by omega
   have df:(k:Int)<(n:Int):=by omega
   go_upto_region 5 with fail
   clear c0 c1 c2 c3 c4 c5 c6 c7 c8 c9 iw;generalize sS:wr.heap.size=gF at *;have zp:=kp sS;clear sS;generalize wr.alloc (.cells (eB f) 56)=W2 at *;obtain ⟨a0,a1,a2,a3,a4,a5,a6,a7,a8,a9,dS⟩:=aa.sH iH.o;have NT:=kp (show dx W2 (.slice A' out.length c') f from ⟨Hf.o,fun b off e av ho=>by have h1:=(fK.o.1.lt b ho).1;have h2:=Hkb.o b off e av;omega⟩);have G7:=kp fK.o.1;have G8:=kp fK.o.2;have xQ:=kp (show ∀o:List Fa,uN (out.map pl) (pl f)=some (o.map pl)->ki [] (l.map pl)=ki (o.map pl) ((l.drop (k+1)).map pl) from fun o h=>by rw [wM.o,Ka.o,ki,h];rfl);have HNn:=kp (show uN (out.map pl) (pl f)=none->ki [] (l.map pl)=none from fun h=>by rw [wM.o,Ka.o,ki,h];rfl);have Kb:=kp qf;obtain ⟨m,hm⟩:∃m,out.length=m:=⟨_,rfl⟩
   have Hm:=kp hm;rw [hm] at BL NT G7 G8 bF ⊢;have dg:m+1<1048576*64:=by omega
   clear hm;by_cases h0:out=[]
   .have zf:m=0:=by have:=Hm.o;rw [h0] at this;exact this.symm
    have en:=kp (show uN (out.map pl) (pl f)=some ((out++[f]).map pl) by rw [h0];rfl);have Nf:((m:Int) == 0)=true:=by rw [zf];rfl
    clear zf h0;go_wp2_with fail;refine wp_region_noPanic ?_;refine dt (t:=99) (S:=(fun _=>True)) (by kernel_rfl) trivial (fun ad => ?_);refine mX 0 1 2 ad ?_;refine sk 3 ad ?_;refine sk 4 ad ?_;refine sk 5 ad ?_;refine sk 6 ad ?_;refine sk 7 ad ?_;refine sk 8 ad ?_;refine sk 9 ad ?_;refine sk 10 ad ?_;refine tk 11 ad ?_;refine dY (by kernel_rfl) ?_ _
    try clear ad
    refine NoPanic.normal ?_;have jN:=kp (show W2.drew.ownsRow w.heap.size 56 11 (.slice A' m c') m (out.flatMap fG) from G7.o);have Bp:=kp (show ∀x∈out,dx W2.drew (.slice A' m c') x from fun x hx=>G8.o x hx);have aco:=kp (show dx W2.drew (.slice A' m c') f from NT.o);have qS:=kp aF.o.drew;have dD:=aa.sH (show aa W2.drew gF _ _ from iH.o);generalize W2.drew=wx at *
    go_wp2_with (at_builtin;refine vG rfl (.tmp 30) (.tmp 32) 30 rfl w.heap.size 56 i0 _ 11 104 Tryz.underlying30 cG cI cH cJ rfl (by decide) wx (eB f) rfl (CA _) (.slice A' m c') m (out.flatMap fG) rfl jN.o rfl dg (by decide) qS.o.size ?_;intro v5 w5 aY bV;obtain ⟨A5,c5,h5⟩:=eM aY;subst h5;have cP:=kp aY;have bZ:=kp (bV.mO qS.o jN.o (ah _) qS.o.size);have iU:=kp (show ∀x∈out++[f],dx w5 (.slice A5 (m+1) c5) x from fun x hx=>by (rcases mem_append.1 hx with hx | hx;exact (Bp.o x hx).app bV;rw [mem_singleton.1 hx];exact aco.o.app bV));clear aY bV)
    refine ⟨⟨k+1,out++[f],A5,c5,by omega,by go_num,by rw [aS,Hm.o];rfl,by rw [aS,Hm.o];simp;omega,xQ.o _ en.o,?_,?_,⟨?_,?_⟩,bZ.o⟩,by simp [intOf];omega⟩
    .intro x hx;rcases mem_append.1 hx with hx | hx
     .exact G6.o x hx
     .rw [mem_singleton.1 hx];exact wK.o
    .intro x hx;rcases mem_append.1 hx with hx | hx
     .exact eP.o x hx
     .rw [mem_singleton.1 hx];exact Kb.o
    .rw [aS,Hm.o,flatMap_append];exact cP.o
    .rw [aS,Hm.o];exact iU.o
   .obtain ⟨P,p,rfl⟩:∃P p,out=P++[p]:=⟨out.dropLast,out.getLast h0,(dropLast_concat_getLast h0).symm⟩
    clear h0;obtain ⟨g,rfl,Dn,qi⟩:=bF.o.addr (by simp);have Dp:=(G8.o p (by simp)).1;have ee:=kp (show Calls Tryz.prog 64 #[.agg (eB p),.agg (eB f)] W2.drew _ from Bv.o p f W2.drew (eP.o p (by simp)) Kb.o Dp Hf.o);have NU:=aab (P.map pl) (pl p) (pl f);have pU:g<W2.heap.size:=(G7.o.lt g rfl).2;have Dq:gF<W2.heap.size:=iH.o.lt;have hmq:m=P.length+1:=by rw [<-Hm.o];simp
    have Hw2:=kp (show cT W2 w.heap.size (.slice (some ⟨g,0,none⟩) m c') (P++[p]) from ⟨by rw [Hm.o];exact G7.o,G8.o⟩);obtain ⟨p0,p1,p2,p3,p4,p5,p6,p7,p8,p9,nJ⟩:=cT.mN (P:=P) (s:=p) (R:=[]) (w:=W2.drew) Hw2.o;obtain ⟨q,hq⟩:∃q,P.length=q:=⟨_,rfl⟩
    rw [hq] at p0 p1 p2 p3 p4 p5 p6 p7 p8 p9 nJ hmq;have Hq:=kp hq;subst hmq;clear hq Dp bF;have sR:IntKind.i64.wrap (q:Int)=(q:Int):=IntWalk.i64_in _ (by omega);have uf:(0:Int)<=(q:Int):=by omega
    have sQ:(q:Int)<(q:Int)+1:=by omega
    have Nf:((((q+1:Nat)):Int) == 0)=false:=by simp;omega
    have aeL:(((q:Int)+1) == 0)=false:=by simp;omega
    by_cases hV:bP p.keys f.keys=0
    .have ND:(bP p.keys f.keys == 0)=true:=by rw [hV];rfl
     have wN:=kp (show uN ((P++[p]).map pl) (pl f)=(bY p.ag f.ag).map fun j=>P.map pl++[(p.keys,j)] by rw [map_append];exact NU.trans (if_pos hV));clear hV NU;generalize bP p.keys f.keys=V at *;go_wp2_with fail;refine wp_region_noPanic ?_;refine dt (t:=99) (S:=(fun w'=>(cF w' g (q*11) p)/\(kF w' gF f))) (by kernel_rfl) ⟨⟨p0,p1,p2,p3,p4,p5,p6,p7,p8,p9,nJ⟩,⟨a0,a1,a2,a3,a4,a5,a6,a7,a8,a9,dS⟩⟩ (fun ad => ?_);refine tD 0 1 2 3 ad ?_;refine tD 4 5 6 7 ad ?_;refine tk 8 ad ?_;refine oT 9 fun K hK=>?_
     go_simp
     refine ee.o.mono ?_;rintro e wc ⟨rfl,nF⟩;have gg:=kp nF;clear nF;refine oK hK ?_ fun af=>?_
     .have e1:∀i,wc.cell? ⟨g,i,none⟩=W2.drew.cell? ⟨g,i,none⟩:=fun i=>cZ (a:=⟨g,i,none⟩) (by rw [gg.o];exact (Below.heap_alloc _ _ _ (by simp;omega)).trans (Below.heap_alloc _ _ _ pU))
      have e2:∀i,wc.cell? ⟨gF,i,none⟩=W2.drew.cell? ⟨gF,i,none⟩:=fun i=>cZ (a:=⟨gF,i,none⟩) (by rw [gg.o];exact (Below.heap_alloc _ _ _ (by simp;omega)).trans (Below.heap_alloc _ _ _ Dq))
      (try dsimp only [cA,oQ]);(try dsimp only [cF,kF]);(try dsimp only [cC,nV,cN,jU]);simp only [e1,e2];exact ⟨⟨p0,p1,p2,p3,p4,p5,p6,p7,p8,p9,nJ⟩,⟨a0,a1,a2,a3,a4,a5,a6,a7,a8,a9,dS⟩⟩
     replace ad:=af;clear hK K af;refine tB 10 11 ad ?_;refine dY (by kernel_rfl) ?_ _
     try clear ad
     refine NoPanic.normal ?_;have cU:=(show Below W2.drew.heap.size W2.drew wc by rw [gg.o];exact ((aq _ _).alloc (ah _) _).alloc (by simp) _)
     have ou:=kp (show wc.ownsRow w.heap.size 56 11 (.slice (some ⟨g,0,none⟩) (q+1) c') (q+1) ((P++[p]).flatMap fG) from eV (w:=W2.drew) G7.o cU);have Kc:=kp (show ∀x∈P++[p],dx wc (.slice (some ⟨g,0,none⟩) (q+1) c') x from fun x hx=>dx.below (w:=W2.drew) (G8.o x hx) cU);have a1V:=kp (show dx wc (.slice (some ⟨g,0,none⟩) (q+1) c') f from dx.below (w:=W2.drew) NT.o cU);have wD:=kp (aa.under (w:=W2.drew) iH.o cU);have iI:=kp (aF.o.drew.trans (cU.mono aF.o.size));clear cU p0 p1 p2 p3 p4 p5 p6 p7 p8 p9 nJ a0 a1 a2 a3 a4 a5 a6 a7 a8 a9 dS;obtain ⟨a0,a1,a2,a3,a4,a5,a6,a7,a8,a9,dS⟩:=aa.sH wD.o;go_wp2_with fail;have gg:=kp (show cT wc w.heap.size (.slice (some ⟨g,0,none⟩) (q+1) c') (P++[p]) from ⟨by have:=ou.o;rw [show (P++[p]).length=q+1 by rw [<-Hq.o];simp];exact this,Kc.o⟩);have G9:g<wc.heap.size:=(ou.o.lt g rfl).2;have Ga:gF<wc.heap.size:=wD.o.lt;obtain ⟨p0,p1,p2,p3,p4,p5,p6,p7,p8,p9,nJ⟩:=cT.mN (P:=P) (s:=p) (R:=[]) (w:=wc) gg.o;rw [Hq.o] at p0 p1 p2 p3 p4 p5 p6 p7 p8 p9 nJ;have DC:=kp (show ∀w,Calls Tryz.prog 65 #[.agg (bj p.ag),.agg (bj f.ag)] w (fun e w'=>e = .returned (.tuple #[.agg (bj ((bY p.ag f.ag).getD aO)),.bool (bY p.ag f.ag).isSome])/\Below w.heap.size w w') from fun w=>HJ.o p.ag f.ag w (G6.o p (by simp)) wK.o);have NV:=kp (fun j (h:bY p.ag f.ag=some j)=>Mu (G6.o p (by simp)) wK.o h);generalize bY p.ag f.ag=o at *;go_wp2_with fail;refine wp_region_noPanic ?_;refine dt (t:=99) (S:=(fun w'=>(w'.cell? ⟨g,q*11+1,none⟩=some (.int .i64 p.ag.c)/\w'.cell? ⟨g,q*11+2,none⟩=some (.int .i64 p.ag.s0)/\w'.cell? ⟨g,q*11+3,none⟩=some (.int .i64 p.ag.n0)/\w'.cell? ⟨g,q*11+4,none⟩=some (.int .i64 p.ag.x0)/\w'.cell? ⟨g,q*11+5,none⟩=some (.int .i64 p.ag.s1)/\w'.cell? ⟨g,q*11+6,none⟩=some (.int .i64 p.ag.n1)/\w'.cell? ⟨g,q*11+7,none⟩=some (.int .i64 p.ag.x1)/\w'.cell? ⟨g,q*11+8,none⟩=some (.int .i64 p.ag.s2)/\w'.cell? ⟨g,q*11+9,none⟩=some (.int .i64 p.ag.n2)/\w'.cell? ⟨g,q*11+10,none⟩=some (.int .i64 p.ag.x2))/\(w'.cell? ⟨gF,1,none⟩=some (.int .i64 f.ag.c)/\w'.cell? ⟨gF,2,none⟩=some (.int .i64 f.ag.s0)/\w'.cell? ⟨gF,3,none⟩=some (.int .i64 f.ag.n0)/\w'.cell? ⟨gF,4,none⟩=some (.int .i64 f.ag.x0)/\w'.cell? ⟨gF,5,none⟩=some (.int .i64 f.ag.s1)/\w'.cell? ⟨gF,6,none⟩=some (.int .i64 f.ag.n1)/\w'.cell? ⟨gF,7,none⟩=some (.int .i64 f.ag.x1)/\w'.cell? ⟨gF,8,none⟩=some (.int .i64 f.ag.s2)/\w'.cell? ⟨gF,9,none⟩=some (.int .i64 f.ag.n2)/\w'.cell? ⟨gF,10,none⟩=some (.int .i64 f.ag.x2)))) (by kernel_rfl) ⟨⟨p1,p2,p3,p4,p5,p6,p7,p8,p9,nJ⟩,⟨a1,a2,a3,a4,a5,a6,a7,a8,a9,dS⟩⟩ (fun ad => ?_);refine tD 0 1 2 3 ad ?_;refine tD 4 5 6 7 ad ?_;refine aaq (i:=8) (j:=12) (o := ?os8) (o' := ?os12) (by kernel_rfl) ?as8 ?as12 (by decide) (by decide) (fun K hK => ?bs8) (fun K hK => ?bs12)
     case as8=>(simp only [getElem?_toArray,getElem?_cons_succ,getElem?_cons_zero];exact rfl)
     case as12=>(simp only [getElem?_toArray,getElem?_cons_succ,getElem?_cons_zero];exact rfl)
     case bs8 =>
      go_simp
      refine (DC.o _).mono ?_;rintro e w3 ⟨rfl,aN⟩;have bC:=kp aN;clear aN;refine oK hK ?_ fun af=>?_
      .exact ⟨sx (bC.o.block g G9) ad.1,sx (o:=0) (bC.o.block gF Ga) ad.2⟩
      replace ad:=af;clear hK K af;have SY:g<w3.heap.size:=dL G9 bC.o.size;have SZ:gF<w3.heap.size:=dL Ga bC.o.size;refine mX 9 10 11 ad ?_;refine oT 12 fun K hK=>?_
      go_simp
      refine oK hK ?_ fun af=>?_
      .exact ⟨sx (Below.heap_alloc _ _ _ SY) ad.1,sx (o:=0) (Below.heap_alloc _ _ _ SZ) ad.2⟩
      replace ad:=af;clear hK K af;have hx:_/\_:=⟨sx (bC.o.block g G9) ⟨p1,p2,p3,p4,p5,p6,p7,p8,p9,nJ⟩,sx (o:=0) (bC.o.block gF Ga) ⟨a1,a2,a3,a4,a5,a6,a7,a8,a9,dS⟩⟩
      refine oT 13 fun K hK=>?_
      go_simp
      refine oK hK ?_ fun af=>?_
      .exact ⟨sx (Below.heap_alloc _ _ _ SY) hx.1,sx (o:=0) (Below.heap_alloc _ _ _ SZ) hx.2⟩
      replace ad:=af;clear hK K af;refine tk 14 ad ?_;refine dY (by kernel_rfl) ?_ _
      try clear ad
      refine NoPanic.normal ?_;have cq:=(aq w3.heap.size w3).alloc (ah _) (.cells (bj (o.getD aO)) 54);have fk:=kp (aa.new w3 54 (bj (o.getD aO)));have BM:=kp ((cT.below (w:=wc.drew) gg.o bC.o).below cq);have kr:=kp (iI.o.drew.trans ((bC.o.mono iI.o.size).trans (cq.mono (aT iI.o.size bC.o.size))));clear cq bC SY SZ;generalize w3.heap.size=g8 at *;generalize w3.alloc (.cells (bj (o.getD aO)) 54)=w4 at *;clear ou Kc wD iI gg G9 Ga p0 p1 p2 p3 p4 p5 p6 p7 p8 p9 nJ a0 a1 a2 a3 a4 a5 a6 a7 a8 a9 dS;rcases o with _ | jj
      .have kn:=kp (ub.o (HNn.o wN.o) w4 kr.o);simp only [Option.getD_none,Option.isSome_none];go_wp2_with fail;exact kn.o
      .have en:=kp (show uN ((P++[p]).map pl) (pl f)=some ((P++[(⟨p.A,p.keys,p.c,jj⟩:Fa)]).map pl) by rw [wN.o,map_append];rfl);have ph:=kp (cT.ru (P:=P) (s:=p) (R:=[]) BM.o jj);have qZ:=kp (ZR (o:=P.length*11) jj kr.o Dn);rw [Hq.o] at ph qZ;obtain ⟨p0,p1,p2,p3,p4,p5,p6,p7,p8,p9,nJ⟩:=cT.mN (P:=P) (s:=p) (R:=[]) (w:=w4) BM.o;rw [Hq.o] at p0 p1 p2 p3 p4 p5 p6 p7 p8 p9 nJ;have zD:=BM.o.Iw q;have jD:=(aa.eS (show aa w4 g8 54 (bj jj) from fk.o)).1;simp only [Option.getD_some,Option.isSome_some];go_wp2_with fail;refine ⟨⟨k+1,P++[(⟨p.A,p.keys,p.c,jj⟩:Fa)],some ⟨g,0,none⟩,c',by omega,by go_num,by rw [aS,Hq.o];rfl,by rw [aS,Hq.o];simp;omega,xQ.o _ en.o,?_,?_,?_,qZ.o⟩,by simp [intOf];omega⟩
       .intro x hx;rcases mem_append.1 hx with hx | hx
        .exact G6.o x (mem_append_left _ hx)
        .rw [mem_singleton.1 hx];exact NV.o jj rfl
       .intro x hx;rcases mem_append.1 hx with hx | hx
        .exact eP.o x (mem_append_left _ hx)
        .rw [mem_singleton.1 hx];exact eP.o p (mem_append_right _ mem_cons_self)
       .have:=ph.o;rw [show (P++[(⟨p.A,p.keys,p.c,jj⟩:Fa)]).length=q+1 by rw [<-Hq.o];simp];exact this
     case bs12 =>
      go_simp
      refine oK hK ?_ fun af=>?_
      .exact ⟨sx (Below.heap_alloc _ _ _ G9) ad.1,sx (o:=0) (Below.heap_alloc _ _ _ Ga) ad.2⟩
      replace ad:=af;clear hK K af;have dv:wc.drew.heap.size=wc.heap.size:=rfl;have wJ:=(aq wc.drew.heap.size wc.drew).alloc (ah _) (.cells (bj aO) 54);have oD:=kp (aa.new wc.drew 54 (bj aO));have Gb:=kp wJ;clear wJ;have a1W:g<(wc.drew.alloc (.cells (bj aO) 54)).heap.size:=by simp;omega
      have a1X:gF<(wc.drew.alloc (.cells (bj aO) 54)).heap.size:=by simp;omega
      refine oT 8 fun K hK=>?_
      go_simp
      refine (DC.o _).mono ?_;rintro e w3 ⟨rfl,aN⟩;have bC:=kp (show Below (wc.drew.alloc (.cells (bj aO) 54)).heap.size (wc.drew.alloc (.cells (bj aO) 54)) w3 from aN);clear aN;refine oK hK ?_ fun af=>?_
      .exact ⟨sx (bC.o.block g a1W) ad.1,sx (o:=0) (bC.o.block gF a1X) ad.2⟩
      replace ad:=af;clear hK K af;have bM:=kp (oD.o.under bC.o);have a1Y:=kp (Gb.o.trans (bC.o.mono (by simp)));have zE:w.heap.size<=wc.drew.heap.size:=iI.o.size;have hx:=ad;have a1Z:g≠wc.drew.heap.size:=by omega
      have a1':gF≠wc.drew.heap.size:=by omega
      obtain ⟨yD,fD⟩:=aa.eS bM.o;have hy:wc.drew.heap.size=wc.heap.size:=rfl;rw [hy] at yD fD;refine mX 9 10 11 ad ?_;refine oT 13 fun K hK=>?_
      go_simp
      refine oK hK ?_ fun af=>?_
      .exact ⟨sx (a1k a1Z) hx.1,sx (o:=0) (a1k a1') hx.2⟩
      replace ad:=af;clear hK K af;refine tk 14 ad ?_;refine dY (by kernel_rfl) ?_ _
      try clear ad
      refine NoPanic.normal ?_;have cq:Below wc.drew.heap.size wc.drew _:=Below.vF (.int .i64 (o.getD aO).c) (.int .i64 (o.getD aO).s0) (.int .i64 (o.getD aO).n0) (.int .i64 (o.getD aO).x0) (.int .i64 (o.getD aO).s1) (.int .i64 (o.getD aO).n1) (.int .i64 (o.getD aO).x1) (.int .i64 (o.getD aO).s2) (.int .i64 (o.getD aO).n2) (.int .i64 (o.getD aO).x2) a1Y.o (ah wc.drew.heap.size);have fk:=kp (show aa _ wc.heap.size 54 (bj (o.getD aO)) from aa.vF (.int .i64 (o.getD aO).c) (.int .i64 (o.getD aO).s0) (.int .i64 (o.getD aO).n0) (.int .i64 (o.getD aO).x0) (.int .i64 (o.getD aO).s1) (.int .i64 (o.getD aO).n1) (.int .i64 (o.getD aO).x1) (.int .i64 (o.getD aO).s2) (.int .i64 (o.getD aO).n2) (.int .i64 (o.getD aO).x2) bM.o);have BM:=kp (cT.below (w:=wc.drew) gg.o cq);have kr:=kp (iI.o.drew.trans (cq.mono iI.o.size));clear cq bC a1W a1X Gb oD bM a1Y zE hx a1Z a1' yD fD hy dv;have hy:wc.drew.heap.size=wc.heap.size:=rfl;rw [hy] at BM kr;clear hy;generalize zE:wc.heap.size=g8 at *;clear zE;generalize ((((((((((w3.setCell ⟨g8,0,none⟩ (.int .i64 (o.getD aO).c)).setCell ⟨g8,1,none⟩ (.int .i64 (o.getD aO).s0)).setCell ⟨g8,2,none⟩ (.int .i64 (o.getD aO).n0)).setCell ⟨g8,3,none⟩ (.int .i64 (o.getD aO).x0)).setCell ⟨g8,4,none⟩ (.int .i64 (o.getD aO).s1)).setCell ⟨g8,5,none⟩ (.int .i64 (o.getD aO).n1)).setCell ⟨g8,6,none⟩ (.int .i64 (o.getD aO).x1)).setCell ⟨g8,7,none⟩ (.int .i64 (o.getD aO).s2)).setCell ⟨g8,8,none⟩ (.int .i64 (o.getD aO).n2)).setCell ⟨g8,9,none⟩ (.int .i64 (o.getD aO).x2))=w4 at *;clear ou Kc wD iI gg G9 Ga p0 p1 p2 p3 p4 p5 p6 p7 p8 p9 nJ a0 a1 a2 a3 a4 a5 a6 a7 a8 a9 dS;rcases o with _ | jj
      .have kn:=kp (ub.o (HNn.o wN.o) w4 kr.o);simp only [Option.getD_none,Option.isSome_none];go_wp2_with fail;exact kn.o
      .have en:=kp (show uN ((P++[p]).map pl) (pl f)=some ((P++[(⟨p.A,p.keys,p.c,jj⟩:Fa)]).map pl) by rw [wN.o,map_append];rfl);have ph:=kp (cT.ru (P:=P) (s:=p) (R:=[]) BM.o jj);have qZ:=kp (ZR (o:=P.length*11) jj kr.o Dn);rw [Hq.o] at ph qZ;obtain ⟨p0,p1,p2,p3,p4,p5,p6,p7,p8,p9,nJ⟩:=cT.mN (P:=P) (s:=p) (R:=[]) (w:=w4) BM.o;rw [Hq.o] at p0 p1 p2 p3 p4 p5 p6 p7 p8 p9 nJ;have zD:=BM.o.Iw q;have jD:=(aa.eS (show aa w4 g8 54 (bj jj) from fk.o)).1;simp only [Option.getD_some,Option.isSome_some];go_wp2_with fail;refine ⟨⟨k+1,P++[(⟨p.A,p.keys,p.c,jj⟩:Fa)],some ⟨g,0,none⟩,c',by omega,by go_num,by rw [aS,Hq.o];rfl,by rw [aS,Hq.o];simp;omega,xQ.o _ en.o,?_,?_,?_,qZ.o⟩,by simp [intOf];omega⟩
       .intro x hx;rcases mem_append.1 hx with hx | hx
        .exact G6.o x (mem_append_left _ hx)
        .rw [mem_singleton.1 hx];exact NV.o jj rfl
       .intro x hx;rcases mem_append.1 hx with hx | hx
        .exact eP.o x (mem_append_left _ hx)
        .rw [mem_singleton.1 hx];exact eP.o p (mem_append_right _ mem_cons_self)
       .have:=ph.o;rw [show (P++[(⟨p.A,p.keys,p.c,jj⟩:Fa)]).length=q+1 by rw [<-Hq.o];simp];exact this
    .have ND:(bP p.keys f.keys == 0)=false:=by simp;exact hV
     have en:=kp (show uN ((P++[p]).map pl) (pl f)=some ((P++[p]++[f]).map pl) by rw [map_append,map_append,map_append];exact NU.trans (if_neg hV));clear hV NU;generalize bP p.keys f.keys=V at *;go_wp2_with fail;refine wp_region_noPanic ?_;refine dt (t:=99) (S:=(fun w'=>(cF w' g (q*11) p)/\(kF w' gF f))) (by kernel_rfl) ⟨⟨p0,p1,p2,p3,p4,p5,p6,p7,p8,p9,nJ⟩,⟨a0,a1,a2,a3,a4,a5,a6,a7,a8,a9,dS⟩⟩ (fun ad => ?_);refine tD 0 1 2 3 ad ?_;refine tD 4 5 6 7 ad ?_;refine tk 8 ad ?_;refine oT 9 fun K hK=>?_
     go_simp
     refine ee.o.mono ?_;rintro e wc ⟨rfl,nF⟩;have gg:=kp nF;clear nF;refine oK hK ?_ fun af=>?_
     .have e1:∀i,wc.cell? ⟨g,i,none⟩=W2.drew.cell? ⟨g,i,none⟩:=fun i=>cZ (a:=⟨g,i,none⟩) (by rw [gg.o];exact (Below.heap_alloc _ _ _ (by simp;omega)).trans (Below.heap_alloc _ _ _ pU))
      have e2:∀i,wc.cell? ⟨gF,i,none⟩=W2.drew.cell? ⟨gF,i,none⟩:=fun i=>cZ (a:=⟨gF,i,none⟩) (by rw [gg.o];exact (Below.heap_alloc _ _ _ (by simp;omega)).trans (Below.heap_alloc _ _ _ Dq))
      (try dsimp only [cA,oQ]);(try dsimp only [cF,kF]);(try dsimp only [cC,nV,cN,jU]);simp only [e1,e2];exact ⟨⟨p0,p1,p2,p3,p4,p5,p6,p7,p8,p9,nJ⟩,⟨a0,a1,a2,a3,a4,a5,a6,a7,a8,a9,dS⟩⟩
     replace ad:=af;clear hK K af;refine tB 10 11 ad ?_;refine dY (by kernel_rfl) ?_ _
     try clear ad
     refine NoPanic.normal ?_;have cU:=(show Below W2.drew.heap.size W2.drew wc by rw [gg.o];exact ((aq _ _).alloc (ah _) _).alloc (by simp) _)
     have ou:=kp (show wc.ownsRow w.heap.size 56 11 (.slice (some ⟨g,0,none⟩) (q+1) c') (q+1) ((P++[p]).flatMap fG) from eV (w:=W2.drew) G7.o cU);have Kc:=kp (show ∀x∈P++[p],dx wc (.slice (some ⟨g,0,none⟩) (q+1) c') x from fun x hx=>dx.below (w:=W2.drew) (G8.o x hx) cU);have a1V:=kp (show dx wc (.slice (some ⟨g,0,none⟩) (q+1) c') f from dx.below (w:=W2.drew) NT.o cU);have wD:=kp (aa.under (w:=W2.drew) iH.o cU);have iI:=kp (aF.o.drew.trans (cU.mono aF.o.size));clear cU p0 p1 p2 p3 p4 p5 p6 p7 p8 p9 nJ a0 a1 a2 a3 a4 a5 a6 a7 a8 a9 dS;obtain ⟨a0,a1,a2,a3,a4,a5,a6,a7,a8,a9,dS⟩:=aa.sH wD.o
     go_wp2_with (at_builtin;refine vG rfl (.tmp 30) (.tmp 32) 30 rfl w.heap.size 56 i0 _ 11 104 Tryz.underlying30 cG cI cH cJ rfl (by decide) wc (eB f) rfl (CA _) (.slice (some ⟨g,0,none⟩) (q+1) c') (q+1) ((P++[p]).flatMap fG) rfl ou.o rfl dg (by decide) iI.o.size ?_;intro v5 w5 aY bV;obtain ⟨A5,c5,h5⟩:=eM aY;subst h5;have cP:=kp aY;have bZ:=kp (bV.mO iI.o ou.o (ah _) iI.o.size);have iU:=kp (show ∀x∈P++[p]++[f],dx w5 (.slice A5 (q+1+1) c5) x from fun x hx=>by (rcases mem_append.1 hx with hx | hx;exact (Kc.o x hx).app bV;rw [mem_singleton.1 hx];exact a1V.o.app bV));clear aY bV)
     refine ⟨⟨k+1,P++[p]++[f],A5,c5,by omega,by go_num,by rw [aS,Hm.o];rfl,by rw [aS,Hm.o];simp;omega,xQ.o _ en.o,?_,?_,⟨?_,?_⟩,bZ.o⟩,by simp [intOf];omega⟩
     .intro x hx;rcases mem_append.1 hx with hx | hx
      .exact G6.o x hx
      .rw [mem_singleton.1 hx];exact wK.o
     .intro x hx;rcases mem_append.1 hx with hx | hx
      .exact eP.o x hx
      .rw [mem_singleton.1 hx];exact Kb.o
     .rw [aS,Hm.o,flatMap_append];exact cP.o
     .rw [aS,Hm.o];exact iU.o
  .obtain rfl:k=n:=by omega
   have bN:=kp (show ki [] (l.map pl)=some (out.map pl) by rw [wM.o,drop_of_length_le (by rw [Hn.o];exact ah _)];rfl);have ee:=kp (HC.o A' out c' wr (by omega) eP.o bF.o.uM);obtain ⟨m,hm⟩:∃m,out.length=m:=⟨_,rfl⟩
   rw [hm] at ee ⊢;clear hm bF;go_wp2_with fail;refine ee.o.mono ?_;rintro e w2 ⟨v2,l2,rfl,Bz,gz,qo,aH⟩;have Hq:=kp (gQ.o v2 l2 w2 (by rw [Bz];exact bN.o) ⟨nX gz.1 ai.o.size,gz.2⟩ (fun f hf b off h1 h2=>aT ai.o.size (qo f hf b off h1 h2)) (ai.o.trans (aH.mono ai.o.size)));clear Bz gz qo aH;go_wp2_with fail;exact Hq.o
theorem Xj {a:Int} (h:(Lit.int .i64 a).wf=true):fit a:=by
 have:=bounds_i64 h;unfold fit;exact ⟨by omega,by omega⟩
def xC (l:List (LN×Ag)):Prop:=l.Pairwise fun a b=>bP a.1 b.1<=0
theorem a8D {l:List Fa} (h:gU l):xC (l.map pl):=pairwise_map.2 h
def rI (s:aW) (rows:List Rw) (ps:List (LN×Ag)):Prop:=∃l:List Fa,uI s rows rows.length l/\aG l=ps
theorem yW {l:List Int} (h:∀x∈l,fit x) (i:Nat):fit (pv l i):=by
 unfold pv;rcases hx:l[i]? with _ | x
 .unfold fit;simp
 .exact h x (mem_of_getElem? hx)
theorem a01 {l:List Int} (h:∀x∈l,fit x):eX (iD l):=by
 have h1:fit 1:=by unfold fit;omega
 unfold iD lQ;rw [take_of_length_le (ah _)];exact ⟨h1,yW h 0,yW h 0,yW h 0,yW h 1,yW h 1,yW h 1,yW h 2,yW h 2,yW h 2⟩
def EY (B:Nat) (ps:List (LN×Ag)) (e:Ending) (w':World):Prop :=
 match ki [] ps with
 | none=>e = .returned (.tuple #[.slice none 0 0,.int .i64 12])
 | some qs=>∃ (v:Value) (l:List Fa),e = .returned (.tuple #[v,.int .i64 0])/\l.map pl=qs/\cT w' B v l/\jK B l
theorem nW.at_ {ps:List (LN×Ag)} {w w':World} {e:Ending} {B:Nat} (h:nW ps w e w') (hB:B<=w.heap.size):EY B ps e w'/\Below w.heap.size w w':=by
 unfold nW at h;unfold EY;cases hp:ki [] ps with
 | none=>simp only [hp] at h ⊢;exact h
 | some qs =>
  simp only [hp] at h ⊢;obtain ⟨v,l,h1,h2,h3,h4,h5⟩:=h;exact ⟨⟨v,l,h1,h2,⟨nX h3.1 hB,h3.2⟩,fun f hf b off e av=>aT hB (h4 f hf b off e av)⟩,h5⟩
theorem nW.form {ps:List (LN×Ag)} {w w':World} {e:Ending} (h:nW ps w e w'):∃ (v:Value) (n:Int),e = .returned (.tuple #[v,.int .i64 n]):=by
 unfold nW at h;cases hp:ki [] ps with
 | none=>simp only [hp] at h;exact ⟨_,_,h.1⟩
 | some qs =>
  simp only [hp] at h;obtain ⟨v,l,h1,h2,h3,h4,h5⟩:=h;exact ⟨_,_,h1⟩
def QW (s:aW) (rows:List Rw) (w:World) (e:Ending) (w':World):Prop:=∃ps qs,rI s rows ps/\qs.Perm ps/\xC qs/\EY w.heap.size qs e w'/\Below w.heap.size w w'
theorem XV (s:aW) (A:OA) (rows:List Rw) (c:Nat) (w:World) (h:gW w w.heap.size s) (hr:j6 w w.heap.size A rows) (ho:qI s rows) (hn:rows.length<=64) :
 Calls Tryz.prog 8 #[.agg (cj s),.slice A rows.length c] w (QW s rows w):=by
 have gQ:=kp (show ∀ps qs e w',rI s rows ps->qs.Perm ps->xC qs->EY w.heap.size qs e w'->Below w.heap.size w w'->QW s rows w e w' from fun ps qs e w' h1 h2 h3 h4 h5=>⟨ps,qs,h1,h2,h3,h4,h5⟩);have au:=(aq w.heap.size w).alloc (ah _) (.cells (cj s) 25);have ay:=kp au;have HB:=kp (aa.new w 25 (cj s));have HF:=kp (a84 s A rows c (w.alloc (.cells (cj s) 25)) ((h.below au).more au.size) ((hr.below au).more au.size) ho);have HK:=kp a6T;have HFd:=kp a5T
 have BK:=kp (show ∀l:List Fa,uI s rows rows.length l->(∀f∈l,eX f.ag)/\∀f∈l,f.keys.length<=1000000 from fun l hl=>by
  have key:∀f∈l,∃r∈rows,ju s r f.keys/\f.ag=iD r.dP:=fun f hf=>by
   obtain ⟨i,hi,rfl⟩:=getElem_of_mem hf;have jd:i<rows.length:=by rw [<-hl.1];exact hi
   exact ⟨rows[i],gM jd,hl.2 i _ _ (gE jd) (gE hi)⟩
  refine ⟨fun f hf => ?_,fun f hf => ?_⟩
  .obtain ⟨r,jb,h1,h2⟩:=key f hf;rw [h2];exact a01 (fun x hx=>Xj ((hr.each r jb).wf x hx))
  .obtain ⟨r,jb,h1,h2⟩:=key f hf;have:=h1.n;have:=ho.eF.n2
   omega)
 clear h hr ho au;generalize hQ:QW s rows w=Q at *;clear hQ;obtain ⟨m,hm⟩:∃m,rows.length=m:=⟨_,rfl⟩
 have Hm:=kp hm;rw [hm] at HF hn ⊢;clear hm;unfold cj at HB ay HF ⊢;obtain ⟨z0,z1,_,_⟩:=HB.o.two;go_enter Tryz.func8,Tryz.ntmps8;go_wp2_with fail;refine HF.o.mono ?_;clear z0 z1 HF;generalize w.alloc (.cells #[.slice s.A s.ak.length s.c,.slice s.Am s.aU.length s.cm] 25)=W0 at *;rintro e w1 ⟨A1,c1,l1,rfl,br,fH,⟨iv,nI⟩,ax⟩;obtain ⟨DD,Nu⟩:=BK.o l1 fH;have iT:l1.length<=64:=by have:=fH.1;have:=Hm.o;omega
 have S':=kp (HK.o A1 l1 c1 w1 iT iv nI Nu br);have fU:=kp fH;have aM:=aR ay ax;have yb:=kp DD;have Hka:=kp Nu;clear br fH ax DD Nu;obtain ⟨n1,ej⟩:∃n1,l1.length=n1:=⟨_,rfl⟩
 rw [ej] at S' iv iT ⊢;clear ej;go_wp2_with fail;refine S'.o.mono ?_;rintro e w2 ⟨v2,l2,rfl,qu,iJ,gz,qo,aH⟩;obtain ⟨A2,c2,rfl⟩:=gz.form;have mu:∀f∈l2,∃f'∈l1,f'.keys=f.keys/\f'.ag=f.ag:=fun f hf=>by
  have h3:=qu.mem_iff.1 (mem_map_of_mem (f:=pl) hf);obtain ⟨f',gZ,e⟩:=mem_map.1 h3;exact ⟨f',gZ,congrArg Prod.fst e,congrArg Prod.snd e⟩
 have acp:l2.length<=64:=by
  have:=qu.length_eq;unfold aG at this;rw [lM,lM] at this;have h1:=fU.o.1;have h2:=Hm.o;omega
 have sM:=kp (HFd.o A2 l2 c2 w2 (by omega) (fun f hf=>by obtain ⟨f',gZ,e1,e2⟩:=mu f hf;rw [<-e1];exact Hka.o f' gZ) (fun f hf=>by obtain ⟨f',gZ,e1,e2⟩:=mu f hf;rw [<-e2];exact yb.o f' gZ) gz.uM);have aF:=aR aM aH;have bN:=kp (fun e w3 (h:nW (l2.map pl) w2 e w3)=>gQ.o (aG l1) (l2.map pl) e w3 ⟨l1,fU.o,rfl⟩ qu (a8D iJ) (h.at_ aF.o.size).1 (aF.o.trans ((h.at_ aF.o.size).2.mono aF.o.size)));clear qu iJ gz qo aH mu acp;obtain ⟨n2,eZ⟩:∃n2,l2.length=n2:=⟨_,rfl⟩
 rw [eZ] at sM ⊢;clear eZ;go_wp2_with fail;refine sM.o.mono ?_;intro e w3 h3;have H3:=kp (bN.o e w3 h3);obtain ⟨v3,n3,rfl⟩:=h3.form;clear h3;go_wp2_with fail;exact H3.o
def CM (t:jv) (i:Nat):Nat:=((t.up[i]?).getD 0).toNat
def iQ (d:cR):Nat->Nat->Nat
 | 0,i=>i
 | k+1,i=>match d.aw[k]? with
  | some t=>CM t (iQ d k i)
  | none=>0
theorem a89 (t:jv) (i:Nat) (w:World) (h:rH w w.heap.size t) (hi:i<t.up.length) (h0:0<=t.up[i]):Calls Tryz.prog 150 #[.agg (iz t),.int .i64 i] w fun e w'=>e = .returned (.int .i64 (CM t i))/\Below w.heap.size w w':=by
 have au:=(aq w.heap.size w).alloc (ah _) (.cells (iz t) 130);have ay:=kp au;have pj:=(h.below au).more au.size;obtain ⟨b,off,hA,hb,c0⟩:=Row.at_ pj.up (k:=i) (by rw [lM];exact hi);rw [getElem_map] at c0;have HV:=kp (show t.up[i]=(CM t i:Nat) by unfold CM;rw [gE hi];exact (Int.toNat_of_nonneg h0).symm);rw [HV.o] at c0;clear HV h0 au;generalize CM t i=V at *;have hn:=h.nu;unfold maxLen at hn;clear h pj;unfold iz at *;rw [hA] at c0 ay ⊢;generalize hN:t.up.length=n at *;have df:¬ (i:Int)<0:=by omega
 have Kd:decide ((i:Int)<0)=false:=decide_eq_false df;have jd:¬ (n:Int)<=(i:Int):=by omega
 have T0:decide ((n:Int)<=(i:Int))=false:=decide_eq_false jd;have tY:(0:Int)<=(i:Int):=by omega
 have va:(i:Int)<(n:Int):=by omega
 clear hA hN;go_enter Tryz.func150,Tryz.ntmps150;go_wp2_with fail;go_ret;exact ⟨rfl,ay.o⟩
theorem MC (d:cR) (k:Nat) (w:World) (hn:d.aw.length<=maxLen) (hk:k<d.aw.length):Calls Tryz.prog 117 #[.agg (ew d),.int .i64 k] w fun e w'=>e = .returned (.bool true)/\Below w.heap.size w w':=by
 have au:=(aq w.heap.size w).alloc (ah _) (.cells (ew d) 128);have ay:=kp au;unfold maxLen at hn;unfold ew at *;have df:(0:Int)<=(k:Int):=by omega
 have Kd:decide ((0:Int)<=(k:Int))=true:=decide_eq_true df;have jd:(k:Int)<(d.aw.length:Int):=by omega
 have T0:decide ((k:Int)<(d.aw.length:Int))=true:=decide_eq_true jd;clear au;generalize d.aw.length=n at *;go_enter Tryz.func117,Tryz.ntmps117;go_wp2_with fail;go_ret;exact ⟨rfl,ay.o⟩
theorem QL {d:cR} (h:nT d) {k:Nat} (hk:k+1<d.aw.length):(d.aw[k]'(by omega)).up.length=(d.aw[k]'(by omega)).aQ.length/\∀n∈(d.aw[k]'(by omega)).up,0<=n/\n<((d.aw[k+1]'hk).aQ.length:Int):=by
 have h1:=(h.aw k (by omega)).tree;have h2:=(h.aw (k+1) hk).n1;have e:ij d k=((d.aw[k+1]'hk).aQ.length:Nat):=by unfold ij;rw [gE hk]
 rw [e] at h1;exact ⟨h1.len (by omega),h1.up⟩
theorem Nb {d:cR} (h:nT d):∀ {k:Nat} (hk:k<d.aw.length) {i:Nat},i<(d.aw[0]'(by omega)).aQ.length->iQ d k i<(d.aw[k]'hk).aQ.length
 | 0,hk,i,hi=>hi
 | k+1,hk,i,hi=>by
  have h1:=Nb h (k:=k) (by omega) hi;obtain ⟨e,hu⟩:=QL h hk;rw [iQ,gE (by omega:k<d.aw.length)];dsimp only;unfold CM;rw [gE (by omega:iQ d k i<(d.aw[k]'(by omega)).up.length)];have:=hu _ (gM (by omega:iQ d k i<(d.aw[k]'(by omega)).up.length));simp only [Option.getD_some];omega
theorem aaX {d:cR} (h:nT d) {k:Nat} (hk:k+1<d.aw.length) {i:Nat} (hi:i<(d.aw[0]'(by omega)).aQ.length) :
 ∃hu:iQ d k i<(d.aw[k]'(by omega)).up.length,0<=(d.aw[k]'(by omega)).up[iQ d k i]/\iQ d (k+1) i=CM (d.aw[k]'(by omega)) (iQ d k i):=by
 have h1:=Nb h (k:=k) (by omega) hi;obtain ⟨e,hu⟩:=QL h hk;refine ⟨by omega,(hu _ (gM _)).1,?_⟩;rw [iQ,gE (by omega:k<d.aw.length)]
theorem aa0 (d:cR) (to i:Nat) (w:World) (h:mJ w w.heap.size d) (ho:nT d) (fH:to<d.aw.length) (hi:i<(d.aw[0]'(by omega)).aQ.length) :
 Calls Tryz.prog 118 #[.agg (ew d),.int .i64 0,.int .i64 to,.int .i64 i] w fun e w'=>e = .returned (.int .i64 (iQ d to i))/\Below w.heap.size w w':=by
 have hn:=h.n;have Ke:=kp (fun w=>MC d 0 w hn (by omega));have Kf:=kp (fun w=>MC d to w hn fH);have HO:=kp a89;have au:=(aq w.heap.size w).alloc (ah _) (.cells (ew d) 128);have HB:=kp (aa.new w 128 (ew d));have H0:=kp ((h.below au).more au.size);have ay:=kp au;have Hh:=kp h;have Ho:=kp ho;have fU:=kp fH;have Hi:=kp hi;have T1:=kp (fun (k:Nat) (qw:k+1<d.aw.length)=>aaX ho qw hi);have fw:=ho.n2;clear h ho au hi hn;generalize hQ:(fun (e:Ending) w'=>e = .returned (.int .i64 (iQ d to i))/\Below w.heap.size w w')=Q;have HQ:=kp (show ∀w',Below w.heap.size w w'->Q (.returned (.int .i64 (iQ d to i))) w' from fun w' hb=>by rw [<-hQ];exact ⟨rfl,hb⟩);clear hQ;unfold ew at Ke Kf HB H0 ay ⊢;obtain ⟨z0,z1,_,_⟩:=HB.o.two;go_enter Tryz.func118,Tryz.ntmps118;go_wp2_with fail;refine (Ke.o _).mono ?_;clear z0 z1;generalize w.alloc (.cells #[.string d.name,.slice d.A d.aw.length d.c] 128)=W0 at *;rintro e w1 ⟨rfl,ax⟩;have aM:=aR ay ax;have bL:=bu HB ax;have H1:=kp ((H0.o.below ax).more ax.size);clear ax;obtain ⟨z0,z1,_,_⟩:=bL.o.two;go_wp2_with fail;refine (Kf.o _).mono ?_;rintro e w2 ⟨rfl,aH⟩;have aF:=aR aM aH;have aV:=bu bL aH;have H2:=kp ((H1.o.below aH).more aH.size);clear aH z0 z1;obtain ⟨z0,z1,_,_⟩:=aV.o.two;obtain ⟨b,off,hA,hb,c0,c1,c2⟩:=H2.o.dm 0 (by omega);rw [Nat.zero_mul,Nat.add_zero] at c0 c1 c2;rw [hA] at z1;have Hi2:=kp hA;have df:¬ (to:Int)<0:=by omega
 have Kd:decide ((to:Int)<0)=false:=decide_eq_false df;have jd:¬ (i:Int)<0:=by omega
 have T0:decide ((i:Int)<0)=false:=decide_eq_false jd;have tY:=Hi.o;have va:¬ (((d.aw[0]'(by omega)).aQ.length:Nat):Int)<=(i:Int):=by omega
 have acq:decide ((((d.aw[0]'(by omega)).aQ.length:Nat):Int)<=(i:Int))=false:=decide_eq_false va;have Nj:(0:Int)<(d.aw.length:Int):=by omega
 have acr:decide ((d.aw[0]'(by omega)).aQ.length<=i)=false:=decide_eq_false (by omega);generalize (d.aw[0]'(by omega)).aQ.length=n0 at *;generalize (d.aw[0]'(by omega)).At=A0 at *;generalize (d.aw[0]'(by omega)).ct=k0 at *;go_wp2_with fail
 go_loopw [3,9] (fun v3 v9 wr=>∃k:Nat,k<=to/\v9 = .int .i64 k/\v3 = .int .i64 (iQ d k i)/\aa wr w.heap.size 128 #[.string d.name,.slice d.A d.aw.length d.c]/\Below w.heap.size w wr) (fun _ v9 _=>to-(intOf v9).toNat)
 case atStart=>exact ⟨0,aZ _,rfl,rfl,by have:=aV.o;rw [hA] at this ⊢;exact this,aF.o⟩
 case round =>
  clear z0 z1 c0 c1 c2 df Kd jd T0 va acq Nj tY hA hb acr;obtain ⟨k,hk,rfl,rfl,aJ,aC⟩:=hrel;have bO:=kp aJ;have ai:=kp aC;clear aJ aC;have BH:(0:Int)<=((iQ d k i:Nat):Int):=by omega
  have aeM:decide ((0:Int)<=((iQ d k i:Nat):Int))=true:=decide_eq_true BH;by_cases ae:k<to
  .have cz:(k:Int)<(to:Int):=by omega
   have qw:k+1<d.aw.length:=by have:=fU.o;omega
   have qf:k<d.aw.length:=Nat.lt_of_succ_lt qw;obtain ⟨hu,hu0,fh⟩:=T1.o k qw;have hd:=(Hh.o.below ai.o).more ai.o.size;obtain ⟨b,off,hA,hb,c0,c1,c2⟩:=hd.dm k qf;have pY:=kp (HO.o (d.aw[k]'qf) (iQ d k i) wr (hd.aw _ (gM qf)) hu hu0);unfold iz at pY;rw [<-fh] at pY;have df:(k:Int)<(d.aw.length:Int):=by omega
   have jd:(0:Int)<=(k:Int):=by omega
   obtain ⟨z0,z1,_,_⟩:=bO.o.two;rw [hA] at z1;clear hu hu0 fh hd hA;generalize iQ d k i=p at *;go_wp2_with fail;refine pY.o.mono ?_;rintro e w3 ⟨rfl,aN⟩;have bC:=aR ai aN;have bM:=bu bO aN;clear aN z0 z1 c0 c1 c2;go_wp2_with fail;exact ⟨⟨k+1,by omega,by go_num,rfl,bM.o,bC.o⟩,by simp [intOf];omega⟩
  .obtain rfl:k=to:=by omega
   have cz:¬ (k:Int)<(k:Int):=by omega
   have wL:¬ ((iQ d k i:Nat):Int) < -1:=by omega
   have Hf:=kp (HQ.o _ ai.o);generalize iQ d k i=p at *;go_wp2_with fail;exact Hf.o
def F7 (l:LN) (w:World) (e:Ending) (w':World):Prop:=∃v,e = .returned v/\w'.ownsRow w.heap.size 3 1 v l.length (aP l)/\Below w.heap.size w w'
def dK (d:cR):LN:=d.aw.map fun t=>t.aQ.length
theorem abk (d:cR) (w:World) (h:mJ w w.heap.size d) (fw:d.aw.length<=4):Calls Tryz.prog 70 #[.agg (ew d)] w (F7 (dK d) w):=by
 obtain ⟨i0,cG,cI,cH,cJ⟩:=info_parts vV;have au:=(aq w.heap.size w).alloc (ah _) (.cells (ew d) 128);have HB:=kp (aa.new w 128 (ew d));have ay:=kp au;have Hh:=kp h;have aX:(dK d).length=d.aw.length:=by unfold dK;simp
 have HQ:=kp (show ∀v w',w'.ownsRow w.heap.size 3 1 v d.aw.length (aP (dK d))->Below w.heap.size w w'->F7 (dK d) w (.returned v) w' from fun v w' h1 hb=>⟨v,rfl,by rw [aX];exact h1,hb⟩);clear h au aX;generalize hQ:F7 (dK d) w=Q at *;clear hQ;unfold ew at HB ay ⊢;obtain ⟨z0,z1,_,_⟩:=HB.o.two;obtain ⟨m,hm⟩:∃m,d.aw.length=m:=⟨_,rfl⟩
 have Hm:=kp hm;rw [hm] at z1 HQ fw HB ay ⊢;clear hm;go_enter Tryz.func70,Tryz.ntmps70;go_wp2_with fail;clear z0 z1;generalize w.alloc (.cells #[.string d.name,.slice d.A m d.c] 128)=W0 at *
 go_loopw [3,9] (fun v3 v9 wr=>∃ (k:Nat) (A:OA) (c:Nat),k<=m/\v9 = .int .i64 k/\v3 = .slice A k c/\wr.ownsRow w.heap.size 3 1 (.slice A k c) k (aP ((dK d).take k))/\Below w.heap.size w wr) (fun _ v9 _=>m-(intOf v9).toNat)
 case atStart=>exact ⟨0,none,0,aZ _,rfl,rfl,gL _ _ _ _,ay.o⟩
 case round =>
  obtain ⟨k,A,c,hk,rfl,rfl,aE,aC⟩:=hrel;have bF:=kp aE;have ai:=kp aC;clear aE aC;by_cases ae:k<m
  .have qw:k<d.aw.length:=by rw [Hm.o];exact ae
   obtain ⟨b,off,hA,hb,c0,c1,c2⟩:=((Hh.o.below ai.o).more ai.o.size).dm k qw;have cS:=(aq wr.heap.size wr).alloc (ah _) (.cells (iz (d.aw[k]'qw)) 130);have aF:=aR ai cS;have fI:=kp (eV bF.o cS);have o9:=kp (aT ai.o.size cS.size)
   have ue:=kp (show aP ((dK d).take (k+1))=aP ((dK d).take k)++[.int .i64 (((d.aw[k]'qw).aQ.length:Nat):Int)] by
    rw [take_succ_eq_append_getElem (by unfold dK;rw [lM];exact qw),CG];unfold dK
    rw [getElem_map])
   have zF:=kp (aa.new wr 130 (iz (d.aw[k]'qw)));unfold iz at cS aF fI o9 zF;have dz:(0:Int)<=(k:Int):=by omega
   have df:(k:Int)<(m:Int):=by omega
   have cz:k<1048576*64:=by omega
   rw [hA];clear cS hA;generalize (d.aw[k]'qw).aQ.length=q at *;generalize (d.aw[k]'qw).name=tn at *;generalize (d.aw[k]'qw).At=tA at *;generalize (d.aw[k]'qw).ct=tc at *;generalize (d.aw[k]'qw).Au=uA at *;generalize (d.aw[k]'qw).up.length=ul at *;generalize (d.aw[k]'qw).cu=uc at *;go_upto_region 5 with fail
   clear c0 c1 c2;have hz:=zF.o;generalize wr.alloc (.cells #[.string tn,.slice tA q tc,.slice uA ul uc] 130)=W2 at *;generalize wr.heap.size=gT at *;have y1:W2.cell? ⟨gT,1,none⟩=some (.slice tA q tc):=hz.cell 1;clear hz
   go_wp2_with (at_builtin;refine tE rfl (.tmp 13) (.tmp 17) 27 rfl w.heap.size 3 i0 (.int .i64 0) 8 Tryz.underlying27 cG cI cH cJ rfl W2 (.int .i64 (q:Int)) rfl (.slice A k c) k (aP ((dK d).take k)) rfl fI.o rfl cz (by decide) o9.o ?_;intro v5 w5 aY bV;obtain ⟨A5,c5,h5⟩:=iq aY;subst h5;have cP:=kp aY;have bZ:=kp (bV.below aF.o fI.o (ah _) o9.o);clear aY bV)
   exact ⟨⟨k+1,A5,c5,by omega,by go_num,rfl,by rw [ue.o];exact cP.o,bZ.o⟩,by simp [intOf];omega⟩
  .obtain rfl:k=m:=by omega
   have Hf:=kp (HQ.o _ _ (by have:=bF.o;rw [take_of_length_le (by unfold dK;rw [lM,Hm.o];exact ah _)] at this;exact this) ai.o);go_wp2_with fail;exact Hf.o
def fq (d:cR) (to:Nat):LN:=(range (fin d).length).map (iQ d to)
theorem Qy {d:cR} (h:0<d.aw.length):fin d=(d.aw[0]'h).aQ:=by
 obtain ⟨n,A,ts,c⟩:=d;rcases ts with _ | ⟨t,ts⟩
 .simp at h
 .rfl
theorem a6s (d:cR) (to:Nat) (w:World) (h:mJ w w.heap.size d) (ho:nT d) (fH:to<d.aw.length):Calls Tryz.prog 74 #[.agg (ew d),.int .i64 0,.int .i64 to] w (F7 (fq d to) w):=by
 obtain ⟨i0,cG,cI,cH,cJ⟩:=info_parts vV;have hn:=h.n;have hp:0<d.aw.length:=by omega
 have Ke:=kp (fun w=>MC d 0 w hn hp);have Kf:=kp (fun w=>MC d to w hn fH);have sO:=Qy hp;have HL:=kp (fun i w h (hi:i<(fin d).length)=>aa0 d to i w h ho fH (by rw [sO] at hi;exact hi));have au:=(aq w.heap.size w).alloc (ah _) (.cells (ew d) 128);have HB:=kp (aa.new w 128 (ew d));have ay:=kp au;have Hh:=kp h;have fU:=kp fH;have Bj:(fin d).length<=200:=by rw [sO];exact (ho.aw 0 hp).n2
 have fw:=ho.n2;have aX:(fq d to).length=(fin d).length:=by unfold fq;simp
 have HQ:=kp (show ∀v w',w'.ownsRow w.heap.size 3 1 v (fin d).length (aP (fq d to))->Below w.heap.size w w'->F7 (fq d to) w (.returned v) w' from fun v w' h1 hb=>⟨v,rfl,by rw [aX];exact h1,hb⟩);have bN:=kp sO;clear h ho au hn aX sO;generalize hQ:F7 (fq d to) w=Q at *;clear hQ;unfold ew at Ke Kf HB ay HL ⊢;obtain ⟨z0,z1,_,_⟩:=HB.o.two;go_enter Tryz.func74,Tryz.ntmps74;go_wp2_with fail;refine (Ke.o _).mono ?_;clear z0 z1;generalize w.alloc (.cells #[.string d.name,.slice d.A d.aw.length d.c] 128)=W0 at *;rintro e w1 ⟨rfl,ax⟩;have aM:=aR ay ax;have bL:=bu HB ax;clear ax;obtain ⟨z0,z1,_,_⟩:=bL.o.two;go_wp2_with fail;refine (Kf.o _).mono ?_;rintro e w2 ⟨rfl,aH⟩;have aF:=aR aM aH;have aV:=bu bL aH;clear aH z0 z1;obtain ⟨z0,z1,_,_⟩:=aV.o.two;obtain ⟨b,off,hA,hb,c0,c1,c2⟩:=((Hh.o.below aF.o).more aF.o.size).dm 0 hp;rw [Nat.zero_mul,Nat.add_zero] at c0 c1 c2;rw [<-bN.o] at c1;rw [hA] at z1;have df:¬ (to:Int)<0:=by omega
 have Kd:decide ((to:Int)<0)=false:=decide_eq_false df;have Nj:(0:Int)<(d.aw.length:Int):=by omega
 obtain ⟨n0,nK⟩:∃n0,(fin d).length=n0:=⟨_,rfl⟩
 have T2:=kp nK;rw [nK] at c1 HQ Bj;clear nK;go_wp2_with fail
 go_loopw [7,31] (fun v7 DE wr=>∃ (k:Nat) (A:OA) (c:Nat),k<=n0/\DE = .int .i64 k/\v7 = .slice A k c/\aa wr w.heap.size 128 #[.string d.name,.slice d.A d.aw.length d.c]/\wr.ownsRow (w.heap.size+1) 3 1 (.slice A k c) k (aP ((fq d to).take k))/\Below w.heap.size w wr) (fun _ DE _=>n0-(intOf DE).toNat)
 case atStart=>exact ⟨0,none,0,aZ _,rfl,rfl,by have:=aV.o;rw [hA] at this ⊢;exact this,gL _ _ _ _,aF.o⟩
 case round =>
  clear z0 z1 c0 c1 c2 df Kd Nj hA hb;obtain ⟨k,A,c,hk,rfl,rfl,aJ,aE,aC⟩:=hrel;have bO:=kp aJ;have bF:=kp aE;have ai:=kp aC;clear aJ aE aC;by_cases ae:k<n0
  .have uo:=kp (HL.o k wr ((Hh.o.below ai.o).more ai.o.size) (by rw [T2.o];exact ae))
   have ue:=kp (show aP ((fq d to).take (k+1))=aP ((fq d to).take k)++[.int .i64 ((iQ d to k:Nat):Int)] by
    rw [take_succ_eq_append_getElem (by unfold fq;rw [lM,length_range,T2.o];exact ae),CG];unfold fq
    rw [getElem_map,getElem_range])
   obtain ⟨z0,z1,_,_⟩:=bO.o.two;have df:(k:Int)<(n0:Int):=by omega
   have cz:k<1048576*64:=by omega
   generalize iQ d to k=q at *;go_wp2_with fail;refine uo.o.mono ?_;rintro e w3 ⟨rfl,aN⟩;have bC:=aR ai aN;have bM:=bu bO aN;have jN:=kp (eV bF.o aN);clear aN z0 z1
   go_wp2_with (at_builtin;refine tE rfl (.tmp 34) (.tmp 40) 27 rfl (w.heap.size+1) 3 i0 (.int .i64 0) 8 Tryz.underlying27 cG cI cH cJ rfl w3 (.int .i64 (q:Int)) rfl (.slice A k c) k (aP ((fq d to).take k)) rfl jN.o rfl cz (by decide) bM.o.lt ?_;intro v5 w5 aY bV;obtain ⟨A5,c5,h5⟩:=iq aY;subst h5;have cP:=kp aY;have eg:=kp (bM.o.grown bV.grown (fun e=>by have:=(jN.o.lt w.heap.size e.symm).1;omega));have bZ:=kp (bV.below bC.o jN.o (Nat.le_succ _) bC.o.size);clear aY bV)
   exact ⟨⟨k+1,A5,c5,by omega,by go_num,rfl,eg.o,by rw [ue.o];exact cP.o,bZ.o⟩,by simp [intOf];omega⟩
  .obtain rfl:k=n0:=by omega
   have Hf:=kp (HQ.o _ _ (by have:=nX bF.o (Nat.le_succ _);rw [take_of_length_le (by unfold fq;rw [lM,length_range,T2.o];exact ah _)] at this;exact this) ai.o);go_wp2_with fail;exact Hf.o
theorem N7:(Tryz.prog.info? 27).map (fun i=>(i.zero,i.size,i.bytes))=some (some (.slice none 0 0),1,24):=by kernel_rfl
def nl (l:LN):LN×Ag:=(l,aO)
def lg (f:Fa):Value := .slice f.A f.keys.length f.c
def fX (w:World) (B:Nat) (v:Value) (xs:List Fa):Prop:=w.ownsRow B 27 1 v xs.length (xs.map lg)/\(∀x∈xs,dx w v x)/\jK B xs
structure ep (w:World) (B:Nat) (A:OA) (xs:List Fa):Prop where
 row:Row w B A (xs.map lg)
 each:∀x∈xs,Row w B x.A (aP x.keys)
theorem ep.below {w w':World} {B:Nat} {A:OA} {xs:List Fa} (h:ep w B A xs) (hb:Below B w w'):ep w' B A xs:=⟨h.row.below hb,fun x hx=>(h.each x hx).below hb⟩
theorem ep.more {w:World} {B B':Nat} {A:OA} {xs:List Fa} (h:ep w B A xs) (hB:B<=B'):ep w B' A xs:=⟨h.row.more hB,fun x hx=>(h.each x hx).more hB⟩
theorem fX.at_ {w:World} {B n c:Nat} {A:OA} {xs:List Fa} (h:fX w B (.slice A n c) xs):ep w w.heap.size A xs:=by
 obtain ⟨A',c',e⟩:=iq h.1;injection e with e1 e2 e3
 subst e1 e2 e3;exact ⟨gV h.1,fun x hx=>(h.2.1 x hx).1⟩
theorem fX.below {w w':World} {B:Nat} {v:Value} {xs:List Fa} (h:fX w B v xs) (hb:Below w.heap.size w w'):fX w' B v xs:=⟨eV h.1 hb,fun x hx=>(h.2.1 x hx).below hb,h.2.2⟩
theorem fX.base {w:World} {B B':Nat} {v:Value} {xs:List Fa} (h:fX w B v xs) (hb:B'<=B):fX w B' v xs:=⟨nX h.1 hb,h.2.1,fun f hf b off e av=>aT hb (h.2.2 f hf b off e av)⟩
theorem fX.nil (w:World) (B:Nat):fX w B (.slice none 0 0) []:=⟨gL _ _ _ _,(fun x hx=>by cases hx),fun x hx=>by cases hx⟩
theorem fX.app {w w':World} {B n c n' c':Nat} {A A':OA} {xs:List Fa} {f:Fa} (h:fX w B (.slice A n c) xs) (hf:dx w (.slice A n c) f) (hk:jK B [f])
 (ho:w'.ownsRow B 27 1 (.slice A' n' c') (n+1) (xs.map lg++[lg f])) (ha:App w w' (.slice A n c) (.slice A' n' c')) (hn:xs.length=n):fX w' B (.slice A' n' c') (xs++[f]):=by
 refine ⟨?_,fun x hx => ?_,fun x hx => ?_⟩
 .rw [aS,hn,map_append];exact ho
 .rcases mem_append.1 hx with hx | hx
  .exact (h.2.1 x hx).app ha
  .rw [mem_singleton.1 hx];exact hf.app ha
 .rcases mem_append.1 hx with hx | hx
  .exact h.2.2 x hx
  .exact hk x hx
theorem MW {w:World} {B n c:Nat} {A:OA} {l:LN} {v:Value} (aE:w.ownsRow B 3 1 (.slice A l.length c) l.length (aP l)) (hv:∀k,v.ownBlock=some k->k<B) {B0:Nat} (hB:B0<=B):dx w v ⟨A,l,c,aO⟩/\jK B0 [(⟨A,l,c,aO⟩:Fa)]:=by
 refine ⟨dx.new (B:=B) aE hv,fun f hf b off e av => ?_⟩;rw [mem_singleton.1 hf] at e;dsimp only at e;subst e;exact aT hB (aE.lt b rfl).1
end Go.Proofs.YtjopcamkclndlaaGreat.Tc
