/- Parts of a proof. -/
import Derived.Test.YtjopcamkclndlaaGreatH004
import Derived.OrdersIn
import Derived.TacticsIn
set_option linter.unusedVariables false
set_option linter.unusedSimpArgs false
set_option maxRecDepth 100000
set_option maxHeartbeats 8000000
namespace Go.Proofs.YtjopcamkclndlaaGreat.Base
open List Go.RowKit
section
variable {P:Program} {an:Array Oper} {Q:Exit->Act->World->Prop} {S:World->Prop} {t l n:Nat}
def tJ (Q:Exit->Act->World->Prop):Exit->Act->World->Prop
 | .panic _,_,_=>False
 | .outgrown,_,_=>False
 | e,a,w=>Q e a w
theorem tJ.normal {a:Act} {w:World} (h:Q .normal a w):tJ Q .normal a w:=h
theorem tJ.imp:∀ (e:Exit) (a:Act) (w:World),tJ Q e a w->Q e a w:=fun e a w h=>by
 cases e<;>first | exact h | exact (h:False).elim
theorem tJ.lets:¬LetsOut (tJ Q):=fun ⟨_,_,h⟩=>h
def Qz (an:Array Oper):Bool:=an.all fun o=>match o.op with
 | .defer _=>false
 | _=>true
theorem a7n (h:Qz an=true) {i:Nat} {o:Oper} (ho:an[i]? = some o):∀c,o.op ≠ .defer c:=by
 intro c hc;have hm:o∈an:=Array.mem_of_getElem? ho;have:=Array.all_eq_true_iff_forall_mem.1 h o hm;rw [hc] at this;cases this
theorem aaI {row:String} {args:Array Value} {w:World} {R:Value->World->Prop} (h:Rows P row args w R):RowsIn (Fence.wide.inRound l) n P row args w R :=
 fun c cs _=>let ⟨v,w',r,s⟩:=h c cs;⟨v,w',r,stepsIn_wide.2 s⟩
theorem XT {o:Oper} {a:Act} {w:World} {K:Act->World->Prop} (hd:∀c,o.op ≠ .defer c) (h:o.wp P a w K Q):o.wpIn (Fence.wide.inRound l) n P a w K Q:=by
 unfold Oper.wp at h;unfold Oper.wpIn;refine ⟨fun f _=>trivial,?_⟩;rw [Fence.inRound_round,Oper.semAt_eq _ _ _ hd];generalize (execOp a.eval o).run P w=r at h ⊢;cases r with
 | ok x w' =>
  cases x with
  | value v=>exact h
  | skip=>exact h
  | defer d=>exact h
  | enter f args =>
   rw [Oper.upon_enter] at h;rw [Oper.uponIn_enter];exact ⟨fun hh=>by simp [Fence.wide] at hh,CallsIn.inRound l (callsIn_wide.2 (h.mono fun e NF he=>by cases e<;>exact he))⟩
  | row row args =>
   rw [Oper.upon_row] at h;rw [Oper.uponIn_row];exact ⟨fun hh=>by simp [Fence.wide] at hh,aaI h⟩
  | _=>exact (h:False).elim
 | halt x w'=>cases x<;>exact h
theorem MQ {md:Region.Mode} (da:Qz an=true) (hQ:¬LetsOut Q):∀ (fuel:Nat) (listed:Array Bool) (a:Act) (w:World),wpAny P md an Q fuel listed a w->wpAnyIn (Fence.wide.inRound l) n P md an Q fuel listed a w
 | 0,_,_,_,h=>h
 | fuel+1,listed,a,w,h=>by
  refine ⟨h.1,fun i hi => ?_⟩;have h2:=h.2 i hi;unfold wpOp at h2;unfold wpOpIn;rcases ho:an[i]? with _ | o
  .rw [ho] at h2;exact MQ da hQ fuel _ a w h2
  .rw [ho] at h2;dsimp only at h2 ⊢;by_cases hw:Region.wanted o (yielded an a.tmps)=true
   .rw [if_pos hw] at h2 ⊢;rcases h2 with h2 | ⟨_,h2⟩
    .exact Oper.wpIn_mono (fun a' w' h3=>MQ da hQ fuel _ a' w' h3) (XT (a7n da ho) h2)
    .exact absurd h2 hQ
   .rw [if_neg hw] at h2 ⊢;exact ⟨fun _ _=>trivial,MQ da hQ fuel _ _ _ h2⟩
theorem MS {id:Nat} {a:Act} {w:World} (hm:P.follows .mixedOrders=true) (da:Qz an=true) (hS:S w.drew)
 (h:S w.drew->hZ P .any an (tJ Q) S t an.size (Array.replicate an.size false) a w.drew):(Code.region id an true).wpIn (Fence.wide.inRound l) n P Q a w :=
 wpIn_mono (wpIn_region_any hm (MQ da tJ.lets _ _ _ _ (Pz _ _ _ _ (h hS)))) tJ.imp
end
end Go.Proofs.YtjopcamkclndlaaGreat.Base
namespace Go.Proofs.YtjopcamkclndlaaGreat.Tc
open List Go.RowKit Base
section
attribute [local go_sem] Oper.semAt_some
theorem a0G:(Tryz.prog.info? 30).map (fun i=>(i.zero,i.size,i.bytes))=some (some (.slice none 0 0),1,24):=by kernel_rfl
structure qO (w:World) (B:Nat) (A:OA) (l:List Rn):Prop where
 row:Row w B A (l.map kH)
 each:∀r∈l,dG w B r.A r.fs
def jV (l:List Fa) (size i:Nat):List Fa:=(l.drop (i*size)).take size
def aG (l:List Fa):List (LN×Ag):=l.map pl
def IV (w:World) (B:Nat) (v:Value) (rs:List Rn):Prop:=w.ownsRow B 30 1 v rs.length (rs.map kH)/\∀r∈rs,l9 w v r
theorem IV.at_ {w:World} {B n c:Nat} {A:OA} {rs:List Rn} (h:IV w B (.slice A n c) rs):qO w w.heap.size A rs:=by
 obtain ⟨A',c',e⟩:=iq h.1;injection e with e1 e2 e3
 subst e1 e2 e3;exact ⟨gV h.1,fun r hr=>(h.2 r hr).1⟩
def a7P (l:List Fa) (size:Nat) (w:World) (e:Ending) (w':World):Prop:=∃ (A:OA) (c:Nat) (rs:List Rn),e = .returned (.tuple #[.slice A rs.length c,.int .i64 0])/\IV w' w.heap.size (.slice A rs.length c) rs/\rs.map (fun r=>aG r.fs)=(range rs.length).map (fun i=>aG (jV l size i))/\l.length<=rs.length*size/\(∀i,i<rs.length->i*size<l.length)/\Below w.heap.size w w'
def a06 (l:List Fa) (size n0 B D0:Nat) (w0:World) (pre:List (Part l.length size)) (W:World):Prop :=
 (∃ (v:Value) (rs:List Rn),Boxed W B 142 v/\W.ownsRow D0 30 1 v rs.length (rs.map kH)/\(∀r∈rs,l9 W v r/\∀b,ir r.A r.fs b->D0<=b)/\rs.map (fun r=>aG r.fs)=pre.map (fun x=>aG (jV l size x.1))/\D0<=W.heap.size)/\Below n0 w0 W
theorem D2 {w:World} {B n c:Nat} {A:OA} {l:List Fa} (h:cT w B (.slice A n c) l) (hk:jK B l) {b:Nat} (hb:ir A l b):B<=b:=by
 rcases hb with ⟨off,e,av⟩ | ⟨f,hf,off,e,av⟩
 .subst e;exact (h.1.lt b rfl).1
 .exact hk f hf b off e av
theorem uY {w w':World} {B:Nat} {A:OA} {vs:LV} {row:Option Nat} (h:Row w B A vs) (hg:w.grownBy w' row) (hr:∀r,row=some r->∃o:Obj,w.heap[r]? = some o/\o.isCells=false):Row w' B A vs:=by
 rcases h with h | ⟨b,off,e,hb,hc⟩
 .exact .inl h
 .exact .inr ⟨b,off,e,hb,fun i v hv=>cell_kept (hc i v hv) hg hr⟩
theorem aa6 (l:List Fa) (size n0 B D0 D:Nat) (w0:World) (hn:n0<=w0.heap.size) (hD:n0<=D):OwnFrom D (a06 l size n0 B D0 w0):=by
 refine OwnFrom.and (Own.from (fun pre W W' row hs hg hr => ?_) _) (ownFrom_below hn hD);obtain ⟨v,rs,h1,h2,h3,h4,h5⟩:=hs;refine ⟨v,rs,h1.kept hg (fun e' => ?_),h2.kept hg ?_,fun r jb=>⟨⟨?_,(h3 r jb).1.2⟩,(h3 r jb).2⟩,h4,aT h5 hg.size⟩
 .obtain ⟨o,ho,hc⟩:=hr B e'.symm;rw [show W.heap[B]? = _ from h1] at ho;cases ho;cases hc
 .rcases h2.2 with ⟨rfl,_⟩ | ⟨g,cap,cur,rfl,_,jB,_⟩
  .exact .inl rfl
  .refine .inr fun e' => ?_
   obtain ⟨o,ho,hc⟩:=hr g (by simpa [Value.ownBlock] using e'.symm);rw [jB] at ho;cases ho;cases hc
 .exact dG.more ⟨uY (h3 r jb).1.1.row hg hr,fun f hf=>uY ((h3 r jb).1.1.keys f hf) hg hr⟩ hg.size
theorem aau (A:OA) (l:List Fa) (c size:Nat) (w:World) (dv:1<=size) (iJ:size<=1000000) (hn:l.length<=1000000) (pd:l.length<=c) (fj:c<=9223372036854775807) (hk:∀f∈l,f.keys.length<=1000000) (hr:dG w w.heap.size A l) :
 Calls Tryz.prog 106 #[.int .i64 size,.slice A l.length c] w (a7P l size w):=by
 have HC:=kp EJ;have JM:=kp ab9;have Hr:=kp hr;have Hk:=kp hk;have jx:¬ ((size:Nat):Int)<1:=by omega
 have aeI:decide ((size:Int)<1)=false:=by simp;omega
 obtain ⟨i0,cG,cI,cH,cJ⟩:=info_parts a0G;clear hr hk;refine (callsIn_wide (n:=9)).1 ?_;refine callsIn_of_wp_marks Tryz.func106 rfl trivial ?_ rfl;simp only [Tryz.ntmps106,size_toArray,length_cons,length_nil,Nat.reduceAdd,Nat.reduceSub,Array.replicate_succ,Array.replicate_zero,push_toArray,append_toArray,nil_append,cons_append]
 gi_wp2_with (refine ⟨trivial,?_⟩;gi_at_call 142;refine (callsIn_wide.2 (JM.o A l.length c size dv _)).mono ?_;rintro e w' ⟨rfl,rfl⟩)
 obtain ⟨b,off,hA⟩:∃b off,l.length=0\/A=some ⟨b,off,none⟩:=by
  rcases Hr.o.row with h0 | ⟨b,off,e,_⟩
  .refine ⟨0,0,.inl ?_⟩;have:=kI xr l;rw [h0] at this;simp at this;omega
  .exact ⟨b,off,.inr e⟩
 obtain ⟨W0,dj⟩:∃W0,((w.alloc (.cells #[.slice none 0 0] 142)).alloc (.cells #[.slice A l.length c] 30)).alloc (.cells #[.int .i64 size] 3)=W0:=⟨_,rfl⟩
 have mY:W0.heap.size=w.heap.size+3:=by rw [<-dj];simp
 have JN:Below w.heap.size w W0:=by rw [<-dj];exact (((aq _ w).alloc (ah _) _).alloc (by simp) _).alloc (by simp;omega) _
 have ye:Boxed W0 w.heap.size 142 (.slice none 0 0):=by rw [<-dj];exact ((Boxed.new w _ _).alloc _).alloc _
 have lD:aa W0 (w.heap.size+1) 30 #[.slice A l.length c]:=by
  rw [<-dj];exact aa.alloc (aa.lay (w:=w.alloc (.cells #[.slice none 0 0] 142)) (by simp)) _
 have qW:aa W0 (w.heap.size+1+1) 3 #[.int .i64 size]:=by
  rw [<-dj];exact aa.lay (w:=(w.alloc (.cells #[.slice none 0 0] 142)).alloc (.cells #[.slice A l.length c] 30)) (by simp)
 rw [dj];refine wpIn_rangeFunc_ownF rfl (by omega) (gf:=167) (lb:=#[.pointer (some ⟨w.heap.size+1,0,none⟩),.pointer (some ⟨w.heap.size+1+1,0,none⟩)]) rfl trivial (enters_of Tryz.func167 (by kernel_rfl) rfl)
  (aay 8 (by omega) (w.heap.size+1) (w.heap.size+1+1) b off l.length c size dv iJ hn pd fj W0 (by omega) (by omega) A hA lD.one.1 qW.one.1) (fun h k=>h.trans k) (Qp (by omega) (by omega)) (aq _ _) (fun _=>rfl)
  (a06 l size w.heap.size w.heap.size (w.heap.size+3) w) (fun _ _ _=>False) (aa6 l size w.heap.size w.heap.size (w.heap.size+3) _ w (ah _) (by omega)) (fun _ _ _ _ _ hs _ _=>hs)
  ⟨⟨.slice none 0 0,[],ye,gL _ _ _ _,(fun r hr=>by cases hr),rfl,by omega⟩,JN⟩
  (fun x=>{ tmps:=#[.int .i64 size,.slice A l.length c,undef,undef,.slice none 0 0,.int .i64 0,.pointer (some ⟨w.heap.size,0,none⟩),j5 b off 11 l.length size x.1,.int .i64 size,.bool false,.slice A l.length c,.int .i64 size,.func (.func 167) #[] #[.pointer (some ⟨w.heap.size+1,0,none⟩),.pointer (some ⟨w.heap.size+1+1,0,none⟩)],j5 b off 11 l.length size x.1,undef,undef,undef,undef,undef,undef],defers:=[] }) ?assign ?body ?done ?stop
 case assign =>
  intro lp x W K hK
  gi_wp2
  exact hK
 case body =>
  rintro lp pre x W ⟨⟨v,rs,aJ,aE,fv,cM,rY⟩,aC⟩ aX;obtain ⟨i,hi⟩:=x;have sU:l.length≠0:=by omega
  obtain rfl:=hA.resolve_left sU;have ie:=((Hr.o.below aC).more aC.size).sub (i*size) size;have jR:j5 b off 11 l.length size i = .slice (some ⟨b,off+i*size*11,none⟩) (jV l size i).length (jV l size i).length:=by
   unfold j5 jV;rw [length_take,length_drop]
  have ee:=kp (fun W' (hb:Below W.heap.size W W')=>HC.o (some ⟨b,off+i*size*11,none⟩) (jV l size i) (jV l size i).length W' (by unfold jV;rw [length_take,length_drop];omega) (fun f hf=>Hk.o f (mem_of_mem_drop (mem_of_mem_take hf))) ((ie.below hb).more hb.size));have bO:=kp aJ;have bF:=kp aE;have kN:=kp fv;have fJ:=kp cM;have ai:=kp aC;obtain ⟨Av,cv,rfl⟩:=iq aE;have c0:=aJ.cell;have f0:=aJ.frozen;dsimp only;rw [jR];clear aJ aE fv cM aC ie jR dj;have wH:w.heap.size<W.heap.size:=bO.o.lt
  gi_wp2
  refine MS (t:=5) (S:=(fun w'=>w'.cell? ⟨w.heap.size,0,none⟩=some (.slice Av rs.length cv)/\w'.frozen? ⟨w.heap.size,0,none⟩=false)) (by kernel_rfl) (by kernel_rfl) ⟨c0,f0⟩ (fun ad => ?_);refine tB 0 1 ad ?_;refine oT 2 fun K hK=>?_
  go_simp
  refine (ee.o _ (aq _ _).drew).mono ?_;rintro e w2 ⟨v2,l2,rfl,Bz,gz,qo,aH⟩;obtain ⟨A2,c2,rfl⟩:=gz.form;have Sw:=kp Bz;have fK:=kp gz;have Br:=kp qo;have aF:=kp (show Below W.heap.size W w2 from (aq _ _).drew.trans aH);clear Bz gz qo aH;refine oK hK ?_ fun af=>?_
  .exact ⟨aL aF.o c0,by rw [lU aF.o _ _ wH];exact f0⟩
  replace ad:=af;clear hK K af;have qh:w.heap.size<w2.heap.size:=dL wH aF.o.size;have fI:=kp (eV bF.o aF.o);have Sx:=kp (fun r hr=>(kN.o r hr).1.below aF.o);have wy:=kp (show l9 w2 (.slice Av rs.length cv) ⟨A2,l2,c2⟩ from l9.new (B:=W.drew.heap.size) fK.o Br.o (fun j hj=>(bF.o.lt j hj).2));have Sy:=kp (ai.o.trans (aF.o.mono ai.o.size));have je:=kp (show ∀j,j<w.heap.size+3->(Value.slice Av rs.length cv).ownBlock≠some j from fun j hj hh=>by have:=(bF.o.lt j hh).1;omega);have iV:=kp (show w.heap.size+3<=w2.heap.size from aT rY aF.o.size);have wI:=kp (show rs.length<1048576*64 from by have:=aX;have:=congrArg length fJ.o;simp at this;omega);refine oT 3 fun K hK=>?_
  go_simp
  refine oK hK ?_ fun af=>?_
  .exact ⟨aL ((aq _ _).alloc (ah _) _) ad.1,by rw [lU ((aq _ _).alloc (ah w2.heap.size) _) _ _ qh];exact ad.2⟩
  replace ad:=af;clear hK K af;refine oT 4 fun K hK=>?_
  refine xB rfl (.tmp 14) (.tmp 17) 142 rfl (w.heap.size+3) 30 i0 (.slice none 0 0) 24 Tryz.underlying142 cG cI cH cJ rfl w2 (.slice A2 l2.length c2) rfl (.slice Av rs.length cv) rs.length (rs.map kH) rfl fI.o rfl wI.o (by decide) iV.o ?_;intro v5 w5 aY bV;obtain ⟨A5,c5,h5⟩:=iq aY;subst h5;have cP:=kp aY;have dh:=kp bV;clear aY bV
  go_simp
  refine oK hK ?_ fun af=>?_
  .have e1:=(dh.o.de qh (je.o _ (by omega)))
   have e2:=(Below.heap_alloc w2 (.cells #[.slice A2 l2.length c2] 30) _ qh)
   exact ⟨(cZ (a:=⟨w.heap.size,0,none⟩) (e1.trans e2.symm)).trans ad.1,by have h:=ad.2;unfold World.frozen? at h ⊢;rw [e1.trans e2.symm];exact h⟩
  replace ad:=af;clear hK K af;refine rr (o := ?op5) (by kernel_rfl) ?ap5 (by kernel_rfl) (fun K hK => ?bp5)
  case ap5=>(simp only [getElem?_toArray,getElem?_cons_succ,getElem?_cons_zero];exact rfl)
  obtain ⟨ic,oX⟩:=ad;have ad:=ic
  go_simp
  refine hK.out _ _ ?_;clear hK K ad;refine tJ.normal ?_
  try simp only [Act.put,setIfInBounds_toArray,set_cons_zero,set_cons_succ]
  have Sz:=kp (show Boxed (w5.setCell ⟨w.heap.size,0,none⟩ (.slice A5 (rs.length+1) c5)) w.heap.size 142 (.slice A5 (rs.length+1) c5) from Boxed.set _ (show Boxed w5 w.heap.size 142 (.slice Av rs.length cv) from (dh.o.de qh (je.o _ (by omega))).trans ((aF.o.block _ wH).trans bO.o)));have SA:=kp (grownBy_setCell' w5 w.heap.size (.slice A5 (rs.length+1) c5));have qX:=kp (show ∀k,k<W.heap.size->k≠w.heap.size->(Value.slice Av rs.length cv).ownBlock≠some k->(w5.setCell ⟨w.heap.size,0,none⟩ (.slice A5 (rs.length+1) c5)).heap[k]? = W.heap[k]? from fun k hk h1 h2=>(Below.heap_setCell w5 ⟨w.heap.size,0,none⟩ _ k h1).trans ((dh.o.de (dL hk aF.o.size) h2).trans (aF.o.block k hk)));have qe:=kp (show W.heap.size<=w5.heap.size from aT aF.o.size dh.o.grown.size);refine ⟨⟨by simp;exact qe.o,fun k o ho hc => ?_⟩,⟨qX.o _ (by omega) (by omega) (je.o _ (by omega)),qX.o _ (by omega) (by omega) (je.o _ (by omega))⟩,⟨_,rs++[⟨A2,l2,c2⟩],Sz.o,?_,?_,?_,by simp;exact aT rY qe.o⟩,?_⟩
  .have aA:k<W.heap.size:=(Array.getElem?_eq_some_iff.1 ho).1;refine (qX.o k aA (fun e => ?_) (fun e => ?_)).trans ho
   .subst e;have:=bO.o;unfold Boxed at this;rw [this] at ho;injection ho with ho
    rw [<-ho] at hc;cases hc
   .rcases bF.o.2 with ⟨h0,_⟩ | ⟨g,cap,cur,h0,_,jB,_⟩
    .rw [h0] at e;cases e
    .rw [h0] at e;injection e with e
     subst e;rw [jB] at ho;injection ho with ho
     rw [<-ho] at hc;cases hc
  .rw [aS,map_append];exact cP.o.kept SA.o (.inr (fun e=>by have:=(cP.o.lt _ e).1;omega))
  .intro r hr;have nH:∀b,ir r.A r.fs b->w.heap.size+3<=b:=fun b hb=>by
    rcases mem_append.1 hr with hr | hr
    .exact (kN.o r hr).2 b hb
    .rw [mem_singleton.1 hr] at hb;exact aT rY (D2 fK.o Br.o hb)
   have jf:l9 w5 (.slice A5 (rs.length+1) c5) r:=by
    rcases mem_append.1 hr with hr | hr
    .exact (Sx.o r hr).app dh.o
    .rw [mem_singleton.1 hr];exact wy.o.app dh.o
   refine ⟨⟨?_,jf.2⟩,nH⟩;have e:(w5.setCell ⟨w.heap.size,0,none⟩ (.slice A5 (rs.length+1) c5)).heap.size=w5.heap.size:=by simp
   rw [e];exact jf.1.same fun b hb=>Below.heap_setCell w5 ⟨w.heap.size,0,none⟩ _ b (by have:=nH b hb;show b≠w.heap.size;omega)
  .rw [map_append,map_append,fJ.o];exact congrArg (fun x=>_++[x]) Sw.o
  .exact (dh.o.mO Sy.o fI.o (by omega) (by have:=iV.o;omega)).setCell (p:=⟨w.heap.size,0,none⟩) (ah _) _
 case done =>
  rintro D xs W hD ⟨ow,dr⟩ ⟨⟨v,rs,aJ,aE,fv,cM,rY⟩,aC⟩ hK;obtain ⟨Av,cv,rfl⟩:=iq aE;have c0:=aJ.cell;have bF:=kp aE;have kN:=kp fv;have fJ:=kp cM;have ai:=kp aC;have JO:=kp ow;have ml:=kp dr;have HK:=kp hK;clear aE fv cM aC ow dr hK
  gi_wp2
  refine ⟨by simp,.inl ⟨_,_,rfl,run_takeDeferred HK.o,?_⟩⟩;have aX:rs.length=xs.length:=by have:=congrArg length fJ.o;simpa using this
  have hg:=grownBy_putObj' W D (.deferred none);have j7:∀r,some D=some r->∃o:Obj,W.heap[r]? = some o/\o.isCells=false:=fun r e=>by cases e;exact ⟨_,HK.o,rfl⟩
  refine ⟨.tuple #[.slice Av rs.length cv,.int .i64 0],?_,Av,cv,rs,rfl,⟨?_,fun r hr=>⟨?_,(kN.o r hr).1.2⟩⟩,?_,?_,?_,?_⟩
  .simp [results,Tryz.results106,go_sem]
  .exact nX (ownsRow_putObj bF.o _ HK.o rfl) (by omega)
  .exact dG.more ⟨uY (kN.o r hr).1.1.row hg j7,fun f hf=>uY ((kN.o r hr).1.1.keys f hf) hg j7⟩ hg.size
  .rw [fJ.o,aX,<-JO.o,map_map];rfl
  .rw [aX];exact ml.o
  .intro i hi;rw [aX] at hi;have h1:(xs.map (·.1))[i]'(by rw [lM];exact hi)=i:=by simp only [JO.o];rw [getElem_range]
   rw [getElem_map] at h1;have h2:=(xs[i]'hi).2;rw [h1] at h2;exact h2
  .exact ai.o.trans (belowK_b (w:=w) (ah _) W D _ _ (by omega) HK.o rfl rfl)
 case stop =>
  rintro D c pre W _ _ h _;exact h.elim
theorem cT.cap {w:World} {B n c:Nat} {A:OA} {l:List Fa} (h:cT w B (.slice A n c) l):l.length<=c:=by
 rcases h.1.2 with ⟨h0,h1⟩ | ⟨g,cap,cur,hv,hB,hh,j7,_⟩
 .omega
 .injection hv with _ _ hc
  omega
theorem abP (P R:List Rn) (s r:Rn):((P++s::R).map kH).set P.length (kH r)=(P++r::R).map kH:=by
 rw [map_append,map_append,map_cons,map_cons,show P.length=(P.map kH).length by simp,set_append_right _ _ (ah _)];simp
theorem l9.set {w:World} {g n c o:Nat} {r:Rn} {u:Value} (h:l9 w (.slice (some ⟨g,0,none⟩) n c) r):l9 (w.setCell ⟨g,o,none⟩ u) (.slice (some ⟨g,0,none⟩) n c) r:=by
 have e:(w.setCell ⟨g,o,none⟩ u).heap.size=w.heap.size:=by simp
 refine ⟨?_,h.2⟩;rw [e];exact h.1.same fun b hb=>Below.heap_setCell w ⟨g,o,none⟩ _ b (fun e=>h.2 b hb (by rw [e];rfl))
def Qt (l:List Fa) (size:Nat) (w:World) (e:Ending) (w':World):Prop:=∃ (A:OA) (c:Nat) (rs:List Rn),e = .returned (.tuple #[.slice A rs.length c,.int .i64 0])/\qO w' w'.heap.size A rs/\(rs.length<=c/\c<=9223372036854775807)/\(∀i (h:i<rs.length),gU rs[i].fs/\(aG rs[i].fs).Perm (aG (jV l size i))/\rs[i].fs.length<=rs[i].c)/\l.length<=rs.length*size/\(∀i,i<rs.length->i*size<l.length)/\Below w.heap.size w w'
theorem aaU (A:OA) (l:List Fa) (c size:Nat) (w:World) (dv:1<=size) (iJ:size<=1000000) (hn:l.length<=1000000) (pd:l.length<=c) (fj:c<=9223372036854775807) (hk:∀f∈l,f.keys.length<=1000000) (hr:dG w w.heap.size A l) :
 Calls Tryz.prog 62 #[.int .i64 size,.slice A l.length c] w (Qt l size w):=by
 have JP:=kp (aau A l c size w dv iJ hn pd fj hk hr);have aca:=kp a6c;have gQ:=kp (show ∀A' c' rs w',qO w' w'.heap.size A' rs->(rs.length<=c'/\c'<=9223372036854775807)->(∀i (h:i<rs.length),gU rs[i].fs/\(aG rs[i].fs).Perm (aG (jV l size i))/\rs[i].fs.length<=rs[i].c)->l.length<=rs.length*size->(∀i,i<rs.length->i*size<l.length)->Below w.heap.size w w'->Qt l size w (.returned (.tuple #[.slice A' rs.length c',.int .i64 0])) w' from fun A' c' rs w' h1 h2 h3 h4 h5 h6=>⟨A',c',rs,rfl,h1,h2,h3,h4,h5,h6⟩)
 have Hk:=kp (show ∀i (ps:List Fa),aG ps=aG (jV l size i)->(∀f∈ps,f.keys.length<=1000000)/\ps.length<=1000000 from fun i ps h=>by
  have hl:ps.length=(jV l size i).length:=by have:=congrArg length h;simpa [aG] using this
  have iE:(jV l size i).length<=l.length:=by unfold jV;rw [length_take,length_drop];omega
  refine ⟨fun f hf => ?_,by omega⟩;have hm:pl f∈aG (jV l size i):=by rw [<-h];exact mem_map_of_mem hf
  obtain ⟨f',gZ,e⟩:=mem_map.1 hm;have e2:f'.keys=f.keys:=congrArg Prod.fst e;rw [<-e2]
  exact hk f' (mem_of_mem_drop (mem_of_mem_take gZ)))
 clear hr hk;generalize hQ:Qt l size w=Q at *;clear hQ;go_enter Tryz.func62,Tryz.ntmps62;go_wp2_with fail;refine JP.o.mono ?_;rintro e w1 ⟨A1,c1,rs,rfl,aE,cM,iE,Bh,ax⟩;have bF:=kp aE;have fJ:=kp cM;have ug:=kp iE;have Hix:=kp Bh;have aM:=kp ax;clear aE cM iE Bh ax JP;go_wp2_with fail;obtain ⟨m,hm⟩:∃m,rs.length=m:=⟨_,rfl⟩
 have Hm:=kp hm;rw [hm];clear hm;have nh:m<=1000000:=by
  rcases Nat.eq_zero_or_pos m with h0 | h0
  .omega
  .have h1:=Hix.o (m-1) (by rw [Hm.o];omega);have h2:(m-1)*1<=(m-1)*size:=Nat.mul_le_mul_left _ dv;omega
 go_loopw [22] (fun v22 wr=>∃ (k:Nat) (dn:List Rn),k<=m/\v22 = .int .i64 k/\dn.length=k/\(∀i (h:i<dn.length),gU dn[i].fs/\(aG dn[i].fs).Perm (aG (jV l size i))/\dn[i].fs.length<=dn[i].c)/\IV wr w.heap.size (.slice A1 m c1) (dn++rs.drop k)/\Below w.heap.size w wr) (fun v22 _=>m-(intOf v22).toNat)
 case atStart=>exact ⟨0,[],aZ _,rfl,rfl,fun i h=>by simp at h,by have:=bF.o;rw [Hm.o] at this;exact this,aM.o⟩
 case round =>
  obtain ⟨k,dn,hk,rfl,qt,JQ,aE,aC⟩:=hrel;have kQ:=kp qt;have Hds:=kp JQ;have sV:=kp aE;have ai:=kp aC;clear qt JQ aE aC;by_cases ae:k<m
  .have aA:k<rs.length:=by rw [Hm.o];exact ae
   have a1E:=drop_eq_getElem_cons aA;have SB:aG (rs[k]'aA).fs=aG (jV l size k):=by
    have h1:=congrArg (fun x=>x[k]?) fJ.o;simp only [getElem?_map,gE aA,getElem?_range aA,Option.map_some] at h1;injection h1
   have jZ:=sV.o;rw [a1E] at jZ;obtain ⟨qf,eE⟩:=Hk.o k _ SB;have jf:=jZ.2 (rs[k]'aA) (mem_append_right _ mem_cons_self);have jC:=kp (aca.o (rs[k]'aA).A (rs[k]'aA).fs (rs[k]'aA).c wr eE qf jf.1);have acb:=kp SB;obtain ⟨g,JR,Dn,qi⟩:∃g,A1=some ⟨g,0,none⟩/\w.heap.size<=g/\g<wr.heap.size:=by
    rcases jZ.1.2 with ⟨_,h0⟩ | ⟨g,cap,cur,hv,hB,hh,_⟩
    .rw [aS,length_cons] at h0;omega
    .injection hv with hA _ _
     exact ⟨g,hA,hB,(Array.getElem?_eq_some_iff.1 hh).1⟩
   subst JR;have c0:wr.cell? ⟨g,k,none⟩=some (.slice (rs[k]'aA).A (rs[k]'aA).fs.length (rs[k]'aA).c):=by
    have:=jZ.1.cells (g:=g) rfl k (kH (rs[k]'aA)) (by rw [getElem?_map,getElem?_append_right (by rw [kQ.o];exact ah _),kQ.o,Nat.sub_self];rfl);rw [xO,Nat.zero_add] at this;exact this
   have fK:=kp jZ;have JS:=kp (show (rs.drop (k+1))=rs.drop (k+1) from rfl);clear a1E SB jZ qf eE jf JS;generalize (rs[k]'aA)=r at *;have dz:(0:Int)<=(k:Int):=by omega
   have df:(k:Int)<(m:Int):=by omega
   go_wp2_with fail;refine jC.o.mono ?_;rintro e w2 ⟨v2,l2,rfl,qu,a1F,gz,qo,aH⟩;obtain ⟨A2,c2,rfl⟩:=gz.form;have Hp2:=kp qu;have o9:=kp a1F;have acd:=kp gz;have Br:=kp qo;have c0':=aL aH c0;have hfz:w2.frozen? ⟨g,k,none⟩=false:=by
    rcases (eV fK.o.1 aH).2 with ⟨h0,_⟩ | ⟨g',cap,cur,hv,hB,hh,_⟩
    .cases h0
    .injection hv with hA _ _
     injection hA with hA
     injection hA with hg _ _
     subst hg;simp [World.frozen?,hh]
   have aF:=kp aH;have SC:(dn++r::rs.drop (k+1)).length=m:=by
    obtain ⟨A',c',e⟩:=iq fK.o.1;injection e with _ e _
    exact e.symm
   have jN:=kp (show w2.ownsRow w.heap.size 30 1 (.slice (some ⟨g,0,none⟩) m c1) m ((dn++r::rs.drop (k+1)).map kH) by have:=eV fK.o.1 aH;rw [SC] at this;exact this);have NG:=kp SC;clear SC;have Bp:=kp (fun x hx=>(fK.o.2 x hx).below aH);have wy:=kp (show l9 w2 (.slice (some ⟨g,0,none⟩) m c1) ⟨A2,l2,c2⟩ from l9.new gz qo (fun j hj=>by (have e:g=j:=by injection hj);omega));have ec:=aR ai aH;clear qu a1F gz qo aH c0 jC;go_wp2_with fail;refine ⟨⟨k+1,dn++[⟨A2,l2,c2⟩],by omega,by go_num,by rw [aS,kQ.o];rfl,?_,⟨?_,?_⟩,ec.o.setCell (p:=⟨g,k,none⟩) Dn _⟩,by simp [intOf];omega⟩
   .intro i hi;by_cases sW:i<dn.length
    .rw [getElem_append_left sW];exact Hds.o i sW
    .rw [aS] at hi;have e:i=k:=by rw [<-kQ.o];simp at hi;omega
     have kt:(dn++[(⟨A2,l2,c2⟩:Rn)])[i]'(by simp;omega)=⟨A2,l2,c2⟩:=by
      rw [getElem_append_right (by omega)];simp [e,kQ.o]
     rw [kt,e];refine ⟨o9.o,?_,acd.o.cap⟩;rw [<-acb.o];exact Hp2.o
   .have h1:=gX jN.o (i:=k) (by rw [lM,NG.o];exact ae) (kH ⟨A2,l2,c2⟩);rw [<-kQ.o,abP] at h1;have e1:dn++[(⟨A2,l2,c2⟩:Rn)]++rs.drop (k+1)=dn++⟨A2,l2,c2⟩::rs.drop (k+1):=by simp
    rw [e1];have e2:(dn++(⟨A2,l2,c2⟩:Rn)::rs.drop (k+1)).length=m:=by
     rw [<-NG.o,aS,aS,length_cons,length_cons]
    rw [e2];rw [kQ.o] at h1;exact h1
   .intro x hx;rw [append_assoc] at hx;rcases mem_append.1 hx with hx | hx
    .exact (Bp.o x (mem_append_left _ hx)).set
    .rcases mem_cons.1 hx with rfl | hx
     .exact wy.o.set
     .exact (Bp.o x (mem_append_right _ (mem_cons_of_mem _ hx))).set
  .obtain rfl:k=m:=by omega
   have bN:=kp (show IV wr w.heap.size (.slice A1 k c1) dn by
    have:=sV.o;rw [drop_of_length_le (by rw [Hm.o];exact ah _),append_nil] at this
    exact this)
   have NH:k<=c1/\c1<=9223372036854775807:=CC (by have:=bN.o.1;rw [kQ.o] at this;exact this);have JT:=kp (gQ.o A1 c1 dn wr bN.o.at_ (by rw [kQ.o];exact NH) Hds.o (by rw [kQ.o,<-Hm.o];exact ug.o) (fun i hi=>Hix.o i (by rw [Hm.o,<-kQ.o];exact hi)) ai.o);go_wp2_with fail;have:=JT.o;rw [kQ.o] at this;exact this
end
structure Hd where
 A:OA
 fs:List Fa
 c:Nat
 no:Nat
abbrev yF (h:Hd):LV:=[.slice h.A h.fs.length h.c,.int .i64 (h.no:Int)]
theorem a9w (h:Hd):(yF h).length=2:=rfl
structure gj (w:World) (B gh gr c:Nat) (hs:List Hd):Prop where
 box:aa w gh 259 #[.slice (some ⟨gr,0,none⟩) hs.length c]
 own:w.ownsRow B 262 2 (.slice (some ⟨gr,0,none⟩) hs.length c) hs.length (hs.flatMap yF)
 ne:gh≠gr
abbrev mI (gh:Nat):Value := .iface 257 (.pointer (some ⟨gh,0,none⟩))
theorem aas (ts:Array TypeId) (t:TypeId) (a:Addr) (s m:ByteArray) (w:World):(Builtin.ssaWrapNilChk_ ts t #[.pointer (some a),.string s,.string m]).run Tryz.prog w = .ok (.pointer (some a)) w:=rfl
theorem Q0 {T E:TypeId} {name:String} {f:FuncId} (h1:(Tryz.prog.info? T).map (fun i=>(i.methods.find? (·.name == name)).map fun m=>(m.func,m.path.size))=some (some (some (f,false),0))) (hT:Tryz.prog.underlying T=some (.pointer E)) (ha:∀w,(isAgg E).run Tryz.prog w = .ok false w) (fuel gh:Nat) (v:Value) (w:World) (h:w.cell? ⟨gh,0,none⟩=some v) :
 Sem.run Tryz.prog (method (fuel+1) T (.pointer (some ⟨gh,0,none⟩)) name) w = .ok (f,v) w:=by
 rcases hi:Tryz.prog.info? T with _ | i
 .rw [hi] at h1;cases h1
 .rw [hi] at h1;simp only [Option.map_some,Option.some.injEq] at h1;rcases hm:i.methods.find? (·.name == name) with _ | m
  .rw [hm] at h1;cases h1
  .rw [hm] at h1;simp only [Option.map_some,Option.some.injEq,Prod.mk.injEq] at h1;obtain ⟨h2,h3⟩:=h1;have h4:m.path=#[]:=Array.eq_empty_of_size_eq_zero h3;unfold method;have hu:∀w,Sem.run Tryz.prog (underlying T) w = .ok (.pointer E) w:=run_underlying hT;simp [go_sem,typeInfo,hi,hm,h2,h4,follow,receiverAt,hu,Place.get,strVal,aas,ha,h]
theorem a0k {T E:TypeId} {name:String} {f:FuncId} (h1:(Tryz.prog.info? T).map (fun i=>(i.methods.find? (·.name == name)).map fun m=>(m.func,m.path.size))=some (some (some (f,true),0))) (hT:Tryz.prog.underlying T=some (.pointer E)) (fuel gh:Nat) (w:World) :
 Sem.run Tryz.prog (method (fuel+1) T (.pointer (some ⟨gh,0,none⟩)) name) w = .ok (f,.pointer (some ⟨gh,0,none⟩)) w:=by
 rcases hi:Tryz.prog.info? T with _ | i
 .rw [hi] at h1;cases h1
 .rw [hi] at h1;simp only [Option.map_some,Option.some.injEq] at h1;rcases hm:i.methods.find? (·.name == name) with _ | m
  .rw [hm] at h1;cases h1
  .rw [hm] at h1;simp only [Option.map_some,Option.some.injEq,Prod.mk.injEq] at h1;obtain ⟨h2,h3⟩:=h1;have h4:m.path=#[]:=Array.eq_empty_of_size_eq_zero h3;unfold method;have hu:∀w,Sem.run Tryz.prog (underlying T) w = .ok (.pointer E) w:=run_underlying hT;simp [go_sem,typeInfo,hi,hm,h2,h4,follow,receiverAt,hu,Place.get]
theorem Pt (w:World):(isAgg 259).run Tryz.prog w = .ok false w:=by kernel_rfl
theorem F9 (fuel gh:Nat) (v:Value) (w:World) (h:w.cell? ⟨gh,0,none⟩=some v):Sem.run Tryz.prog (method (fuel+1) 257 (.pointer (some ⟨gh,0,none⟩)) "Len") w = .ok (145,v) w:=Q0 (by kernel_rfl) Tryz.underlying257 Pt fuel gh v w h
theorem Ze (fuel gh:Nat) (v:Value) (w:World) (h:w.cell? ⟨gh,0,none⟩=some v):Sem.run Tryz.prog (method (fuel+1) 257 (.pointer (some ⟨gh,0,none⟩)) "Less") w = .ok (210,v) w:=Q0 (by kernel_rfl) Tryz.underlying257 Pt fuel gh v w h
theorem M4 (fuel gh:Nat) (v:Value) (w:World) (h:w.cell? ⟨gh,0,none⟩=some v):Sem.run Tryz.prog (method (fuel+1) 257 (.pointer (some ⟨gh,0,none⟩)) "Swap") w = .ok (213,v) w:=Q0 (by kernel_rfl) Tryz.underlying257 Pt fuel gh v w h
theorem ZB (fuel gh:Nat) (w:World):Sem.run Tryz.prog (method (fuel+1) 257 (.pointer (some ⟨gh,0,none⟩)) "Push") w = .ok (212,.pointer (some ⟨gh,0,none⟩)) w:=a0k (by kernel_rfl) Tryz.underlying257 fuel gh w
theorem Xi (fuel gh:Nat) (w:World):Sem.run Tryz.prog (method (fuel+1) 257 (.pointer (some ⟨gh,0,none⟩)) "Pop") w = .ok (211,.pointer (some ⟨gh,0,none⟩)) w:=a0k (by kernel_rfl) Tryz.underlying257 fuel gh w
theorem CV (A:OA) (m c:Nat) (w:World):Calls Tryz.prog 145 #[.slice A m c] w fun e w'=>e = .returned (.int .i64 (m:Int))/\w=w':=by
 go_enter Tryz.func145,Tryz.ntmps145;go_wp2_with fail;go_ret;exact ⟨rfl,rfl⟩
theorem qL {w:World} {B g n c sz:Nat} {e:TypeId} {xs:LV} (h:w.ownsRow B e sz (.slice (some ⟨g,0,none⟩) n c) n xs) {i:Nat} {v:Value} (hv:xs[i]? = some v):w.cell? ⟨g,i,none⟩=some v/\w.frozen? ⟨g,i,none⟩=false:=by
 constructor
 .have:=h.cells (g:=g) rfl i v hv;rw [xO,Nat.zero_add] at this;exact this
 .rcases h.2 with ⟨h0,_⟩ | ⟨g',cap,cur,hv,hB,hh,_⟩
  .cases h0
  .injection hv with hA _ _
   injection hA with hA
   injection hA with hg _ _
   subst hg;simp [World.frozen?,hh]
theorem RN (B gh gr c:Nat) (a b:Hd) (w:World) (h:gj w B gh gr c [a,b]):Calls Tryz.prog 213 #[.slice (some ⟨gr,0,none⟩) 2 c,.int .i64 0,.int .i64 1] w fun e w'=>e = .returned (.tuple #[])/\gj w' B gh gr c [b,a]/\bK (fun k=>k=gr) w w':=by
 obtain ⟨c0,f0⟩:=qL h.own (i:=0) rfl;obtain ⟨c1,f1⟩:=qL h.own (i:=1) rfl;obtain ⟨c2,f2⟩:=qL h.own (i:=2) rfl;obtain ⟨c3,f3⟩:=qL h.own (i:=3) rfl;have Hh:=kp h;clear h;go_enter Tryz.func213,Tryz.ntmps213;go_wp2_with fail
 go_region
 go_end0
 refine ⟨rfl,⟨?_,?_,Hh.o.ne⟩,?_⟩
 .have av:gh≠gr:=Hh.o.ne;exact ((((Hh.o.box.bX (p:=⟨gr,0,none⟩) av _).bX (p:=⟨gr,1,none⟩) av _).bX (p:=⟨gr,2,none⟩) av _).bX (p:=⟨gr,3,none⟩) av _)
 .exact gX (gX (gX (gX Hh.o.own (i:=0) (by simp) (.slice b.A b.fs.length b.c)) (i:=1) (by simp) (.int .i64 (b.no:Int))) (i:=2) (by simp) (.slice a.A a.fs.length a.c)) (i:=3) (by simp) (.int .i64 (a.no:Int))
 .exact ((((bK.set (p:=fun k=>k=gr) w ⟨gr,0,none⟩ _ rfl).trans (bK.set _ ⟨gr,1,none⟩ _ rfl)).trans (bK.set _ ⟨gr,2,none⟩ _ rfl)).trans (bK.set _ ⟨gr,3,none⟩ _ rfl)).drew
theorem a5C (B gh gr c:Nat) (a:Hd) (w:World) (h:gj w B gh gr c [a]):Calls Tryz.prog 213 #[.slice (some ⟨gr,0,none⟩) 1 c,.int .i64 0,.int .i64 0] w fun e w'=>e = .returned (.tuple #[])/\gj w' B gh gr c [a]/\bK (fun k=>k=gr) w w':=by
 obtain ⟨c0,f0⟩:=qL h.own (i:=0) rfl;obtain ⟨c1,f1⟩:=qL h.own (i:=1) rfl;have Hh:=kp h;clear h;go_enter Tryz.func213,Tryz.ntmps213;go_wp2_with fail
 go_region
 go_end0
 refine ⟨rfl,⟨?_,?_,Hh.o.ne⟩,?_⟩
 .have av:gh≠gr:=Hh.o.ne;exact ((((Hh.o.box.bX (p:=⟨gr,0,none⟩) av _).bX (p:=⟨gr,1,none⟩) av _).bX (p:=⟨gr,0,none⟩) av _).bX (p:=⟨gr,1,none⟩) av _)
 .exact gX (gX (gX (gX Hh.o.own (i:=0) (by simp) (.slice a.A a.fs.length a.c)) (i:=1) (by simp) (.int .i64 (a.no:Int))) (i:=0) (by simp) (.slice a.A a.fs.length a.c)) (i:=1) (by simp) (.int .i64 (a.no:Int))
 .exact ((((bK.set (p:=fun k=>k=gr) w ⟨gr,0,none⟩ _ rfl).trans (bK.set _ ⟨gr,1,none⟩ _ rfl)).trans (bK.set _ ⟨gr,0,none⟩ _ rfl)).trans (bK.set _ ⟨gr,1,none⟩ _ rfl)).drew
def hk (h:Hd):LN:=match h.fs with
 | x::_=>x.keys
 | []=>[]
def sy (b a:Hd):Prop:=bP (hk b) (hk a)<0\/bP (hk b) (hk a)=0/\b.no<a.no
theorem Yz {a b:Hd} (h:sy b a):¬sy a b:=by
 unfold sy at *;rw [xy (hk b) (hk a)];omega
structure qP (w:World) (LB:Nat) (h:Hd):Prop where
 uM:dG w LB h.A h.fs
 ne:h.fs≠[]
 keys:∀f∈h.fs,f.keys.length<=1000000
 len:h.fs.length<=1000000
 cap:h.fs.length<=h.c
 no:h.no<=1000000
theorem qP.below {w w':World} {LB:Nat} {h:Hd} (ho:qP w LB h) (hb:Below LB w w'):qP w' LB h:=⟨ho.uM.below hb,ho.ne,ho.keys,ho.len,ho.cap,ho.no⟩
def Ms (p:Prop) (w:World) (e:Ending) (w':World):Prop:=∃r:Bool,e = .returned (.bool r)/\(r=true↔p)/\Below w.heap.size w w'
theorem aa7 (B gh gr c:Nat) (a b:Hd) (x y:Fa) (xs ys:List Fa) (hb:b.fs=x::xs) (ha:a.fs=y::ys) (w:World) (h:gj w B gh gr c [a,b]) (jf:dG w w.heap.size a.A a.fs) (mf:dG w w.heap.size b.A b.fs) (fL:x.keys.length<=1000000) (vn:y.keys.length<=1000000) (hn:a.no<=1000000/\b.no<=1000000) :
 Calls Tryz.prog 210 #[.slice (some ⟨gr,0,none⟩) 2 c,.int .i64 1,.int .i64 0] w (Ms (bP x.keys y.keys<0\/bP x.keys y.keys=0/\b.no<a.no) w):=by
 have HR:=kp (show ∀ (r:Bool) wx,(r=true↔(bP x.keys y.keys<0\/bP x.keys y.keys=0/\b.no<a.no))->Below w.heap.size w wx->Ms (bP x.keys y.keys<0\/bP x.keys y.keys=0/\b.no<a.no) w (.returned (.bool r)) wx from fun r wx h hb=>⟨r,rfl,h,hb⟩);generalize hQ:Ms (bP x.keys y.keys<0\/bP x.keys y.keys=0/\b.no<a.no) w=Q at *;clear hQ;obtain ⟨c0,f0⟩:=qL h.own (i:=0) rfl;obtain ⟨c1,f1⟩:=qL h.own (i:=1) rfl;obtain ⟨c2,f2⟩:=qL h.own (i:=2) rfl;obtain ⟨c3,f3⟩:=qL h.own (i:=3) rfl;have qi:gr<w.heap.size:=(h.own.lt gr rfl).2;rw [hb] at mf c2;rw [ha] at jf c0;obtain ⟨ba,oa,hA,wJ,a0,a1,a2,a3,a4,a5,a6,a7,a8,a9,dS⟩:=jf.cells 0 (by simp);obtain ⟨bb,ob,hB,ui,b0,b1,b2,b3,b4,b5,b6,b7,b8,b9,zt⟩:=mf.cells 0 (by simp);rw [hA] at c0;rw [hB] at c2;simp only [getElem_cons_zero,Nat.zero_mul,Nat.add_zero] at a0 a1 a2 a3 a4 a5 a6 a7 a8 a9 dS b0 b1 b2 b3 b4 b5 b6 b7 b8 b9 zt;have Bv:=kp (show Calls Tryz.prog 64 #[.agg (eB x),.agg (eB y)] w.drew _ from M1 x y w.drew fL vn (mf.keys x (by simp)) (jf.keys y (by simp)));have HV:=kp (show bP x.keys y.keys=bP x.keys y.keys from rfl);clear h jf mf hb ha hA hB;have sT:bb<w.heap.size:=ui;have xZ:ba<w.heap.size:=wJ;go_enter Tryz.func210,Tryz.ntmps210;go_wp2_with fail;refine wp_region_noPanic ?_;refine dt (t:=99) (S:=(fun w'=>(w'.cell? ⟨gr,0,none⟩=some (.slice (some ⟨ba,oa,none⟩) (y::ys).length a.c)/\w'.cell? ⟨gr,2,none⟩=some (.slice (some ⟨bb,ob,none⟩) (x::xs).length b.c))/\(cF w' ba oa y)/\(cF w' bb ob x))) (by kernel_rfl) ⟨⟨c0,c2⟩,⟨a0,a1,a2,a3,a4,a5,a6,a7,a8,a9,dS⟩,⟨b0,b1,b2,b3,b4,b5,b6,b7,b8,b9,zt⟩⟩ (fun ad => ?_);refine tD 0 1 2 3 ad ?_;refine tD 4 5 6 7 ad ?_;refine tD 8 9 10 11 ad ?_;refine tB 12 13 ad ?_;refine oT 14 fun K hK=>?_
 go_simp
 refine Bv.o.mono ?_;rintro e wc ⟨rfl,nF⟩;have gg:=kp nF;clear nF;refine oK hK ?_ fun af=>?_
 .have e1:∀g,g<w.heap.size->∀i,wc.cell? ⟨g,i,none⟩=w.drew.cell? ⟨g,i,none⟩:=fun g hg i=>cZ (a:=⟨g,i,none⟩) (by rw [gg.o];exact (Below.heap_alloc _ _ _ (by simp;omega)).trans (Below.heap_alloc _ _ _ hg))
  (try dsimp only [cA,oQ]);(try dsimp only [cF,kF]);(try dsimp only [cC,nV,cN,jU]);simp only [e1 gr qi,e1 ba xZ,e1 bb sT];exact ⟨⟨c0,c2⟩,⟨a0,a1,a2,a3,a4,a5,a6,a7,a8,a9,dS⟩,⟨b0,b1,b2,b3,b4,b5,b6,b7,b8,b9,zt⟩⟩
 replace ad:=af;clear hK K af;refine tk 15 ad ?_;refine dY (by kernel_rfl) ?_ _
 try clear ad
 refine NoPanic.normal ?_;have cU:Below w.drew.heap.size w.drew wc:=by rw [gg.o];exact ((aq _ _).alloc (ah _) _).alloc (by simp) _
 have d1:wc.cell? ⟨gr,1,none⟩=some (.int .i64 (a.no:Int)):=aL cU (show w.drew.cell? ⟨gr,1,none⟩=some (.int .i64 (a.no:Int)) from c1);have d3:wc.cell? ⟨gr,3,none⟩=some (.int .i64 (b.no:Int)):=aL cU (show w.drew.cell? ⟨gr,3,none⟩=some (.int .i64 (b.no:Int)) from c3);have bh:=kp (show Below w.heap.size w wc from (aq _ _).drew.trans cU);clear cU Bv c0 c1 c2 c3 f0 f1 f2 f3 a0 a1 a2 a3 a4 a5 a6 a7 a8 a9 dS b0 b1 b2 b3 b4 b5 b6 b7 b8 b9 zt gg;generalize bP x.keys y.keys=V at *;by_cases h1:V<0
 .have g1:decide (V<0)=true:=decide_eq_true h1;go_wp2_with fail
  go_quiet (fail)
  go_wp2_with fail;exact HR.o true _ (by simp [h1]) (below_drewN bh.o _)
 .have g1:decide (V<0)=false:=decide_eq_false h1;by_cases h2:V=0
  .subst h2;have g2:((0:Int) == 0)=true:=by simp
   go_wp2_with fail
   go_quiet (fail)
   go_wp2_with fail;refine HR.o _ _ ?_ (below_drewN bh.o _);simp
  .have g2:(V == 0)=false:=by simpa using h2
   go_wp2_with fail
   go_quiet (fail)
   go_wp2_with fail;exact HR.o false _ (by simp [h1,h2]) (below_drewN bh.o _)
theorem Z2 (B gh gr c LB:Nat) (a b:Hd) (w:World) (h:gj w B gh gr c [a,b]) (ha:qP w LB a) (hb:qP w LB b) (hL:LB<=w.heap.size) :
 Calls Tryz.prog 210 #[.slice (some ⟨gr,0,none⟩) 2 c,.int .i64 1,.int .i64 0] w (Ms (sy b a) w):=by
 rcases yg:b.fs with _ | ⟨x,xs⟩
 .exact absurd yg hb.ne
 .rcases NI:a.fs with _ | ⟨y,ys⟩
  .exact absurd NI ha.ne
  .have e1:hk b=x.keys:=by unfold hk;rw [yg]
   have e2:hk a=y.keys:=by unfold hk;rw [NI]
   unfold sy;rw [e1,e2];exact aa7 B gh gr c a b x y xs ys yg NI w h (ha.uM.more hL) (hb.uM.more hL) (hb.keys x (by rw [yg];simp)) (ha.keys y (by rw [NI];simp)) ⟨ha.no,hb.no⟩
theorem gj.below {w w':World} {B gh gr c:Nat} {hs:List Hd} (h:gj w B gh gr c hs) (hb:Below w.heap.size w w'):gj w' B gh gr c hs:=⟨h.box.under hb,eV h.own hb,h.ne⟩
def tF (a b:Hd) (B gh gr c:Nat) (w w':World):Prop:=∃x y,((x=a/\y=b)\/(x=b/\y=a))/\gj w' B gh gr c [x,y]/\¬sy y x/\bK (fun k=>k=gr) w w'
theorem R8 (V:Value) (w:World):Calls Tryz.prog 168 #[V,.int .i64 0] w fun e w'=>e = .returned (.tuple #[])/\w=w':=by
 go_enter Tryz.func168,Tryz.ntmps168;go_wp2_with fail
 go_loop [1,4] (fun v1 v4=>v1 = .int .i64 0) (fun _ _=>0)
 case atStart=>rfl
 case round =>
  subst hrel;go_wp2_with fail
  go_end0
  exact ⟨rfl,rfl⟩
theorem a9g (B gh gr c LB:Nat) (a b:Hd) (w:World) (h:gj w B gh gr c [a,b]) (ha:qP w LB a) (hb:qP w LB b) (hL:LB<=w.heap.size) :
 Calls Tryz.prog 168 #[mI gh,.int .i64 1] w fun e w'=>e = .returned (.tuple #[])/\tF a b B gh gr c w w':=by
 have JU:=kp (Z2 B gh gr c LB a b w h ha hb hL);have Ds:=kp RN;have Hh:=kp h;obtain ⟨c0,f0⟩:=h.box.one;have e2:=fun fuel=>Ze fuel gh _ w c0
 have HQ:=kp (show ∀w',tF a b B gh gr c w w'->(Ending.returned (.tuple #[])=Ending.returned (.tuple #[])/\tF a b B gh gr c w w') from fun w' h=>⟨rfl,h⟩);clear h ha hb;go_enter Tryz.func168,Tryz.ntmps168;go_wp2_with fail
 go_loopw [1,4] (fun v1 v4 wr=>(v1 = .int .i64 1/\wr=w)\/(v1 = .int .i64 0/\tF a b B gh gr c w wr)) (fun v1 _ _=>(intOf v1).toNat)
 case atStart=>exact .inl ⟨rfl,rfl⟩
 case round =>
  rcases hrel with ⟨rfl,rfl⟩ | ⟨rfl,BA⟩
  .go_wp2_with fail;refine JU.o.mono ?_;rintro e w1 ⟨r,rfl,hr,ax⟩;have Hr:=kp hr;have zu:=kp (Hh.o.below ax);have c1:=aL ax c0;have e3:=fun fuel=>M4 fuel gh _ w1 c1
   have SD:=kp (Ds.o B gh gr c a b w1 zu.o);have aM:=kp ax;clear hr ax JU;rcases r with _ | _
   .have hn:¬sy b a:=fun h=>by have:=Hr.o.2 h;cases this
    have qY:=kp (show tF a b B gh gr c wr w1 from ⟨a,b,.inl ⟨rfl,rfl⟩,zu.o,hn,bK.below aM.o⟩);go_wp2_with fail
    go_end0
    exact ⟨rfl,qY.o⟩
   .have hn:¬sy a b:=Yz (Hr.o.1 rfl);go_wp2_with fail;refine SD.o.mono ?_;rintro e w2 ⟨rfl,sX,uj⟩;have qY:=kp (show tF a b B gh gr c wr w2 from ⟨b,a,.inr ⟨rfl,rfl⟩,sX,hn,(bK.below aM.o).trans uj⟩);clear sX uj;go_wp2_with fail;exact ⟨.inr ⟨rfl,qY.o⟩,by simp [intOf]⟩
  .have qY:=kp BA;clear BA;go_wp2_with fail
   go_end0
   exact ⟨rfl,qY.o⟩
theorem QB (V:Value) (n:Nat) (hn:n<=1) (w:World):Calls Tryz.prog 169 #[V,.int .i64 0,.int .i64 (n:Int)] w fun e w'=>e = .returned (.bool false)/\w=w':=by
 have h1:(n:Int)<=1:=by omega
 go_enter Tryz.func169,Tryz.ntmps169;go_wp2_with fail
 go_loop [7] (fun v7=>v7 = .int .i64 0) (fun _=>0)
 case atStart=>rfl
 case round =>
  subst hrel;go_wp2_with fail;go_ret;exact ⟨rfl,rfl⟩
def PF (a b:Hd) (B gh gr c:Nat) (w:World) (e:Ending) (w':World):Prop:=∃r:Bool,e = .returned (.bool r)/\tF a b B gh gr c w w'
theorem a7h (B gh gr c LB:Nat) (a b:Hd) (w:World) (h:gj w B gh gr c [a,b]) (ha:qP w LB a) (hb:qP w LB b) (hL:LB<=w.heap.size) :
 Calls Tryz.prog 169 #[mI gh,.int .i64 0,.int .i64 2] w (PF a b B gh gr c w):=by
 have JU:=kp (Z2 B gh gr c LB a b w h ha hb hL);have Ds:=kp RN;have Hh:=kp h;obtain ⟨c0,f0⟩:=h.box.one;have e2:=fun fuel=>Ze fuel gh _ w c0
 have HQ:=kp (show ∀ (r:Bool) w',tF a b B gh gr c w w'->PF a b B gh gr c w (.returned (.bool r)) w' from fun r w' h=>⟨r,rfl,h⟩);generalize hQ:PF a b B gh gr c w=Q at *;clear h ha hb hQ;go_enter Tryz.func169,Tryz.ntmps169;go_wp2_with fail
 go_loopw [7] (fun v7 wr=>(v7 = .int .i64 0/\wr=w)\/(v7 = .int .i64 1/\tF a b B gh gr c w wr)) (fun v7 _=>1-(intOf v7).toNat)
 case atStart=>exact .inl ⟨rfl,rfl⟩
 case round =>
  rcases hrel with ⟨rfl,rfl⟩ | ⟨rfl,BA⟩
  .go_wp2_with fail;refine JU.o.mono ?_;rintro e w1 ⟨r,rfl,hr,ax⟩;have Hr:=kp hr;have zu:=kp (Hh.o.below ax);have c1:=aL ax c0;have e3:=fun fuel=>M4 fuel gh _ w1 c1
   have SD:=kp (Ds.o B gh gr c a b w1 zu.o);have aM:=kp ax;clear hr ax JU;rcases r with _ | _
   .have hn:¬sy b a:=fun h=>by have:=Hr.o.2 h;cases this
    have qY:=kp (show tF a b B gh gr c wr w1 from ⟨a,b,.inl ⟨rfl,rfl⟩,zu.o,hn,bK.below aM.o⟩);go_wp2_with fail;exact HQ.o _ _ qY.o
   .have hn:¬sy a b:=Yz (Hr.o.1 rfl);go_wp2_with fail;refine SD.o.mono ?_;rintro e w2 ⟨rfl,sX,uj⟩;have qY:=kp (show tF a b B gh gr c wr w2 from ⟨b,a,.inr ⟨rfl,rfl⟩,sX,hn,(bK.below aM.o).trans uj⟩);clear sX uj;go_wp2_with fail;exact ⟨.inr ⟨rfl,qY.o⟩,by simp [intOf]⟩
  .have qY:=kp BA;clear BA;go_wp2_with fail;exact HQ.o _ _ qY.o
theorem a7y (B gh gr c:Nat) (a:Hd) (w:World) (h:gj w B gh gr c [a]):Calls Tryz.prog 147 #[mI gh,.int .i64 0] w fun e w'=>e = .returned (.tuple #[])/\w=w':=by
 obtain ⟨c0,f0⟩:=h.box.one;have e1:=fun fuel=>F9 fuel gh _ w c0
 have HL:=kp (CV (some ⟨gr,0,none⟩) 1 c w);have HD:=kp (QB (mI gh) 1 (by omega) w);have HU:=kp (R8 (mI gh) w);go_enter Tryz.func147,Tryz.ntmps147;go_wp2_with fail;refine HL.o.mono ?_;rintro e w1 ⟨rfl,rfl⟩;go_wp2_with fail;refine HD.o.mono ?_;rintro e w1 ⟨rfl,rfl⟩;go_wp2_with fail;refine HU.o.mono ?_;rintro e w1 ⟨rfl,rfl⟩;go_wp2_with fail
 go_end0
 exact ⟨rfl,rfl⟩
def R5 (a b:Hd) (B gh gr c:Nat) (w:World) (e:Ending) (w':World):Prop:=e = .returned (.tuple #[])/\tF a b B gh gr c w w'
theorem a6W (B gh gr c LB:Nat) (a b:Hd) (w:World) (h:gj w B gh gr c [a,b]) (ha:qP w LB a) (hb:qP w LB b) (hL:LB<=w.heap.size):Calls Tryz.prog 147 #[mI gh,.int .i64 0] w (R5 a b B gh gr c w):=by
 obtain ⟨c0,f0⟩:=h.box.one;have e1:=fun fuel=>F9 fuel gh _ w c0
 have HL:=kp (CV (some ⟨gr,0,none⟩) 2 c w);have HD:=kp (a7h B gh gr c LB a b w h ha hb hL);have HU:=kp (R8 (mI gh));have HQ:=kp (show ∀w',tF a b B gh gr c w w'->R5 a b B gh gr c w (.returned (.tuple #[])) w' from fun w' h=>⟨rfl,h⟩);generalize hQ:R5 a b B gh gr c w=Q at *;clear h ha hb hQ;go_enter Tryz.func147,Tryz.ntmps147;go_wp2_with fail;refine HL.o.mono ?_;rintro e w1 ⟨rfl,rfl⟩;go_wp2_with fail;refine HD.o.mono ?_;rintro e w1 ⟨r,rfl,BA⟩;have qY:=kp BA;clear BA HD HL;rcases r with _ | _
 .go_wp2_with fail;refine (HU.o w1).mono ?_;rintro e w2 ⟨rfl,rfl⟩;go_wp2_with fail
  go_end0
  exact HQ.o _ qY.o
 .go_wp2_with fail
  go_end0
  exact HQ.o _ qY.o
theorem a9c {w:World} {B g n c sz m:Nat} {e:TypeId} {xs ys:LV} (h:w.ownsRow B e sz (.slice (some ⟨g,0,none⟩) n c) n (xs++ys)) (hx:xs.length=m*sz) (hm:m<=n):w.ownsRow B e sz (.slice (some ⟨g,0,none⟩) m c) m xs:=by
 refine ⟨hx,?_⟩;rcases h.2 with ⟨h0,_⟩ | ⟨g',cap,cur,hv,hB,hh,j7,fj,cE,ht⟩
 .cases h0
 .injection hv with hA _ hc
  injection hA with hA
  injection hA with hg _ _
  subst hg hc;refine .inr ⟨g,c,cur,rfl,hB,hh,by omega,fj,cE,?_⟩;have h1:m*sz<=n*sz:=Nat.mul_le_mul_right _ hm;have h2:cur.toList.take (m*sz)=(cur.toList.take (n*sz)).take (m*sz):=by rw [take_take,Nat.min_eq_left h1]
  rw [h2,ht,<-hx,take_left]
def Px (hs:List Hd) (B gh gr c:Nat) (w:World) (e:Ending) (w':World):Prop:=∃v,e = .returned v/\gj w' B gh gr c hs/\bK (fun k=>k=gh) w w'
theorem Z5 (B gh gr c:Nat) (hs:List Hd) (x:Hd) (hl:hs.length<=1) (hc:hs.length+1<=c) (fj:c<=9223372036854775807) (w:World) (h:gj w B gh gr c (hs++[x])):Calls Tryz.prog 211 #[.pointer (some ⟨gh,0,none⟩)] w (Px hs B gh gr c w):=by
 have aE:=h.own;have aJ:=h.box;obtain ⟨n,hn⟩:∃n,hs.length=n:=⟨_,rfl⟩
 have aX:(hs++[x]).length=n+1:=by simp [hn]
 rw [aX] at aE aJ;have oV:(hs++[x]).flatMap yF=hs.flatMap yF++yF x:=by rw [flatMap_append];simp
 have zv:(hs.flatMap yF).length=n*2:=by rw [kI a9w,hn]
 rw [oV] at aE;obtain ⟨c0,f0⟩:=aJ.one;obtain ⟨c1,f1⟩:=qL aE (i:=n*2) (v := .slice x.A x.fs.length x.c) (by rw [getElem?_append_right (by rw [zv];exact ah _),zv,Nat.sub_self];rfl);obtain ⟨c2,f2⟩:=qL aE (i:=n*2+1) (v := .int .i64 (x.no:Int)) (by rw [getElem?_append_right (by rw [zv];omega),zv,show n*2+1-n*2=1 by omega];rfl);have qi:gh<w.heap.size:=aJ.lt;have bF:=kp aE;have bO:=kp aJ;have nz:=kp h.ne;have Hfx:=kp zv;have HQ:=kp (show ∀v w',gj w' B gh gr c hs->bK (fun k=>k=gh) w w'->Px hs B gh gr c w (.returned v) w' from fun v w' h1 h2=>⟨v,rfl,h1,h2⟩);have Hn:=kp hn;generalize hQ:Px hs B gh gr c w=Q at *;have j7:(n:Int)+1<=(c:Int):=by omega
 have ej:n<=1:=by omega
 clear h aE aJ oV zv aX hQ hn hl;have BB:=(aq w.heap.size w).alloc (ah _) (.cells #[.slice x.A x.fs.length x.c,.int .i64 (x.no:Int)] 262);have Dt:=kp BB;have me:=kp (aa.new w 262 #[.slice x.A x.fs.length x.c,.int .i64 (x.no:Int)]);clear BB;go_enter Tryz.func211,Tryz.ntmps211;go_upto_region 3 with fail
 have k0:=aL Dt.o c0;have kf:(w.alloc (.cells #[.slice x.A x.fs.length x.c,.int .i64 (x.no:Int)] 262)).frozen? ⟨gh,0,none⟩=false:=by rw [lU Dt.o _ _ qi];exact f0
 have fK:=kp (eV bF.o Dt.o);have jA:=kp (bO.o.under Dt.o);clear c0 c1 c2 f0 f1 f2;generalize dN:w.alloc (.cells #[.slice x.A x.fs.length x.c,.int .i64 (x.no:Int)] 262)=W2 at *;clear dN;have uf:decide ((c:Int)=(n:Int))=false:=by simp;omega
 go_upto_region 4 with fail
 have SE:=kp (me.o.bX (p:=⟨gh,0,none⟩) (by simp;omega) (.slice (some ⟨gr,0,none⟩) n c));have Hf:=kp (HQ.o (.iface 262 (.agg #[.slice x.A x.fs.length x.c,.int .i64 (x.no:Int)])) (W2.setCell ⟨gh,0,none⟩ (.slice (some ⟨gr,0,none⟩) n c)) ⟨by rw [Hn.o];exact jA.o.set 0 _,by rw [Hn.o];exact (a9c fK.o Hfx.o (by omega)).kept (grownBy_setCell' W2 gh _) (.inr (fun e=>by (have e2:gr=gh:=by injection e);have:=nz.o;omega)),nz.o⟩ ((bK.below Dt.o).trans (bK.set (p:=fun k=>k=gh) W2 ⟨gh,0,none⟩ _ rfl)));obtain ⟨d0,d1,_,_⟩:=SE.o.two;clear k0 kf;go_wp2_with fail;exact Hf.o
theorem a5s (B gh gr c:Nat) (a:Hd) (w:World) (hc:1<=c) (fj:c<=9223372036854775807) (h:gj w B gh gr c [a]):Calls Tryz.prog 146 #[mI gh] w fun e w'=>∃v,e = .returned v/\gj w' B gh gr c []/\bK (fun k=>k=gh\/k=gr) w w':=by
 obtain ⟨c0,f0⟩:=h.box.one;have e1:=fun fuel=>F9 fuel gh _ w c0
 have e2:=fun fuel=>M4 fuel gh _ w c0
 have e3:=fun fuel w=>Xi fuel gh w
 have HL:=kp (CV (some ⟨gr,0,none⟩) 1 c w);have Ds:=kp (a5C B gh gr c a w h);have HD:=kp (QB (mI gh) 0 (by omega));have HP:=kp (fun w' (h':gj w' B gh gr c [a])=>Z5 B gh gr c [] a (by simp) (by simpa using hc) fj w' h');go_enter Tryz.func146,Tryz.ntmps146;go_wp2_with fail;refine HL.o.mono ?_;rintro e w1 ⟨rfl,rfl⟩;go_wp2_with fail;refine Ds.o.mono ?_;rintro e w1 ⟨rfl,JV,zw⟩;have zu:=kp JV;have BC:=kp zw;clear JV zw;go_wp2_with fail;refine (HD.o w1).mono ?_;rintro e w2 ⟨rfl,rfl⟩;go_wp2_with fail;refine (HP.o w1 zu.o).mono ?_;rintro e w2 ⟨v,rfl,sX,uj⟩;have JW:=kp sX;have SF:=kp uj;clear sX uj;go_wp2_with fail;go_ret;exact ⟨_,rfl,JW.o,(BC.o.more (fun k h => .inr h)).trans (SF.o.more (fun k h => .inl h))⟩
theorem aaY (B gh gr c:Nat) (a b:Hd) (w:World) (hc:2<=c) (fj:c<=9223372036854775807) (h:gj w B gh gr c [a,b]):Calls Tryz.prog 146 #[mI gh] w fun e w'=>∃v,e = .returned v/\gj w' B gh gr c [b]/\bK (fun k=>k=gh\/k=gr) w w':=by
 obtain ⟨c0,f0⟩:=h.box.one;have e1:=fun fuel=>F9 fuel gh _ w c0
 have e2:=fun fuel=>M4 fuel gh _ w c0
 have e3:=fun fuel w=>Xi fuel gh w
 have HL:=kp (CV (some ⟨gr,0,none⟩) 2 c w);have Ds:=kp (RN B gh gr c a b w h);have HD:=kp (QB (mI gh) 1 (by omega));have HP:=kp (fun w' (h':gj w' B gh gr c [b,a])=>Z5 B gh gr c [b] a (by simp) (by simpa using hc) fj w' h');go_enter Tryz.func146,Tryz.ntmps146;go_wp2_with fail;refine HL.o.mono ?_;rintro e w1 ⟨rfl,rfl⟩;go_wp2_with fail;refine Ds.o.mono ?_;rintro e w1 ⟨rfl,JV,zw⟩;have zu:=kp JV;have BC:=kp zw;clear JV zw;go_wp2_with fail;refine (HD.o w1).mono ?_;rintro e w2 ⟨rfl,rfl⟩;go_wp2_with fail;refine (HP.o w1 zu.o).mono ?_;rintro e w2 ⟨v,rfl,sX,uj⟩;have JW:=kp sX;have SF:=kp uj;clear sX uj;go_wp2_with fail;go_ret;exact ⟨_,rfl,JW.o,(BC.o.more (fun k h => .inr h)).trans (SF.o.more (fun k h => .inl h))⟩
theorem abp:(Tryz.prog.info? 262).map (fun i=>(i.zero,i.size,i.bytes))=some (some (.agg #[.slice none 0 0,.int .i64 0]),2,32):=by kernel_rfl
abbrev tz (h:Hd):AV:=#[.slice h.A h.fs.length h.c,.int .i64 (h.no:Int)]
theorem a8P (v:Value) (w:World):Sem.run Tryz.prog (Instr.typeAssert (.iface 262 v) 20 262 true) w = .ok (.tuple #[v,.bool true]) w:=by kernel_rfl
theorem aap (x:Hd):∀u∈(tz x).toList,u.oneCell'=true:=by
 intro u hu;simp only [tz,mem_cons,not_mem_nil,or_false] at hu;rcases hu with rfl | rfl<;>rfl
theorem a9q (w:World) (o:Obj) {b i:Nat} (hb:b<w.heap.size):(w.alloc o).frozen? ⟨b,i,none⟩=w.frozen? ⟨b,i,none⟩:=lU ((aq w.heap.size w).alloc (ah _) o) b i hb
theorem abE {w w':World} {v v':Value} (h:App w.drew w' v v'):App w w' v v':=⟨⟨h.grown.os,h.grown.tape,h.grown.output,h.grown.size,h.grown.block⟩,h.qH⟩
def Fx (hs:List Hd) (B gh LB:Nat) (w:World) (e:Ending) (w':World):Prop:=e = .returned (.tuple #[])/\(∃mq c',gj w' B gh mq c' hs/\hs.length<=c'/\c'<=9223372036854775807)/\Below LB w w'
theorem a0u (B gh gr c LB:Nat) (hs:List Hd) (x:Hd) (hl:hs.length<=1) (w:World) (G2:LB<=B) (JX:LB<=gh) (hB:B<=w.heap.size) (h:gj w B gh gr c hs):Calls Tryz.prog 212 #[.pointer (some ⟨gh,0,none⟩),.iface 262 (.agg (tz x))] w (Fx (hs++[x]) B gh LB w):=by
 obtain ⟨n,hn⟩:∃n,hs.length=n:=⟨_,rfl⟩
 have ace:=h.ne;have aE:=h.own;have aJ:=h.box;rw [hn] at aE aJ;have qi:gh<w.heap.size:=aJ.lt;have aeJ:gr<w.heap.size:=(aE.lt gr rfl).2;have HQ:=kp (show ∀w',(∃mq c',gj w' B gh mq c' (hs++[x])/\(hs++[x]).length<=c'/\c'<=9223372036854775807)->Below LB w w'->Fx (hs++[x]) B gh LB w (.returned (.tuple #[])) w' from fun w' h1 h2=>⟨rfl,h1,h2⟩);generalize hQ:Fx (hs++[x]) B gh LB w=Q at *;obtain ⟨i0,cG,cI,cH,cJ⟩:=info_parts abp;have BB:=(aq w.heap.size w).alloc (ah _) (.cells (tz x) 262);have Dt:=kp BB;have me:=kp (aa.new w 262 (tz x));have fK:=kp (eV aE BB);have jA:=kp (aJ.under BB);have Hn:=kp hn;have ej:n<=1:=by omega
 have HBs:=kp (show B<=(w.alloc (.cells (tz x) 262)).heap.size by have:=BB.size;omega);clear h aE aJ hn hQ BB hl;unfold tz at *;have ud:=a8P;go_enter Tryz.func212,Tryz.ntmps212;go_upto_region 1 with fail
 generalize dN:w.alloc (.cells #[.slice x.A x.fs.length x.c,.int .i64 (x.no:Int)] 262)=W2 at *;generalize JY:w.heap.size=gx at *;clear dN;obtain ⟨c0,f0⟩:=jA.o.one;obtain ⟨x0,x1,_,_⟩:=me.o.two;have NJ:gh<W2.heap.size:=jA.o.lt;have je:=kp (show (Value.slice (some ⟨gr,0,none⟩) n c).ownBlock≠some gh from fun hh=>by (have e2:gr=gh:=by injection hh);omega);refine wp_region_noPanic ?_;refine dt (t:=8) (S:=(fun w'=>(w'.cell? ⟨gh,0,none⟩=some (.slice (some ⟨gr,0,none⟩) n c)/\w'.frozen? ⟨gh,0,none⟩=false)/\(w'.cell? ⟨gx,0,none⟩=some (.slice x.A x.fs.length x.c)/\w'.cell? ⟨gx,1,none⟩=some (.int .i64 (x.no:Int))))) (by kernel_rfl) ⟨⟨c0,f0⟩,⟨x0,x1⟩⟩ (fun ad => ?_);refine tD 0 1 2 3 ad ?_;refine tk 4 ad ?_;have mr:gx<W2.heap.size:=me.o.lt;have acf:=kp (show (Value.slice (some ⟨gr,0,none⟩) n c).ownBlock≠some gx from fun hh=>by (have e2:gr=gx:=by injection hh);omega);refine oT 5 fun K hK=>?_
 go_simp
 refine oK hK ?_ fun af=>?_
 .exact ⟨⟨aL ((aq _ _).alloc (ah _) _) ad.1.1,(a9q W2 _ NJ).trans ad.1.2⟩,aL ((aq _ _).alloc (ah _) _) ad.2.1,aL ((aq _ _).alloc (ah _) _) ad.2.2⟩
 replace ad:=af;clear hK K af;refine oT 6 fun K hK=>?_
 refine M9 rfl (.tmp 14) (.tmp 16) 259 rfl B 262 i0 _ 2 32 Tryz.underlying259 cG cI cH cJ rfl (by decide) W2.drew #[.slice x.A x.fs.length x.c,.int .i64 (x.no:Int)] rfl (aap x) (.slice (some ⟨gr,0,none⟩) n c) n (hs.flatMap yF) rfl fK.o rfl (by omega) (by decide) HBs.o ?_;intro v5 w5 aY bV;obtain ⟨A5,c5,h5⟩:=eM aY;subst h5;have cP:=kp aY;have dh:=kp (abE bV);clear aY bV
 go_simp
 refine oK hK ?_ fun af=>?_
 .have e1:=(dh.o.de NJ je.o)
  have e2:=(Below.heap_alloc W2 (.cells #[.slice x.A x.fs.length x.c,.int .i64 (x.no:Int)] 262) _ NJ)
  have e3:=(dh.o.de mr acf.o)
  have e4:=(Below.heap_alloc W2 (.cells #[.slice x.A x.fs.length x.c,.int .i64 (x.no:Int)] 262) _ mr)
  exact ⟨⟨(cZ (a:=⟨gh,0,none⟩) (e1.trans e2.symm)).trans ad.1.1,by have h:=ad.1.2;unfold World.frozen? at h ⊢;rw [e1.trans e2.symm];exact h⟩,(cZ (a:=⟨gx,0,none⟩) (e3.trans e4.symm)).trans ad.2.1,(cZ (a:=⟨gx,1,none⟩) (e3.trans e4.symm)).trans ad.2.2⟩
 replace ad:=af;clear hK K af;refine tk 7 ad ?_;refine rr (o := ?op8) (by kernel_rfl) ?ap8 (by kernel_rfl) (fun K hK => ?bp8)
 case ap8=>(simp only [getElem?_toArray,getElem?_cons_succ,getElem?_cons_zero];exact rfl)
 obtain ⟨⟨ic,oX⟩,_⟩:=ad;have ad:=ic
 go_simp
 refine hK.out _ _ ?_;clear hK K ad;refine NoPanic.normal ?_
 try simp only [Act.put,setIfInBounds_toArray,set_cons_zero,set_cons_succ]
 have aY:=cP.o;rcases aY.2 with ⟨h0,h1⟩ | ⟨g5,cap,cur,hv,hB5,hh5,j7,fj,cE,ht⟩
 .omega
 .injection hv with hA _ hc
  subst hA hc;have av:gh≠g5:=by
   rcases dh.o.qH with hl | ⟨k,hl,hk⟩
   .have e2:g5=gr:=by injection hl
    omega
   .have e2:g5=k:=by injection hl
    omega
  go_end0
  refine HQ.o _ ⟨g5,c5,⟨?_,?_,av⟩,by rw [aS,Hn.o];exact j7,by unfold maxLen at fj;omega⟩ ?_
  .have e1:=(dh.o.de NJ je.o)
   have:aa w5 gh 259 #[.slice (some ⟨gr,0,none⟩) n c]:=e1.trans jA.o;have:=this.set 0 (.slice (some ⟨g5,0,none⟩) (n+1) c5);rw [aS,Hn.o];exact this
  .have:(hs++[x]).flatMap yF=hs.flatMap yF++#[Value.slice x.A x.fs.length x.c,.int .i64 (x.no:Int)].toList:=by rw [flatMap_append];simp
   rw [this,aS,Hn.o];exact aY.kept (grownBy_setCell' w5 gh _) (.inr (fun e=>by (have e2:g5=gh:=by injection e);omega))
  .exact (dh.o.mO (Dt.o.mono (by omega)) fK.o G2 (by omega)).setCell (p:=⟨gh,0,none⟩) JX _
theorem a8O (B gh gr c LB:Nat) (x:Hd) (w:World) (G2:LB<=B) (JX:LB<=gh) (hB:B<=w.heap.size) (h:gj w B gh gr c []):Calls Tryz.prog 144 #[mI gh,.iface 262 (.agg (tz x))] w (Fx [x] B gh LB w):=by
 have e3:=fun fuel w=>ZB fuel gh w
 have HP:=kp (a0u B gh gr c LB [] x (by simp) w G2 JX hB h);have HL:=kp CV;have HU:=kp (R8 (mI gh));have HQ:=kp (show ∀w',(∃mq c',gj w' B gh mq c' [x]/\[x].length<=c'/\c'<=9223372036854775807)->Below LB w w'->Fx [x] B gh LB w (.returned (.tuple #[])) w' from fun w' h1 h2=>⟨rfl,h1,h2⟩);generalize hQ:Fx [x] B gh LB w=Q at *;clear hQ h;unfold tz at *;go_enter Tryz.func144,Tryz.ntmps144;go_wp2_with fail;refine HP.o.mono ?_;rintro e w1 ⟨rfl,⟨mq,c',hh,iv,nI⟩,ax⟩;have Hh:=kp hh;have aM:=kp ax;have SG:=kp iv;obtain ⟨c0,f0⟩:=hh.box.one;have e1:=fun fuel=>F9 fuel gh _ w1 c0
 have Dk:=kp (HL.o (some ⟨mq,0,none⟩) 1 c' w1);clear hh ax iv HP;go_wp2_with fail;refine Dk.o.mono ?_;rintro e w2 ⟨rfl,rfl⟩;go_wp2_with fail;refine (HU.o w1).mono ?_;rintro e w2 ⟨rfl,rfl⟩;go_wp2_with fail
 go_end0
 exact HQ.o _ ⟨mq,c',Hh.o,SG.o,nI⟩ aM.o
def Qe (a b:Hd) (B gh LB:Nat) (w:World) (e:Ending) (w':World):Prop:=e = .returned (.tuple #[])/\(∃mq c' x y,((x=a/\y=b)\/(x=b/\y=a))/\gj w' B gh mq c' [x,y]/\¬sy y x/\2<=c'/\c'<=9223372036854775807)/\Below LB w w'
theorem a9V (B gh gr c LB:Nat) (a x:Hd) (w:World) (G2:LB<=B) (JX:LB<=gh) (hB:B<=w.heap.size) (h:gj w B gh gr c [a]) (ha:qP w LB a) (hx:qP w LB x):Calls Tryz.prog 144 #[mI gh,.iface 262 (.agg (tz x))] w (Qe a x B gh LB w):=by
 have e3:=fun fuel w=>ZB fuel gh w
 have HP:=kp (a0u B gh gr c LB [a] x (by simp) w G2 JX hB h);have HL:=kp CV;have HU:=kp (fun mq c' w' (h':gj w' B gh mq c' [a,x]) (hb:Below LB w w')=>a9g B gh mq c' LB a x w' h' (ha.below hb) (hx.below hb) (by have:=hb.size;omega));have HQ:=kp (show ∀w',(∃mq c' p q,((p=a/\q=x)\/(p=x/\q=a))/\gj w' B gh mq c' [p,q]/\¬sy q p/\2<=c'/\c'<=9223372036854775807)->Below LB w w'->Qe a x B gh LB w (.returned (.tuple #[])) w' from fun w' h1 h2=>⟨rfl,h1,h2⟩);generalize hQ:Qe a x B gh LB w=Q at *;clear hQ h ha hx;unfold tz at *;go_enter Tryz.func144,Tryz.ntmps144;go_wp2_with fail;refine HP.o.mono ?_;rintro e w1 ⟨rfl,⟨mq,c',hh,iv,nI⟩,ax⟩;have aM:=kp ax;have SG:=kp iv;obtain ⟨c0,f0⟩:=hh.box.one;have e1:=fun fuel=>F9 fuel gh _ w1 c0
 have Dk:=kp (HL.o (some ⟨mq,0,none⟩) 2 c' w1);have HU1:=kp (HU.o mq c' w1 hh ax);have Hg:=kp (show B<=mq from (hh.own.lt mq rfl).1);clear hh ax iv HP;go_wp2_with fail;refine Dk.o.mono ?_;rintro e w2 ⟨rfl,rfl⟩;go_wp2_with fail;refine HU1.o.mono ?_;rintro e w2 ⟨rfl,p,q,SH,sX,ae,ht⟩;have JW:=kp sX;have Ht:=kp ht;clear sX ht;go_wp2_with fail
 go_end0
 exact HQ.o _ ⟨mq,c',p,q,SH,JW.o,ae,SG.o,nI⟩ (aM.o.trans (Ht.o.toBelow (B:=LB) (fun k e=>by subst e;exact aT G2 Hg.o) (by have:=aM.o.size;omega)))
def qK (hs:List Hd):List (LN×Ag):=hs.flatMap fun h=>aG h.fs
def fS (rs:List Rn):List (LN×Ag):=rs.flatMap fun r=>aG r.fs
def Ordered (hs:List Hd):Prop:=∀a b,hs=[a,b]->¬sy b a
def lenOf:Value->Nat
 | .slice _ n _=>n
 | _=>0
structure vJ (w:World) (LB gh gr c:Nat) (hs:List Hd):Prop where
 heap:gj w LB gh gr c hs
 two:hs.length<=2
 cap:hs.length<=c
 cm:c<=9223372036854775807
 ord:Ordered hs
 each:∀h∈hs,qP w LB h/\gU h.fs
 lo:LB<=gh
theorem vJ.lt {w:World} {LB gh gr c:Nat} {hs:List Hd} (h:vJ w LB gh gr c hs):gh<w.heap.size/\gr<w.heap.size/\LB<=gr:=⟨h.heap.box.lt,(h.heap.own.lt gr rfl).2,(h.heap.own.lt gr rfl).1⟩
theorem vJ.bX {w w':World} {LB gh gr c:Nat} {hs:List Hd} (h:vJ w LB gh gr c hs) (hb:Below LB w w') (e1:w'.heap[gh]? = w.heap[gh]?) (e2:w'.heap[gr]? = w.heap[gr]?):vJ w' LB gh gr c hs:=by
 refine ⟨⟨e1.trans h.heap.box,?_,h.heap.ne⟩,h.two,h.cap,h.cm,h.ord,fun x hx=>⟨(h.each x hx).1.below hb,(h.each x hx).2⟩,h.lo⟩;obtain ⟨h1,h2⟩:=h.heap.own;refine ⟨h1,?_⟩;rcases h2 with h2 | ⟨g,cap,cur,r1,r2,r3,r4⟩
 .exact .inl h2
 .refine .inr ⟨g,cap,cur,r1,r2,?_,r4⟩;injection r1 with hA _ _
  injection hA with hA
  injection hA with hg _ _
  subst hg;exact e2.trans r3
theorem dG.tail {w:World} {B b off:Nat} {x:Fa} {xs:List Fa} (h:dG w B (some ⟨b,off,none⟩) (x::xs)):dG w B (some ⟨b,off+11,none⟩) xs:=by
 have:=h.sub 1 xs.length;simpa using this
theorem a03 {rs:List Rn} (h2:rs.length<=2) (ho:∀r∈rs,r.fs.length<=400000):(fS rs).length<=800000:=by
 rcases rs with _ | ⟨a,_ | ⟨b,_ | ⟨c,rs⟩⟩⟩
 .simp [fS]
 .have:=ho a (by simp);simp [fS,aG];omega
 .have:=ho a (by simp);have:=ho b (by simp);simp [fS,aG];omega
 .simp at h2
theorem RC {l l':List Fa} (e:l'.map pl=l.map pl) (h:gU l):gU l':=by
 have key:∀l:List Fa,gU l↔(l.map pl).Pairwise (fun a b=>bP a.1 b.1<=0):=fun l=>by
  unfold gU;rw [pairwise_map];rfl
 rw [key,e,<-key];exact h
theorem Y4 {rs:List Rn} (ho:∀r∈rs,∀f∈r.fs,f.keys.length<=1000000) {p:LN×Ag} (hp:p∈fS rs):p.1.length<=1000000:=by
 unfold fS at hp;obtain ⟨r,hr,hp⟩:=mem_flatMap.1 hp;obtain ⟨f,hf,rfl⟩:=mem_map.1 hp;exact ho r hr f hf
theorem aag {lo:List Fa} {x:Fa} (h:gU lo) (hx:∀f∈lo,bP f.keys x.keys<=0):gU (lo++[x]):=by
 unfold gU at *;rw [pairwise_append];exact ⟨h,pairwise_singleton _ _,fun a ha b hb=>by rw [mem_singleton.1 hb];exact hx a ha⟩
theorem a07 {x:Fa} {xs:List Fa} (h:gU (x::xs)):∀g∈x::xs,bP x.keys g.keys<=0:=by
 intro g hg;rcases mem_cons.1 hg with rfl | hg
 .rw [AU];exact Int.le_refl _
 .exact (pairwise_cons.1 h).1 g hg
theorem a9n {a:Hd} {tl:List Hd} {x:Fa} {xs:List Fa} (hx:a.fs=x::xs) (ho:Ordered (a::tl)) (h2:tl.length<=1) (hs:∀h∈a::tl,gU h.fs/\h.fs≠[]):∀h∈a::tl,∀g∈h.fs,bP x.keys g.keys<=0:=by
 intro h hh g hg;rcases mem_cons.1 hh with rfl | hh
 .have:=(hs h (by simp)).1;rw [hx] at this hg;exact a07 this g hg
 .rcases tl with _ | ⟨b,_ | ⟨b',tl⟩⟩
  .cases hh
  .obtain rfl:=mem_singleton.1 hh;obtain ⟨h3,h4⟩:=hs h (by simp);rcases hb:h.fs with _ | ⟨y,ys⟩
   .exact absurd hb h4
   .have hn:=ho a h rfl;unfold sy at hn;have e1:hk h=y.keys:=by unfold hk;rw [hb]
    have e2:hk a=x.keys:=by unfold hk;rw [hx]
    rw [e1,e2,xy x.keys y.keys] at hn;rw [hb] at h3 hg;exact Fw (by omega) (a07 h3 g hg)
  .simp at h2
structure J4 (r:Rn):Prop where
 sorted:gU r.fs
 cap:r.fs.length<=r.c
 keys:∀f∈r.fs,f.keys.length<=1000000
 len:r.fs.length<=400000
theorem aaw (A:OA) (rs:List Rn) (c:Nat) (w:World) (h2:rs.length<=2) (hr:qO w w.heap.size A rs) (ho:∀r∈rs,J4 r) :
 Calls Tryz.prog 109 #[.slice A rs.length c] w (Fp (fS rs) w):=by
 have gQ:=kp (show ∀v l' w',(l'.map pl).Perm (fS rs)->gU l'->cT w' w.heap.size v l'->jK w.heap.size l'->Below w.heap.size w w'->Fp (fS rs) w (.returned v) w' from fun v l' w' h1 h2 h3 h4 hb=>⟨v,l',rfl,h1,h2,h3,h4,hb⟩);have Hr:=kp hr;have Ho:=kp ho;have HP0:=kp a8O;have HP1:=kp a9V;clear hr ho;generalize hQ:Fp (fS rs) w=Q at *;clear hQ;obtain ⟨m,hm⟩:∃m,rs.length=m:=⟨_,rfl⟩
 have Hm:=kp hm;rw [hm] at h2 ⊢;clear hm;go_enter Tryz.func109,Tryz.ntmps109;go_wp2_with fail
 go_loopw [12] (fun kq wr=>∃ (k gr c':Nat) (hs:List Hd),k<=m/\kq = .int .i64 k/\hs.length<=k/\vJ wr w.heap.size (w.heap.size+1) gr c' hs/\(qK hs).Perm (fS (rs.take k))/\Below w.heap.size w wr) (fun kq _=>m-(intOf kq).toNat)
 case atStart =>
  refine ⟨0,w.heap.size,0,[],aZ _,rfl,ah _,⟨⟨aa.lay (w:=w.alloc (.cells #[] 262)) (by simp),(World.ownsRow_made w #[] 0 (ah _) (aZ _) rfl).alloc _,by omega⟩,by simp,by simp,by omega,(fun a b h=>by simp at h),(fun h hh=>by cases hh),by omega⟩,by simp [qK,fS],((aq _ w).alloc (ah _) _).alloc (by simp) _⟩
 case round =>
  obtain ⟨k,gr,c',hs,hk,rfl,hhk,fM,mg,aC⟩:=hrel;have en:=kp fM;have mi:=kp mg;have ai:=kp aC;clear fM mg aC;by_cases ae:k<m
  .have aA:k<rs.length:=by rw [Hm.o];exact ae
   have fg:=(Hr.o.row.below ai.o)
   obtain ⟨b,off,hA,hb,c0⟩:=Row.at_ fg (k:=k) (by rw [lM];exact aA);rw [getElem_map] at c0;have Bu:=(Hr.o.each _ (gM aA)).below ai.o;have db:=Ho.o _ (gM aA);have ue:=kp (show fS (rs.take (k+1))=fS (rs.take k)++aG (rs[k]'aA).fs by unfold fS;rw [take_succ_eq_append_getElem aA,flatMap_append];simp);rw [hA];clear hA fg;generalize (rs[k]'aA)=r at *;have Hrf:=kp Bu;have eP:=kp db;unfold kH at c0;clear Bu db;have dz:(0:Int)<=(k:Int):=by omega
   have df:(k:Int)<(m:Int):=by omega
   by_cases hz:0<r.fs.length
   .have hz':(0:Int)<(r.fs.length:Int):=by omega
    have uk:=kp (show qP wr w.heap.size ⟨r.A,r.fs,r.c,k⟩ from ⟨Hrf.o,(fun h=>by rw [show r.fs=[] from h] at hz;simp at hz),eP.o.keys,aT eP.o.len (by omega),eP.o.cap,by show k<=1000000;omega⟩);rcases hs with _ | ⟨a,hs⟩
    .have pf:=kp (HP0.o w.heap.size (w.heap.size+1) gr c' w.heap.size ⟨r.A,r.fs,r.c,k⟩ wr (ah _) en.o.lo ai.o.size en.o.heap);unfold mI tz at pf;go_wp2_with fail;refine pf.o.mono ?_;rintro e w1 ⟨rfl,⟨JZ,c1,hh,iv,nI⟩,ax⟩;have SI:=kp (show vJ w1 w.heap.size (w.heap.size+1) JZ c1 [⟨r.A,r.fs,r.c,k⟩] from ⟨hh,by simp,iv,nI,(fun a b h=>by simp at h),(fun h hm=>by obtain rfl:=mem_singleton.1 hm;exact ⟨uk.o.below ax,eP.o.sorted⟩),en.o.lo⟩);have aM:=kp (ai.o.trans ax);clear hh ax iv nI c0 pf;go_wp2_with fail;refine ⟨⟨k+1,JZ,c1,_,by omega,by go_num,by simp,SI.o,?_,aM.o⟩,by simp [intOf];omega⟩;rw [ue.o,<-List.Perm.nil_eq (show ([]:List (LN×Ag)).Perm _ from mi.o)];simp [qK]
    .have mY:hs=[]:=by
      have:=en.o.two;rcases hs with _ | ⟨b,hs⟩
      .rfl
      .simp at hhk;omega
     subst mY;have pf:=kp (HP1.o w.heap.size (w.heap.size+1) gr c' w.heap.size a ⟨r.A,r.fs,r.c,k⟩ wr (ah _) en.o.lo ai.o.size en.o.heap (en.o.each a (by simp)).1 uk.o);unfold mI tz at pf;go_wp2_with fail;refine pf.o.mono ?_;rintro e w1 ⟨rfl,⟨JZ,c1,x,y,BD,hh,SJ,iv,nI⟩,ax⟩;have mu:∀h∈[x,y],h=a\/h=⟨r.A,r.fs,r.c,k⟩:=fun h hm=>by
      rcases BD with ⟨rfl,rfl⟩ | ⟨rfl,rfl⟩<;>simp at hm<;>rcases hm with rfl | rfl<;>simp
     have SI:=kp (show vJ w1 w.heap.size (w.heap.size+1) JZ c1 [x,y] from ⟨hh,by simp,iv,nI,(fun p q h=>by injection h with h1 h2;injection h2 with h2;subst h1 h2;exact SJ),(fun h hm=>by
      rcases mu h hm with rfl | rfl
      .exact ⟨(en.o.each _ (by simp)).1.below ax,(en.o.each _ (by simp)).2⟩
      .exact ⟨uk.o.below ax,eP.o.sorted⟩),en.o.lo⟩)
     have aM:=kp (ai.o.trans ax)
     have Hpp:=kp (show (qK [x,y]).Perm (qK [a]++aG r.fs) by
      rcases BD with ⟨rfl,rfl⟩ | ⟨rfl,rfl⟩
      .simp [qK]
      .simp [qK];exact perm_append_comm)
     clear hh ax iv nI c0 pf mu;go_wp2_with fail;refine ⟨⟨k+1,JZ,c1,_,by omega,by go_num,by simp at hhk ⊢;omega,SI.o,?_,aM.o⟩,by simp [intOf];omega⟩;rw [ue.o];exact Hpp.o.trans (List.Perm.append_right _ mi.o)
   .have hz':¬ (0:Int)<(r.fs.length:Int):=by omega
    have oY:r.fs=[]:=length_eq_zero_iff.1 (by omega);have Hz:=kp oY;clear oY hz;go_wp2_with fail;refine ⟨⟨k+1,gr,c',hs,by omega,by go_num,by omega,en.o,?_,ai.o⟩,by simp [intOf];omega⟩;rw [ue.o,Hz.o];simpa [aG] using mi.o
  .obtain rfl:k=m:=by omega
   have a1G:=kp (show (qK hs).Perm (fS rs) by have:=mi.o;rw [take_of_length_le (by rw [Hm.o];exact ah _)] at this;exact this);clear mi HP0 HP1;go_wp2_with fail;obtain ⟨i0,cG,cI,cH,cJ⟩:=info_parts EO;have NK:=kp (a03 (by rw [Hm.o];exact h2) (fun r hr=>(Ho.o r hr).len))
   go_loopw [6,7] (fun v6 _ wr=>∃ (n gr c':Nat) (hs:List Hd) (lo:List Fa) (Ao:OA) (co:Nat),v6 = .slice Ao n co/\lo.length=n/\vJ wr w.heap.size (w.heap.size+1) gr c' hs/\(aG lo++qK hs).Perm (fS rs)/\gU lo/\(∀f∈lo,∀h∈hs,∀g∈h.fs,bP f.keys g.keys<=0)/\wr.ownsRow w.heap.size 56 11 (.slice Ao n co) n (lo.flatMap fG)/\(∀f∈lo,Row wr w.heap.size f.A (aP f.keys))/\(Value.slice Ao n co).ownBlock≠some (w.heap.size+1)/\(Value.slice Ao n co).ownBlock≠some gr/\Below w.heap.size w wr) (fun v6 _ _=>(fS rs).length-(lenOf v6))
   case atStart=>exact ⟨0,gr,c',hs,[],none,0,rfl,rfl,en.o,by simpa [aG] using a1G.o,List.Pairwise.nil,by simp,gL _ _ _ _,by simp,by simp [Value.ownBlock],by simp [Value.ownBlock],ai.o⟩
   case round =>
    clear en a1G ai;obtain ⟨n,gr,c',hs,lo,Ao,co,rfl,um,fM,mg,qb,iE,aE,hkr,ej,eZ,aC⟩:=hrel;have NL:=kp um;have en:=kp fM;have mi:=kp mg;have Hsl:=kp qb;have ug:=kp iE;have bF:=kp aE;have Hkr:=kp hkr;have xX:=kp ej;have Di:=kp eZ;have ai:=kp aC;obtain ⟨c0,f0⟩:=fM.heap.box.one;have HL:=kp (CV (some ⟨gr,0,none⟩) hs.length c' wr);have Bs:n<=800000:=by
     have h1:=mg.length_eq;have h3:=NK.o;rw [aS] at h1;unfold aG at h1;rw [lM] at h1;omega
    clear um fM mg qb iE aE hkr ej eZ aC;rcases hs with _ | ⟨a,tl⟩
    .have xR:([]:List Hd).length=0:=rfl;rw [xR] at HL c0;go_wp2_with fail;refine HL.o.mono ?_;rintro e w1 ⟨rfl,rfl⟩;have zx:=kp (EJ Ao lo co wr (by rw [NL.o];omega) (fun f hf=>Y4 (rs:=rs) (fun r hr=>(Ho.o r hr).keys) (mi.o.mem_iff.1 (mem_append_left _ (mem_map_of_mem (f:=pl) hf)))) ⟨gV (by have:=bF.o;exact this),fun f hf=>(Hkr.o f hf).more ai.o.size⟩);rw [NL.o] at zx;go_wp2_with fail;refine zx.o.mono ?_;rintro e w2 ⟨v,l',rfl,G3,jZ,J',jc⟩;have a1H:gU l':=RC G3 Hsl.o;have aH:=ai.o.trans (jc.mono ai.o.size);have bN:=kp (gQ.o v l' w2 (by rw [G3];have:=mi.o;simp [qK] at this;exact this) a1H ⟨nX jZ.1 ai.o.size,jZ.2⟩ (fun f hf b off e av=>aT ai.o.size (J' f hf b off e av)) aH);clear jZ J' jc G3 a1H aH;go_wp2_with fail;exact bN.o
    .have qT:=en.o.each a (by simp);have Du:tl.length<=1:=by have:=en.o.two;simp at this;omega
     obtain ⟨x,xs,hx⟩:∃x xs,a.fs=x::xs:=by
      rcases h:a.fs with _ | ⟨x,xs⟩
      .exact absurd h qT.1.ne
      .exact ⟨x,xs,rfl⟩
     have NM:=qT.1.uM;rw [hx] at NM;obtain ⟨bx,ox,Dv,aJ,b0,b1,b2,b3,b4,b5,b6,b7,b8,b9,zt⟩:=NM.cells 0 (by simp);simp only [getElem_cons_zero,Nat.zero_mul,Nat.add_zero] at b0 b1 b2 b3 b4 b5 b6 b7 b8 b9 zt;obtain ⟨r0,rf0⟩:=qL en.o.heap.own (i:=0) (v := .slice (some ⟨bx,ox,none⟩) (xs.length+1) a.c) (by show some (Value.slice a.A a.fs.length a.c)=_;rw [Dv,hx];rfl);have Dw:=kp qT;have a1I:=kp NM;have Hx:=kp hx;have HAx:=kp Dv;have mr:(0:Int)<(xs.length:Int)+1:=by omega
     have a1J:xs.length+1<=a.c:=by have:=qT.1.cap;rw [hx] at this;exact this
     have a1K:(a::tl).length=tl.length+1:=rfl;rw [a1K] at HL c0;have nh:(0:Int)<(tl.length:Int)+1:=by omega
     clear qT NM hx Dv a1K;go_wp2_with fail;refine HL.o.mono ?_;rintro e w1 ⟨rfl,rfl⟩;have cz:n+1<1048576*64:=by omega
     have Hs:=kp ai.o.size;go_upto_region 12 with (at_builtin;refine vG rfl (.tmp 37) (.tmp 44) 30 rfl w.heap.size 56 i0 _ 11 104 Tryz.underlying30 cG cI cH cJ rfl (by decide) wr (eB x) rfl (CA _) (.slice Ao n co) n (lo.flatMap fG) rfl bF.o rfl cz (by decide) Hs.o ?_;intro v5 w5 aY bV;obtain ⟨A5,c5,h5⟩:=eM aY;subst h5;have cP:=kp aY;have dh:=kp bV;clear aY bV)
     obtain ⟨sY,j',vo⟩:=en.o.lt;have bZ:=kp (dh.o.mO (aq w.heap.size wr) bF.o (ah _) Hs.o);have lG:=kp (en.o.bX bZ.o (dh.o.de sY xX.o) (dh.o.de j' Di.o));obtain ⟨r1,rf1⟩:=qL lG.o.heap.own (i:=0) (v := .slice (some ⟨bx,ox,none⟩) (xs.length+1) a.c) (by show some (Value.slice a.A a.fs.length a.c)=_;rw [HAx.o,Hx.o];rfl);have qZ:=kp (ai.o.trans bZ.o);have G4:=kp (a9n Hx.o en.o.ord Du (fun h hh=>⟨(en.o.each h hh).2,(en.o.each h hh).1.ne⟩));have NN:=kp (show gU (lo++[x]) from aag Hsl.o (fun f hf=>ug.o f hf a (by simp) x (by rw [Hx.o];simp)))
     have SK:=kp (show ∀f∈lo++[x],∀h∈a::tl,∀g∈h.fs,bP f.keys g.keys<=0 from fun f hf h hh g hg=>by
      rcases mem_append.1 hf with hf | hf
      .exact ug.o f hf h hh g hg
      .rw [mem_singleton.1 hf];exact G4.o h hh g hg)
     have SL:=kp (show ∀a':Hd,a'.fs=xs->(aG (lo++[x])++qK (a'::tl)).Perm (fS rs) from fun a' Dj=>by
      refine List.Perm.trans ?_ mi.o;unfold qK aG;rw [flatMap_cons,flatMap_cons,Dj,Hx.o]
      simp)
     have a1L:=kp (show ∀f∈lo++[x],Row w5 w.heap.size f.A (aP f.keys) from fun f hf=>by
      rcases mem_append.1 hf with hf | hf
      .exact (Hkr.o f hf).below bZ.o
      .rw [mem_singleton.1 hf];exact (a1I.o.keys x (by simp)).below bZ.o)
     have a1M:=kp (show w5.ownsRow w.heap.size 56 11 (.slice A5 (n+1) c5) (n+1) ((lo++[x]).flatMap fG) by rw [flatMap_append];exact cP.o)
     have rZ:=kp (show (Value.slice A5 (n+1) c5).ownBlock≠some (w.heap.size+1)/\(Value.slice A5 (n+1) c5).ownBlock≠some gr by
      rcases dh.o.qH with hl | ⟨k,hl,hk⟩
      .rw [hl];exact ⟨xX.o,Di.o⟩
      .rw [hl]
       exact ⟨fun e=>by (have e2:k=w.heap.size+1:=by injection e);omega,fun e=>by (have e2:k=gr:=by injection e);omega⟩)
     clear r0 rf0 c0 f0 b0 b1 b2 b3 b4 b5 b6 b7 b8 b9 zt;rcases xs with _ | ⟨x',xs⟩
     .simp only [length_nil,Nat.zero_add] at r1 a1J mr;go_upto_region 13 with fail
      generalize NO:(if a.c=1 then (some ⟨bx,ox,none⟩:OA) else some ⟨bx,ox+11,none⟩)=Az;clear NO;have BE:=kp (show gj (w5.setCell ⟨gr,0,none⟩ (.slice Az 0 (a.c-1))) w.heap.size (w.heap.size+1) gr c' (⟨Az,[],a.c-1,a.no⟩::tl) from ⟨lG.o.heap.box.bX (p:=⟨gr,0,none⟩) lG.o.heap.ne _,gX lG.o.heap.own (i:=0) (by simp) _,lG.o.heap.ne⟩);have eI:=kp (show Below w.heap.size w5 (w5.setCell ⟨gr,0,none⟩ (.slice Az 0 (a.c-1))) from (aq _ _).setCell (p:=⟨gr,0,none⟩) vo _);have gR:=kp (a1M.o.kept (grownBy_setCell' w5 gr (.slice Az 0 (a.c-1))) (.inr rZ.o.2));obtain ⟨q0,K0⟩:=qL BE.o.own (i:=0) (v := .slice Az 0 (a.c-1)) rfl;generalize SM:w5.setCell ⟨gr,0,none⟩ (.slice Az 0 (a.c-1))=w6 at *;clear SM
      have K5:=kp (show ∀w7 (o7:List Hd),gj w7 w.heap.size (w.heap.size+1) gr c' o7->o7=tl->bK (fun k=>k=w.heap.size+1\/k=gr) w6 w7->vJ w7 w.heap.size (w.heap.size+1) gr c' tl/\w7.ownsRow w.heap.size 56 11 (.slice A5 (n+1) c5) (n+1) ((lo++[x]).flatMap fG)/\(∀f∈lo++[x],Row w7 w.heap.size f.A (aP f.keys))/\Below w.heap.size w w7 from fun w7 o7 hh e ht=>by
       subst e;have jS:Below w.heap.size w5 w7:=eI.o.trans (ht.toBelow (fun k e=>by rcases e with rfl | rfl<;>omega) (aT qZ.o.size eI.o.size));refine ⟨⟨hh,by omega,by have:=lG.o.cap;simp at this;omega,lG.o.cm,fun p q e=>by rw [e] at Du;simp at Du,fun h hm=>⟨(lG.o.each h (mem_cons_of_mem _ hm)).1.below jS,(lG.o.each h (mem_cons_of_mem _ hm)).2⟩,by omega⟩,?_,fun f hf=>(a1L.o f hf).below jS,qZ.o.trans jS⟩;obtain ⟨h1,h3⟩:=gR.o;refine ⟨h1,?_⟩;rcases h3 with h3 | ⟨g,cap,cur,q1,q2,q3,q4⟩
       .exact .inl h3
       .refine .inr ⟨g,cap,cur,q1,q2,(ht.block g (Array.getElem?_eq_some_iff.1 q3).1 (fun e => ?_)).trans q3,q4⟩;rcases e with rfl | rfl
        .exact rZ.o.1 (by rw [q1];rfl)
        .exact rZ.o.2 (by rw [q1];rfl))
      have SN:=kp (show (aG (lo++[x])++qK tl).Perm (fS rs) by
       have:=SL.o ⟨none,[],0,0⟩ rfl
       simpa [qK,aG] using this)
      have a1N:=kp (show ∀f∈lo++[x],∀h∈tl,∀g∈h.fs,bP f.keys g.keys<=0 from fun f hf h hh=>SK.o f hf h (mem_cons_of_mem _ hh));have dR:(lo++[x]).length=n+1:=by rw [aS,NL.o];rfl
      have jO:=kp dR;have acg:n+1<=(fS rs).length:=by
       have h1:=SN.o.length_eq;rw [aS] at h1;unfold aG at h1;rw [lM,dR] at h1;omega
      clear r1 rf1 dR;rcases tl with _ | ⟨b,tl⟩
      .have Dx:=kp (a5s w.heap.size (w.heap.size+1) gr c' _ w6 (by have:=lG.o.cap;simpa using this) lG.o.cm BE.o);unfold mI at Dx;go_wp2_with fail;refine Dx.o.mono ?_;rintro e w7 ⟨v,rfl,BF,ka⟩;have He:=kp (K5.o w7 _ BF rfl ka);clear BF ka Dx q0 K0;go_wp2_with fail;refine ⟨⟨n+1,gr,c',[],lo++[x],A5,c5,rfl,jO.o,He.o.1,SN.o,NN.o,a1N.o,He.o.2.1,He.o.2.2.1,rZ.o.1,rZ.o.2,He.o.2.2.2⟩,by simp [lenOf];omega⟩
      .have SO:tl=[]:=length_eq_zero_iff.1 (by simp at Du;exact Du▸rfl);subst SO;have Dx:=kp (aaY w.heap.size (w.heap.size+1) gr c' _ b w6 (by have:=lG.o.cap;simpa using this) lG.o.cm BE.o);unfold mI at Dx;go_wp2_with fail;refine Dx.o.mono ?_;rintro e w7 ⟨v,rfl,BF,ka⟩;have He:=kp (K5.o w7 _ BF rfl ka);clear BF ka Dx q0 K0;go_wp2_with fail;refine ⟨⟨n+1,gr,c',[b],lo++[x],A5,c5,rfl,jO.o,He.o.1,SN.o,NN.o,a1N.o,He.o.2.1,He.o.2.2.1,rZ.o.1,rZ.o.2,He.o.2.2.2⟩,by simp [lenOf];omega⟩
     .have pd:(x'::xs).length=xs.length+1:=rfl;rw [pd] at r1 a1J mr;have iv:¬a.c=1:=by omega
      clear pd;go_upto_region 13 with fail
      have BE:=kp (show gj (w5.setCell ⟨gr,0,none⟩ (.slice (some ⟨bx,ox+11,none⟩) (xs.length+1) (a.c-1))) w.heap.size (w.heap.size+1) gr c' (⟨some ⟨bx,ox+11,none⟩,x'::xs,a.c-1,a.no⟩::tl) from ⟨lG.o.heap.box.bX (p:=⟨gr,0,none⟩) lG.o.heap.ne _,gX lG.o.heap.own (i:=0) (by simp) _,lG.o.heap.ne⟩);have eI:=kp (show Below w.heap.size w5 (w5.setCell ⟨gr,0,none⟩ (.slice (some ⟨bx,ox+11,none⟩) (xs.length+1) (a.c-1))) from (aq _ _).setCell (p:=⟨gr,0,none⟩) vo _);have gR:=kp (a1M.o.kept (grownBy_setCell' w5 gr (.slice (some ⟨bx,ox+11,none⟩) (xs.length+1) (a.c-1))) (.inr rZ.o.2));obtain ⟨q0,K0⟩:=qL BE.o.own (i:=0) (v := .slice (some ⟨bx,ox+11,none⟩) (xs.length+1) (a.c-1)) rfl;generalize SM:w5.setCell ⟨gr,0,none⟩ (.slice (some ⟨bx,ox+11,none⟩) (xs.length+1) (a.c-1))=w6 at *;clear SM;have uk:=kp (show qP w6 w.heap.size ⟨some ⟨bx,ox+11,none⟩,x'::xs,a.c-1,a.no⟩/\gU (x'::xs) from ⟨⟨(dG.tail (x:=x) (by have:=a1I.o;rw [HAx.o] at this;exact this)).below (bZ.o.trans eI.o),by simp,fun f hf=>Dw.o.1.keys f (by rw [Hx.o];exact mem_cons_of_mem _ hf),by have:=Dw.o.1.len;rw [Hx.o] at this;simp at this ⊢;omega,by simp;omega,Dw.o.1.no⟩,by have:=Dw.o.2;rw [Hx.o] at this;exact (pairwise_cons.1 this).2⟩)
      have K5:=kp (show ∀w7 (o7:List Hd),gj w7 w.heap.size (w.heap.size+1) gr c' o7->Ordered o7->o7.Perm (⟨some ⟨bx,ox+11,none⟩,x'::xs,a.c-1,a.no⟩::tl)->bK (fun k=>k=gr) w6 w7->vJ w7 w.heap.size (w.heap.size+1) gr c' o7/\(aG (lo++[x])++qK o7).Perm (fS rs)/\(∀f∈lo++[x],∀h∈o7,∀g∈h.fs,bP f.keys g.keys<=0)/\w7.ownsRow w.heap.size 56 11 (.slice A5 (n+1) c5) (n+1) ((lo++[x]).flatMap fG)/\(∀f∈lo++[x],Row w7 w.heap.size f.A (aP f.keys))/\Below w.heap.size w w7 from fun w7 o7 hh K6 hp ht=>by
       have a1O:Below w.heap.size w6 w7:=ht.toBelow (fun k e=>by subst e;omega) (aT qZ.o.size eI.o.size);have jS:Below w.heap.size w5 w7:=eI.o.trans a1O;refine ⟨⟨hh,by rw [hp.length_eq];simp;omega,by rw [hp.length_eq];have:=lG.o.cap;simp at this ⊢;omega,lG.o.cm,K6,fun h hm => ?_,by omega⟩,?_,fun f hf h hm g hg => ?_,?_,fun f hf=>(a1L.o f hf).below jS,qZ.o.trans jS⟩
       .rcases mem_cons.1 (hp.mem_iff.1 hm) with rfl | hm
        .exact ⟨uk.o.1.below a1O,uk.o.2⟩
        .exact ⟨(lG.o.each h (mem_cons_of_mem _ hm)).1.below jS,(lG.o.each h (mem_cons_of_mem _ hm)).2⟩
       .refine List.Perm.trans (List.Perm.append_left _ ?_) (SL.o ⟨some ⟨bx,ox+11,none⟩,x'::xs,a.c-1,a.no⟩ rfl);unfold qK;exact hp.flatMap_right _
       .rcases mem_cons.1 (hp.mem_iff.1 hm) with rfl | hm
        .exact SK.o f hf a (by simp) g (by rw [Hx.o];exact mem_cons_of_mem _ hg)
        .exact SK.o f hf h (mem_cons_of_mem _ hm) g hg
       .obtain ⟨h1,h3⟩:=gR.o;refine ⟨h1,?_⟩;rcases h3 with h3 | ⟨g,cap,cur,q1,q2,q3,q4⟩
        .exact .inl h3
        .refine .inr ⟨g,cap,cur,q1,q2,(ht.block g (Array.getElem?_eq_some_iff.1 q3).1 (fun e => ?_)).trans q3,q4⟩;subst e
         exact rZ.o.2 (by rw [q1];rfl))
      have dR:(lo++[x]).length=n+1:=by rw [aS,NL.o];rfl
      have jO:=kp dR;have acg:n+1<=(fS rs).length:=by
       have h1:=(SL.o ⟨none,x'::xs,0,0⟩ rfl).length_eq;rw [aS] at h1;unfold aG at h1;rw [lM,dR] at h1;omega
      clear r1 rf1 dR;have ace:((xs.length:Int)+1 == 0)=false:=by rw [beq_eq_false_iff_ne];omega
      rcases tl with _ | ⟨b,tl⟩
      .have Dz:=kp (a7y w.heap.size (w.heap.size+1) gr c' _ w6 BE.o);unfold mI at Dz;go_wp2_with fail;refine Dz.o.mono ?_;rintro e w7 ⟨rfl,rfl⟩;have He:=kp (K5.o w6 _ BE.o (fun p q e=>by simp at e) (List.Perm.refl _) (bK.refl _ _));clear Dz q0 K0;go_wp2_with fail;refine ⟨⟨n+1,gr,c',_,lo++[x],A5,c5,rfl,jO.o,He.o.1,He.o.2.1,NN.o,He.o.2.2.1,He.o.2.2.2.1,He.o.2.2.2.2.1,rZ.o.1,rZ.o.2,He.o.2.2.2.2.2⟩,by simp [lenOf];omega⟩
      .have SO:tl=[]:=length_eq_zero_iff.1 (by simp at Du;exact Du▸rfl);subst SO;have Dz:=kp (a6W w.heap.size (w.heap.size+1) gr c' w.heap.size _ b w6 BE.o uk.o.1 ((lG.o.each b (by simp)).1.below eI.o) (aT qZ.o.size eI.o.size));unfold mI at Dz;go_wp2_with fail;refine Dz.o.mono ?_;rintro e w7 ⟨rfl,p,q,SH,BF,ach,ka⟩;have He:=kp (K5.o w7 [p,q] BF (fun p' q' e=>by injection e with e1 e2;injection e2 with e2;subst e1 e2;exact ach) (by rcases SH with ⟨rfl,rfl⟩ | ⟨rfl,rfl⟩;exact List.Perm.refl _;exact List.Perm.swap _ _ _) ka);clear BF ka Dz q0 K0;go_wp2_with fail;refine ⟨⟨n+1,gr,c',[p,q],lo++[x],A5,c5,rfl,jO.o,He.o.1,He.o.2.1,NN.o,He.o.2.2.1,He.o.2.2.2.1,He.o.2.2.2.2.1,rZ.o.1,rZ.o.2,He.o.2.2.2.2.2⟩,by simp [lenOf];omega⟩
section
attribute [local go_sem] Oper.semAt_some
theorem ab6 (nn:Nat) (hn:1<=nn) (bs bn b off n cap size:Nat) (dv:1<=size) (iJ:size<=1000000) (eZ:n<=1000000) (j7:n<=cap) (fj:cap<=9223372036854775807) (w:World) (vm:bs<w.heap.size) (ov:bn<w.heap.size)
 (A:OA) (hA:n=0\/A=some ⟨b,off,none⟩) (cE:w.cell? ⟨bs,0,none⟩=some (.slice A n cap)) (rX:w.cell? ⟨bn,0,none⟩=some (.int .i64 size)) :
 SeqStopsK Fence.wide nn Tryz.prog 143 #[.pointer (some ⟨bs,0,none⟩),.pointer (some ⟨bn,0,none⟩)] (fun x:Part n size=>#[j5 b off 1 n size x.1]) (lV bs bn) (fun xs=>xs.map (·.1)=range xs.length/\n<=xs.length*size) (fun _=>True) (n+1) w:=by
 intro l J Jx W hW Bx _ hY h0;have JJ:=kp Bx;have HY:=kp hY;clear Bx hY;have JK:=(hW.cell (p:=⟨bs,0,none⟩) vm).trans cE;have wE:=(hW.cell (p:=⟨bn,0,none⟩) ov).trans rX;refine callsIn_of_wp Tryz.func143 rfl trivial ?_ rfl;simp only [Tryz.ntmps143,size_toArray,length_cons,length_nil,Nat.reduceAdd,Nat.reduceSub,Array.replicate_succ,Array.replicate_zero,push_toArray,append_toArray,nil_append,cons_append]
 gi_wp2
 gi_loopw [4] (fun i wr=>∃ (k q:Nat) (pre:List (Part n size)),q=k*size/\pre.length=k/\pre.map (·.1)=range k/\k<=n/\i = .int .i64 (q:Int)/\q<=n+size/\J pre wr/\lV bs bn W wr)
  (fun i _=>n+size-(intOf i).toNat)
 case atStart=>exact ⟨0,0,[],by simp,rfl,rfl,aZ _,rfl,aZ _,h0,rfl,rfl⟩
 case round =>
  obtain ⟨k,q,pre,hq,cM,mg,hk,rfl,NA,By,lF⟩:=hrel;have c1:wr.cell? ⟨bs,0,none⟩=some (.slice A n cap):=(cZ (a:=⟨bs,0,none⟩) lF.1).trans JK;have c2:wr.cell? ⟨bn,0,none⟩=some (.int .i64 size):=(cZ (a:=⟨bn,0,none⟩) lF.2).trans wE;have Hq:=kp hq;have fJ:=kp cM;have mi:=kp mg;have yc:=kp lF;have HJ:=kp By;clear hq cM mg lF By;by_cases ae:q<n
  .obtain rfl:A=some ⟨b,off,none⟩:=hA.resolve_left (by omega);obtain ⟨r,hr⟩:∃r,n-q=r:=⟨_,rfl⟩
   have hcq:¬cap=q:=by omega
   have eC:1<=r:=by omega
   have hqr:q+r=n:=by omega
   have fL:k*size<n:=by rw [<-Hq.o];exact ae
   have JL:=kp (JJ.o pre wr wr.drew none HJ.o ⟨rfl,rfl,rfl,ah _,fun _ _ _=>rfl⟩ (fun r e=>by cases e));have jP:k<=n:=hk;have jQ:=kp (HY.o pre ⟨k,fL⟩ wr.drew JL.o (by rw [fJ.o];omega));have a1D:k+1<=n:=by
    have h1:k*1<=k*size:=Nat.mul_le_mul_left k dv;omega
   by_cases hm:r<size
   .have hx:j5 b off 1 n size k = .slice (some ⟨b,off+q,none⟩) r r:=by
     unfold j5;rw [<-Hq.o,Nat.mul_one,hr,Nat.min_eq_right (by omega)]
    have kP:=jQ.o;dsimp only at kP;rw [hx] at kP;obtain ⟨fn,tmps,assign,body,hy,hR⟩:=kP;have HR:=kp hR;clear hx jQ hR;have zr:IntKind.i64.wrap ((q:Int)+(r:Int))=(q:Int)+(r:Int):=IntWalk.i64_in _ (by omega);have iE:(r:Int)<=(r:Int):=by omega
    gi_wp2
    gi_region
    gi_wp2
    refine HR.o.mono ?_;rintro e W3 (⟨rfl,qj,nG⟩ | ⟨rfl,ql⟩)
    .have wF:=kp qj;have qn:=kp (yc.o.trans (show lV bs bn wr W3 from nG));have d2:W3.cell? ⟨bn,0,none⟩=some (.int .i64 size):=(cZ (a:=⟨bn,0,none⟩) qn.o.2).trans wE;clear qj nG c1 c2
     gi_wp2
     go_roundw
     case rel=>exact ⟨k+1,q+size,pre++[⟨k,fL⟩],by rw [Nat.add_mul,Nat.one_mul,<-Hq.o],by rw [aS,fJ.o];rfl,by rw [map_append,mi.o,range_succ];rfl,by omega,by simp,by omega,wF.o,qn.o⟩
     case measure=>simp [intOf];omega
    .have wG:=kp ql;clear ql
     gi_wp2
     refine bodyPost_ret (results_none rfl _ _ _) rfl ?_;exact ⟨⟨_,rfl⟩,.inr ⟨_,trivial,wG.o⟩⟩
   .have hx:j5 b off 1 n size k = .slice (some ⟨b,off+q,none⟩) size size:=by
     unfold j5;rw [<-Hq.o,Nat.mul_one,hr,Nat.min_eq_left (by omega)]
    have kP:=jQ.o;dsimp only at kP;rw [hx] at kP;obtain ⟨fn,tmps,assign,body,hy,hR⟩:=kP;have HR:=kp hR;clear hx jQ hR;have zr:IntKind.i64.wrap ((q:Int)+(size:Int))=(q:Int)+(size:Int):=IntWalk.i64_in _ (by omega);have iE:(size:Int)<=(r:Int):=by omega
    gi_wp2
    gi_region
    gi_wp2
    refine HR.o.mono ?_;rintro e W3 (⟨rfl,qj,nG⟩ | ⟨rfl,ql⟩)
    .have wF:=kp qj;have qn:=kp (yc.o.trans (show lV bs bn wr W3 from nG));have d2:W3.cell? ⟨bn,0,none⟩=some (.int .i64 size):=(cZ (a:=⟨bn,0,none⟩) qn.o.2).trans wE;clear qj nG c1 c2
     gi_wp2
     go_roundw
     case rel=>exact ⟨k+1,q+size,pre++[⟨k,fL⟩],by rw [Nat.add_mul,Nat.one_mul,<-Hq.o],by rw [aS,fJ.o];rfl,by rw [map_append,mi.o,range_succ];rfl,by omega,by simp,by omega,wF.o,qn.o⟩
     case measure=>simp [intOf];omega
    .have wG:=kp ql;clear ql
     gi_wp2
     refine bodyPost_ret (results_none rfl _ _ _) rfl ?_;exact ⟨⟨_,rfl⟩,.inr ⟨_,trivial,wG.o⟩⟩
  .have Hl:=kp (show n<=pre.length*size by rw [fJ.o,<-Hq.o];omega)
   gi_wp2
   go_end0
   exact ⟨⟨_,rfl⟩,.inl ⟨pre,⟨by rw [mi.o,fJ.o],Hl.o⟩,HJ.o⟩⟩
theorem a7l (A:OA) (n c size:Nat) (dv:1<=size) (w:World):Calls Tryz.prog 108 #[.slice A n c,.int .i64 size] w fun e w'=>e = .returned (.func (.func 143) #[] #[.pointer (some ⟨w.heap.size,0,none⟩),.pointer (some ⟨w.heap.size+1,0,none⟩)])/\w'=(w.alloc (.cells #[.slice A n c] 142)).alloc (.cells #[.int .i64 size] 3):=by
 have h1:¬ ((size:Nat):Int)<1:=by omega
 go_enter Tryz.func108,Tryz.ntmps108;go_wp2_with fail;go_ret;exact ⟨rfl,rfl⟩
end
end Go.Proofs.YtjopcamkclndlaaGreat.Tc
