/- Parts of a proof. -/
import Derived.Test.YtjopcamkclndlaaGreatH006
import Derived.ChangeKeysEq
set_option linter.unusedVariables false
set_option linter.unusedSimpArgs false
set_option maxRecDepth 100000
set_option maxHeartbeats 8000000
namespace Go.Proofs.YtjopcamkclndlaaGreat.Tc
open List Go.RowKit Base
theorem fX.bX {w:World} {B:Nat} {v:Value} {xs:List Fa} (h:fX w B v xs) {p:Addr} (hp:p.block<B) (u:Value):fX (w.setCell p u) B v xs:=by
 obtain ⟨⟨h1,h2⟩,h3,h4⟩:=h;refine ⟨⟨h1,?_⟩,fun x hx=>⟨?_,(h3 x hx).2⟩,h4⟩
 .rcases h2 with h2 | ⟨g,cap,cur,e,hB,hh,r⟩
  .exact .inl h2
  .exact .inr ⟨g,cap,cur,e,hB,(Below.heap_setCell w p u g (by omega)).trans hh,r⟩
 .have:=yJ (w':=w.setCell p u) (h3 x hx).1 (fun b off e av=>Below.heap_setCell w p u b (by have:=h4 x hx b off e av;omega));rw [show (w.setCell p u).heap.size=w.heap.size by simp];exact this
def PZ (s:aW) (w:World) (e:Ending) (w':World):Prop:=∃ (A:OA) (c:Nat) (xs:List Fa),e = .returned (.agg #[.slice A xs.length c,.int .i64 s.aU.length])/\fX w' w.heap.size (.slice A xs.length c) xs/\xs.map Fa.keys=s.ak.map dK/\Below w.heap.size w w'
theorem ZM (s:aW) (w:World) (h:gW w w.heap.size s) (ho:dO s):Calls Tryz.prog 28 #[.agg (cj s)] w (PZ s w):=by
 obtain ⟨i0,cG,cI,cH,cJ⟩:=info_parts N7;have HQ:=kp (show ∀A c xs w',fX w' w.heap.size (.slice A xs.length c) xs->xs.map Fa.keys=s.ak.map dK->Below w.heap.size w w'->PZ s w (.returned (.agg #[.slice A xs.length c,.int .i64 s.aU.length])) w' from fun A c xs w' h1 h2 h3=>⟨A,c,xs,rfl,h1,h2,h3⟩);have HS:=kp abk;have Hh:=kp h;have Ho:=kp ho;have mw:=ho.n2;have au:=(aq w.heap.size w).alloc (ah _) (.cells (cj s) 25);have HB:=kp (aa.new w 25 (cj s));have ay:=kp au;clear h ho au;generalize hQ:PZ s w=Q at *;clear hQ;unfold cj at HB ay ⊢;obtain ⟨z0,z1,_,_⟩:=HB.o.two;obtain ⟨m,hm⟩:∃m,s.ak.length=m:=⟨_,rfl⟩
 have Hm:=kp hm;rw [hm] at z0 mw HB ay ⊢;clear hm;go_enter Tryz.func28,Tryz.ntmps28;go_wp2_with fail;clear z0 z1;obtain ⟨W1,dk⟩:∃W1,(w.alloc (.cells #[.slice s.A m s.c,.slice s.Am s.aU.length s.cm] 25)).alloc (.cells #[.slice none 0 0,.int .i64 0] 75)=W1:=⟨_,rfl⟩
 have gv:W1.heap.size=w.heap.size+1+1:=by rw [<-dk];simp
 have aM:=kp (show Below w.heap.size w W1 by rw [<-dk];exact ay.o.alloc (by simp) _);have jz:=kp (show aa W1 (w.heap.size+1) 75 #[.slice none 0 0,.int .i64 0] by rw [<-dk];exact aa.lay (by simp));have aF:=kp (aM.o.alloc (by omega) (.cells #[.slice none 0 0,.int .i64 s.aU.length] 75));have vd:=kp (jz.o.alloc (.cells #[.slice none 0 0,.int .i64 s.aU.length] 75));have SE:=kp (show aa (W1.alloc (.cells #[.slice none 0 0,.int .i64 s.aU.length] 75)) (w.heap.size+1+1) 75 #[.slice none 0 0,.int .i64 s.aU.length] from aa.lay gv);rw [dk];clear dk jz aM;generalize hM:W1.alloc (.cells #[.slice none 0 0,.int .i64 s.aU.length] 75)=W2 at *;have iJ:W2.heap.size=w.heap.size+1+1+1:=by rw [<-hM];simp [gv]
 clear hM gv
 go_loopw [13] (fun oE wr=>∃ (k:Nat) (xs:List Fa) (A:OA) (c:Nat),k<=m/\oE = .int .i64 k/\xs.length=k/\xs.map Fa.keys=(s.ak.take k).map dK/\aa wr (w.heap.size+1) 75 #[.slice none 0 0,.int .i64 0]/\aa wr (w.heap.size+1+1) 75 #[.slice A k c,.int .i64 s.aU.length]/\fX wr (w.heap.size+1+1+1) (.slice A k c) xs/\Below w.heap.size w wr) (fun oE _=>m-(intOf oE).toNat)
 case atStart=>exact ⟨0,[],none,0,aZ _,rfl,rfl,rfl,vd.o,SE.o,fX.nil _ _,aF.o⟩
 case round =>
  obtain ⟨k,xs,A,c,hk,rfl,se,pW,nL,aJ,aE,aC⟩:=hrel;have sf:=kp se;have sZ:=kp pW;have kR:=kp nL;have bO:=kp aJ;have bF:=kp aE;have ai:=kp aC;clear se pW nL aJ aE aC;by_cases ae:k<m
  .have bE:k<s.ak.length:=by rw [Hm.o];exact ae
   have br:=(Hh.o.below ai.o).more ai.o.size;obtain ⟨b,off,hA,hb,c0,c1⟩:=br.aj k bE;have pX:=br.ak _ (gM bE);have cS:=(aq wr.heap.size wr).alloc (ah _) (.cells (ew (s.ak[k]'bE)) 128);have bC:=aR ai cS;have jC:=kp (fun W (hW:Below wr.heap.size wr W)=>HS.o (s.ak[k]'bE) W ((pX.below hW).more hW.size) (Ho.o.ak k bE).n2);have uh:=kp cS;have DF:=kp (aa.new wr 128 (ew (s.ak[k]'bE)));have Kg:=kp (show ∀f:Fa,f.keys=dK (s.ak[k]'bE)->(xs++[f]).map Fa.keys=(s.ak.take (k+1)).map dK from fun f hf=>by rw [take_succ_eq_append_getElem bE,map_append,map_append,sZ.o,map_cons,map_nil,map_cons,map_nil,hf]);unfold ew at jC uh DF bC cS;generalize (s.ak[k]'bE).A=dA at *;generalize (s.ak[k]'bE).name=dn at *;generalize (s.ak[k]'bE).aw.length=dl at *;generalize (s.ak[k]'bE).c=dc at *;have dz:(0:Int)<=(k:Int):=by omega
   have df:(k:Int)<(m:Int):=by omega
   rw [hA];have qe:=kp (show w.heap.size+1+1<wr.heap.size from bO.o.lt);clear br pX cS hA;go_upto_region 5 with fail
   clear c0 c1;have acs:=kp (show (Value.slice A k c).ownBlock≠some wr.heap.size from fun hh=>by have:=(bF.o.1.lt _ hh).2;omega);have iu:=kp (bO.o.under uh.o);have NW:=kp (kR.o.under uh.o);have jN:=kp (bF.o.below uh.o);have acu:=kp (uh.o.drew);have DG:wr.heap.size<(wr.alloc (.cells #[.string dn,.slice dA dl dc] 128)).heap.size:=by simp
   generalize dH:wr.alloc (.cells #[.string dn,.slice dA dl dc] 128)=W3 at *;have acv:=kp (jC.o W3.drew acu.o);clear dH jC;generalize DH:wr.heap.size=g5 at *;clear DH;obtain ⟨y0,y1,_,_⟩:=DF.o.two;obtain ⟨x0,x1,f0,_⟩:=iu.o.two;have dv:=qe.o;have mr:w.heap.size+1+1<W3.heap.size:=iu.o.lt;refine wp_region_noPanic ?_;refine dt (t:=7) (S:=(fun w'=>(w'.cell? ⟨w.heap.size+1+1,0,none⟩=some (.slice A k c)/\w'.frozen? ⟨w.heap.size+1+1,0,none⟩=false)/\(w'.cell? ⟨g5,0,none⟩=some (.string dn)/\w'.cell? ⟨g5,1,none⟩=some (.slice dA dl dc)))) (by kernel_rfl) ⟨⟨x0,f0⟩,y0,y1⟩ (fun ad => ?_);refine mX 0 1 2 ad ?_;refine oT 3 fun K hK=>?_
   go_simp
   refine acv.o.mono ?_;rintro e w4 ⟨v4,rfl,pq,cq⟩;obtain ⟨A4,c4,rfl⟩:=iq pq;have lE:=kp pq;have bH:=kp (show Below W3.heap.size W3 w4 from (aq _ _).drew.trans cq);clear pq cq;refine oK hK ?_ fun af=>?_
   .exact ⟨⟨aL bH.o ad.1.1,by rw [lU bH.o _ _ mr];exact f0⟩,aL bH.o ad.2.1,aL bH.o ad.2.2⟩
   replace ad:=af;clear hK K af;have kv:w.heap.size+1+1<w4.heap.size:=dL mr bH.o.size;have cP:=kp (jN.o.below bH.o);have HN:=kp (MW (n:=0) (w:=w4) (v := .slice A k c) (B0:=w.heap.size+1+1+1) lE.o (fun j hj=>(jN.o.1.lt j hj).2) mr);have DI:=kp (iu.o.under bH.o);have T3:=kp (NW.o.under bH.o);have kr:=kp (bC.o.trans (bH.o.mono bC.o.size));have lJ:=kp (show w4.ownsRow (w.heap.size+1+1+1) 27 1 (.slice A k c) k (xs.map lg) by have:=cP.o.1;rw [sf.o] at this;exact this);have cz:k<1048576*64:=by omega
   have je:=kp (show ∀j,j<w.heap.size+1+1+1->(Value.slice A k c).ownBlock≠some j from fun j hj hh=>by have:=(lJ.o.lt j hh).1;omega);refine oT 4 fun K hK=>?_
   go_simp
   refine oK hK ?_ fun af=>?_
   .exact ⟨⟨aL ((aq _ _).alloc (ah _) _) ad.1.1,by rw [lU ((aq _ _).alloc (ah w4.heap.size) _) _ _ kv];exact ad.1.2⟩,aL ((aq _ _).alloc (ah _) _) ad.2.1,aL ((aq _ _).alloc (ah _) _) ad.2.2⟩
   replace ad:=af;clear hK K af;refine oT 5 fun K hK=>?_
   refine xB rfl (.tmp 18) (.tmp 21) 73 rfl (w.heap.size+1+1+1) 27 i0 (.slice none 0 0) 24 Tryz.underlying73 cG cI cH cJ rfl w4 (.slice A4 (dK (s.ak[k]'bE)).length c4) rfl (.slice A k c) k (xs.map lg) rfl lJ.o rfl cz (by decide) kv ?_;intro v5 w5 aY bV;obtain ⟨A5,c5,h5⟩:=iq aY;subst h5;have gR:=kp aY;have dh:=kp bV;clear aY bV
   go_simp
   refine oK hK ?_ fun af=>?_
   .have e1:=(dh.o.de kv (je.o _ (by omega)))
    have e2:=(Below.heap_alloc w4 (.cells #[.slice A4 (dK (s.ak[k]'bE)).length c4] 27) _ kv)
    have T5:g5<w4.heap.size:=dL DG bH.o.size;have e3:=(dh.o.de T5 (acs.o))
    have e4:=(Below.heap_alloc w4 (.cells #[.slice A4 (dK (s.ak[k]'bE)).length c4] 27) _ T5)
    exact ⟨⟨(cZ (a:=⟨w.heap.size+1+1,0,none⟩) (e1.trans e2.symm)).trans ad.1.1,by have h:=ad.1.2;unfold World.frozen? at h ⊢;rw [e1.trans e2.symm];exact h⟩,(cZ (a:=⟨g5,0,none⟩) (e3.trans e4.symm)).trans ad.2.1,(cZ (a:=⟨g5,1,none⟩) (e3.trans e4.symm)).trans ad.2.2⟩
   replace ad:=af;clear hK K af;refine tk 6 ad ?_;refine rr (o := ?op7) (by kernel_rfl) ?ap7 (by kernel_rfl) (fun K hK => ?bp7)
   case ap7=>(simp only [getElem?_toArray,getElem?_cons_succ,getElem?_cons_zero];exact rfl)
   obtain ⟨⟨ic,oX⟩,_⟩:=ad;have ad:=ic
   go_simp
   refine hK.out _ _ ?_;clear hK K ad;refine NoPanic.normal ?_
   try simp only [Act.put,setIfInBounds_toArray,set_cons_zero,set_cons_succ]
   have HF:=kp (fX.app (f:=⟨A4,dK (s.ak[k]'bE),c4,aO⟩) cP.o HN.o.1 HN.o.2 gR.o dh.o sf.o);have av:w.heap.size+1≠w.heap.size+1+1:=by omega
   go_wp2_with fail;refine ⟨⟨k+1,xs++[⟨A4,dK (s.ak[k]'bE),c4,aO⟩],A5,c5,by omega,by go_num,by rw [aS,sf.o];rfl,Kg.o _ rfl,?_,?_,?_,?_⟩,by simp [intOf];omega⟩
   .exact (Below.heap_setCell w5 ⟨w.heap.size+1+1,0,none⟩ _ _ av).trans ((dh.o.de (by omega) (je.o _ (by omega))).trans T3.o)
   .exact aa.set (show aa w5 (w.heap.size+1+1) 75 #[.slice A k c,.int .i64 s.aU.length] from (dh.o.de kv (je.o _ (by omega))).trans DI.o) 0 (.slice A5 (k+1) c5)
   .exact HF.o.bX (p:=⟨w.heap.size+1+1,0,none⟩) (by simp) _
   .exact (dh.o.below kr.o lJ.o (by omega) (by omega)).setCell (p:=⟨w.heap.size+1+1,0,none⟩) (by simp;omega) _
  .obtain rfl:k=m:=by omega
   obtain ⟨x0,x1,_,_⟩:=bO.o.two;obtain ⟨q0,q1,f0,f1⟩:=kR.o.two;have HF:=kp (HQ.o A c xs);rw [sf.o] at HF;have rS:=kp (show xs.map Fa.keys=s.ak.map dK by have:=sZ.o;rw [take_of_length_le (by rw [Hm.o];exact ah _)] at this;exact this);have wM:=kp (((bF.o.bX (p:=⟨w.heap.size+1,0,none⟩) (by simp<;>omega) (.slice A k c)).bX (p:=⟨w.heap.size+1,1,none⟩) (by simp<;>omega) (.int .i64 s.aU.length)).base (show w.heap.size<=w.heap.size+1+1+1 by omega));have qx:=kp ((ai.o.setCell (p:=⟨w.heap.size+1,0,none⟩) (by simp) (.slice A k c)).setCell (p:=⟨w.heap.size+1,1,none⟩) (by simp) (.int .i64 s.aU.length));go_wp2_with fail;have yg:aa ((wr.setCell ⟨w.heap.size+1,0,none⟩ (.slice A k c)).setCell ⟨w.heap.size+1,1,none⟩ (.int .i64 s.aU.length)) (w.heap.size+1) 75 #[.slice A k c,.int .i64 s.aU.length]:=(kR.o.set 0 (.slice A k c)).set 1 (.int .i64 s.aU.length);clear q0 q1;obtain ⟨q0,q1,_,_⟩:=yg.two;refine bodyPost_ret (v := .agg #[.slice A k c,.int .i64 s.aU.length]) (by simp [results,Tryz.results28,go_sem,q0,q1]) rfl (HF.o _ wM.o rS.o qx.o)
structure Xx (l:LN):Prop where
 n1:1<=l.length
 n2:l.length<=4
 each:∀j (h:j<l.length),1<=l[j]/\l[j]<=200
 FA:∀j (h:j+1<l.length),l[j+1]<=l[j]
structure Bg (xs:List Fa) (m:Nat):Prop where
 n1:1<=xs.length
 n2:xs.length<=16
 m1:1<=m
 m2:m<=3
 each:∀x∈xs,Xx x.keys
theorem ab8 (A:OA) (c m:Nat) (xs:List Fa) (w:World) (h:ep w w.heap.size A xs) (ho:Bg xs m) :
 Calls Tryz.prog 72 #[.agg #[.slice A xs.length c,.int .i64 m]] w fun e w'=>e = .returned (.bool true)/\Below w.heap.size w w':=by
 have au:=(aq w.heap.size w).alloc (ah _) (.cells #[.slice A xs.length c,.int .i64 m] 75);have HB:=kp (aa.new w 75 #[.slice A xs.length c,.int .i64 m]);have ay:=kp au;have H0:=kp ((h.below au).more au.size);have Ho:=kp ho;have h1:=ho.n1;have h2:=ho.n2;have h3:=ho.m1;have h4:=ho.m2;clear h ho au;obtain ⟨n,hn⟩:∃n,xs.length=n:=⟨_,rfl⟩
 have Hn:=kp hn;rw [hn] at HB ay H0 h1 h2 ⊢;clear hn;have q1:¬ (n:Int)<1:=by omega
 have jg:decide ((n:Int)<1)=false:=decide_eq_false q1;have q2:¬ (16:Int)<(n:Int):=by omega
 have kz:decide ((16:Int)<(n:Int))=false:=decide_eq_false q2;have q3:¬ (m:Int)<1:=by omega
 have zG:decide ((m:Int)<1)=false:=decide_eq_false q3;have q4:¬ (3:Int)<(m:Int):=by omega
 have T6:decide ((3:Int)<(m:Int))=false:=decide_eq_false q4;go_enter Tryz.func72,Tryz.ntmps72;go_wp2_with fail;clear q1 jg q2 kz q3 zG q4 T6;generalize w.alloc (.cells #[.slice A n c,.int .i64 m] 75)=W0 at *
 go_loop [30] (fun wA=>∃k:Nat,k<=n/\wA = .int .i64 k) (fun wA=>n-(intOf wA).toNat)
 case atStart=>exact ⟨0,aZ _,rfl⟩
 case round =>
  obtain ⟨k,hk,rfl⟩:=hrel;by_cases ae:k<n
  .have fL:k<xs.length:=by rw [Hn.o];exact ae
   obtain ⟨b,off,rfl,hb,c0⟩:=Row.at_ H0.o.row (k:=k) (by rw [lM];exact fL);rw [getElem_map] at c0;have db:=Ho.o.each _ (gM fL);have fg:=H0.o.each _ (gM fL);have eP:=kp db;have sg:=kp fg;unfold lg at c0;generalize (xs[k]'fL)=x at *;have h5:=db.n1;have h6:=db.n2;clear db fg;obtain ⟨l,hl⟩:∃l,x.keys.length=l:=⟨_,rfl⟩
   have Hl:=kp hl;rw [hl] at h5 h6 c0;clear hl;have dz:(0:Int)<=(k:Int):=by omega
   have df:(k:Int)<(n:Int):=by omega
   have q1:¬ (l:Int)<1:=by omega
   have jg:decide ((l:Int)<1)=false:=decide_eq_false q1;have q2:¬ (4:Int)<(l:Int):=by omega
   have kz:decide ((4:Int)<(l:Int))=false:=decide_eq_false q2;go_wp2_with fail;clear q1 jg q2 kz c0
   go_loop [44] (fun T7=>∃j:Nat,j<=l/\T7 = .int .i64 j) (fun T7=>l-(intOf T7).toNat)
   case atStart=>exact ⟨0,aZ _,rfl⟩
   case round =>
    obtain ⟨j,hj,rfl⟩:=hrel;by_cases lu:j<l
    .have ra:j<x.keys.length:=by rw [Hl.o];exact lu
     obtain ⟨be,oe,wO,aC,d0⟩:=Row.at_ sg.o (k:=j) (by rw [ke];exact ra);unfold aP at d0;rw [getElem_map] at d0;obtain ⟨e1,e2⟩:=eP.o.each j ra;have p0:(0:Int)<=(j:Int):=by omega
     have p1:(j:Int)<(l:Int):=by omega
     rcases j with _ | j
     .rw [Nat.add_zero] at d0;generalize (x.keys[0]'ra)=y at *;have q1:¬ (y:Int)<1:=by omega
      have jg:decide ((y:Int)<1)=false:=decide_eq_false q1;have q2:¬ (200:Int)<(y:Int):=by omega
      have kz:decide ((200:Int)<(y:Int))=false:=decide_eq_false q2;rw [wO];go_wp2_with fail;exact ⟨⟨1,by omega,by go_num⟩,by simp [intOf];omega⟩
     .have a27:j<x.keys.length:=by omega
      obtain ⟨be',oe',NX,aeN,d1⟩:=Row.at_ sg.o (k:=j) (by rw [ke];exact a27);rw [wO] at NX;injection NX with NX
      injection NX with qv zy _
      subst qv zy;unfold aP at d1;rw [getElem_map] at d1;have oV:=eP.o.FA j ra;generalize (x.keys[j+1]'ra)=y at *;generalize (x.keys[j]'a27)=z at *;have q1:¬ (y:Int)<1:=by omega
      have jg:decide ((y:Int)<1)=false:=decide_eq_false q1;have q2:¬ (200:Int)<(y:Int):=by omega
      have kz:decide ((200:Int)<(y:Int))=false:=decide_eq_false q2;have q3:¬ (z:Int)<(y:Int):=by omega
      have zG:decide ((z:Int)<(y:Int))=false:=decide_eq_false q3;have q4:decide (z<y)=false:=decide_eq_false (by omega);have p2:(0:Int)<=(j:Int):=by omega
      have p3:(j:Int)<(l:Int):=by omega
      have p4:(0:Int)<(j:Int)+1:=by omega
      have p5:decide ((0:Int)<(j:Int)+1)=true:=decide_eq_true p4;rw [wO];go_wp2_with fail;exact ⟨⟨j+2,by omega,by go_num⟩,by simp [intOf];omega⟩
    .obtain rfl:j=l:=by omega
     go_wp2_with fail;exact ⟨⟨k+1,by omega,by go_num⟩,by simp [intOf];omega⟩
  .obtain rfl:k=n:=by omega
   have Hf:=kp ay.o;go_wp2_with fail;go_ret;exact ⟨rfl,Hf.o⟩
section
theorem a5G (a0 a1 a2 a3 a4 a5 a6 a7 a8:Int) (w:World):(Instr.index 52 (.agg #[.int .i64 a0,.int .i64 a1,.int .i64 a2,.int .i64 a3,.int .i64 a4,.int .i64 a5,.int .i64 a6,.int .i64 a7,.int .i64 a8]) (.int .i64 0)).run Tryz.prog w = .ok (.agg #[.int .i64 a0,.int .i64 a1,.int .i64 a2]) w:=by
 simp [Instr.index,go_sem]
theorem a8z (a0 a1 a2 a3 a4 a5 a6 a7 a8:Int) (w:World):(Instr.index 52 (.agg #[.int .i64 a0,.int .i64 a1,.int .i64 a2,.int .i64 a3,.int .i64 a4,.int .i64 a5,.int .i64 a6,.int .i64 a7,.int .i64 a8]) (.int .i64 1)).run Tryz.prog w = .ok (.agg #[.int .i64 a3,.int .i64 a4,.int .i64 a5]) w:=by
 simp [Instr.index,go_sem]
theorem a6D (a0 a1 a2 a3 a4 a5 a6 a7 a8:Int) (w:World):(Instr.index 52 (.agg #[.int .i64 a0,.int .i64 a1,.int .i64 a2,.int .i64 a3,.int .i64 a4,.int .i64 a5,.int .i64 a6,.int .i64 a7,.int .i64 a8]) (.int .i64 2)).run Tryz.prog w = .ok (.agg #[.int .i64 a6,.int .i64 a7,.int .i64 a8]) w:=by
 simp [Instr.index,go_sem]
attribute [local go_sem] a5G a8z a6D
structure lP (m:Nat) (a:Ag):Prop where
 c:1<=a.c
 le:∀k,k<3->k<m->pn a k<=px a k
 one:∀k,k<3->k<m->a.c=1->ps a k=pn a k/\ps a k=px a k
 none:∀k,k<3->m<=k->ps a k=0/\pn a k=0/\px a k=0
theorem Qo (m:Nat) (a:Ag) (w:World) (dg:1<=m) (hm:m<=3) (ho:lP m a) :
 Calls Tryz.prog 116 #[.int .i64 m,.agg (bj a)] w fun e w'=>e = .returned (.bool true)/\Below w.heap.size w w':=by
 obtain ⟨c,s0,n0,x0,s1,n1,x1,s2,n2,x2⟩:=a;have Ho:=kp ho;have h1:=ho.c;have au:=(aq w.heap.size w).alloc (ah _) (.cells (bj ⟨c,s0,n0,x0,s1,n1,x1,s2,n2,x2⟩) 54);have HB:=kp (aa.new w 54 (bj ⟨c,s0,n0,x0,s1,n1,x1,s2,n2,x2⟩));have ay:=kp au;clear ho au;have q1:¬ (m:Int)<0:=by omega
 have jg:decide ((m:Int)<0)=false:=decide_eq_false q1;have q2:¬ (3:Int)<(m:Int):=by omega
 have kz:decide ((3:Int)<(m:Int))=false:=decide_eq_false q2;have q3:¬c<1:=by dsimp only at h1;omega
 have zG:decide (c<1)=false:=decide_eq_false q3;go_enter Tryz.func116,Tryz.ntmps116;go_wp2_with fail;generalize w.alloc (.cells (bj ⟨c,s0,n0,x0,s1,n1,x1,s2,n2,x2⟩) 54)=W0 at *;clear q1 jg q2 kz q3 zG
 go_loopw [20] (fun v20 wr=>∃k:Nat,k<=3/\v20 = .int .i64 k/\aa wr w.heap.size 54 (bj ⟨c,s0,n0,x0,s1,n1,x1,s2,n2,x2⟩)/\Below w.heap.size w wr) (fun v20 _=>3-(intOf v20).toNat)
 case atStart=>exact ⟨0,by omega,rfl,HB.o,ay.o⟩
 case round =>
  clear HB ay;obtain ⟨k,hk,rfl,aJ,aC⟩:=hrel;have bO:=kp aJ;have ai:=kp aC;have aD:=(aa.eS aJ).1;have dv:w.heap.size<wr.heap.size:=bO.o.lt;clear aJ aC;by_cases ae:k<3
  .match k,ae with
   | 0,_ => ?_
   | 1,_ => ?_
   | 2,_ => ?_
   .by_cases km:0<m
    .have iE:n0<=x0:=Ho.o.le 0 (by omega) km;have lj:c=1->s0=n0/\s0=x0:=Ho.o.one 0 (by omega) km;have r1:¬ (m:Int)<=0:=by omega
     have Gc:decide ((m:Int)<=0)=false:=decide_eq_false r1;have r2:(0:Int)<(m:Int):=by omega
     have NY:decide ((0:Int)<(m:Int))=true:=decide_eq_true r2;have r3:¬x0<n0:=by omega
     have r3d:decide (x0<n0)=false:=decide_eq_false r3;by_cases hc:c=1
     .obtain ⟨e1,e2⟩:=lj hc;subst e1;subst e2;subst hc;clear iE lj;go_wp2_with fail;exact ⟨⟨0+1,by omega,by go_num,(bO.o.alloc _),(ai.o.alloc ai.o.size _)⟩,by simp [intOf]⟩
     .have NZ:(c == 1)=false:=by simp;exact hc
      clear iE lj;go_wp2_with fail;exact ⟨⟨0+1,by omega,by go_num,(bO.o.alloc _),(ai.o.alloc ai.o.size _)⟩,by simp [intOf]⟩
    .exact absurd dg (by omega)
   .by_cases km:1<m
    .have iE:n1<=x1:=Ho.o.le 1 (by omega) km;have lj:c=1->s1=n1/\s1=x1:=Ho.o.one 1 (by omega) km;have r1:¬ (m:Int)<=1:=by omega
     have Gc:decide ((m:Int)<=1)=false:=decide_eq_false r1;have r2:(1:Int)<(m:Int):=by omega
     have NY:decide ((1:Int)<(m:Int))=true:=decide_eq_true r2;have r3:¬x1<n1:=by omega
     have r3d:decide (x1<n1)=false:=decide_eq_false r3;by_cases hc:c=1
     .obtain ⟨e1,e2⟩:=lj hc;subst e1;subst e2;subst hc;clear iE lj;go_wp2_with fail;exact ⟨⟨1+1,by omega,by go_num,(bO.o.alloc _),(ai.o.alloc ai.o.size _)⟩,by simp [intOf]⟩
     .have NZ:(c == 1)=false:=by simp;exact hc
      clear iE lj;go_wp2_with fail;exact ⟨⟨1+1,by omega,by go_num,(bO.o.alloc _),(ai.o.alloc ai.o.size _)⟩,by simp [intOf]⟩
    .obtain ⟨e1,e2,e3⟩:=Ho.o.none 1 (by omega) (by omega);change s1=0 at e1;change n1=0 at e2;change x1=0 at e3;subst e1;subst e2;subst e3;have r1:(m:Int)<=1:=by omega
     have Gc:decide ((m:Int)<=1)=true:=decide_eq_true r1;have r2:¬ (1:Int)<(m:Int):=by omega
     have NY:decide ((1:Int)<(m:Int))=false:=decide_eq_false r2;go_wp2_with fail;exact ⟨⟨1+1,by omega,by go_num,(bO.o.alloc _),(ai.o.alloc ai.o.size _)⟩,by simp [intOf]⟩
   .by_cases km:2<m
    .have iE:n2<=x2:=Ho.o.le 2 (by omega) km;have lj:c=1->s2=n2/\s2=x2:=Ho.o.one 2 (by omega) km;have r1:¬ (m:Int)<=2:=by omega
     have Gc:decide ((m:Int)<=2)=false:=decide_eq_false r1;have r2:(2:Int)<(m:Int):=by omega
     have NY:decide ((2:Int)<(m:Int))=true:=decide_eq_true r2;have r3:¬x2<n2:=by omega
     have r3d:decide (x2<n2)=false:=decide_eq_false r3;by_cases hc:c=1
     .obtain ⟨e1,e2⟩:=lj hc;subst e1;subst e2;subst hc;clear iE lj;go_wp2_with fail;exact ⟨⟨2+1,by omega,by go_num,(bO.o.alloc _),(ai.o.alloc ai.o.size _)⟩,by simp [intOf]⟩
     .have NZ:(c == 1)=false:=by simp;exact hc
      clear iE lj;go_wp2_with fail;exact ⟨⟨2+1,by omega,by go_num,(bO.o.alloc _),(ai.o.alloc ai.o.size _)⟩,by simp [intOf]⟩
    .obtain ⟨e1,e2,e3⟩:=Ho.o.none 2 (by omega) (by omega);change s2=0 at e1;change n2=0 at e2;change x2=0 at e3;subst e1;subst e2;subst e3;have r1:(m:Int)<=2:=by omega
     have Gc:decide ((m:Int)<=2)=true:=decide_eq_true r1;have r2:¬ (2:Int)<(m:Int):=by omega
     have NY:decide ((2:Int)<(m:Int))=false:=decide_eq_false r2;go_wp2_with fail;exact ⟨⟨2+1,by omega,by go_num,(bO.o.alloc _),(ai.o.alloc ai.o.size _)⟩,by simp [intOf]⟩
  .obtain rfl:k=3:=by omega
   go_wp2_with fail;go_ret;exact ⟨rfl,ai.o⟩
end
structure QV (xs:List Fa) (m:Nat) (f:Fa):Prop where
 n:f.keys.length=xs.length
 lt:∀i (h:i<f.keys.length) (h':i<xs.length),∃h0:0<xs[i].keys.length,f.keys[i]<xs[i].keys[0]
 ag:lP m f.ag
theorem aax (A:OA) (c m:Nat) (xs:List Fa) (f:Fa) (w:World) (h:ep w w.heap.size A xs) (hr:Row w w.heap.size f.A (aP f.keys)) (mw:xs.length<=16) (dg:1<=m) (hm:m<=3) (ho:QV xs m f) :
 Calls Tryz.prog 71 #[.agg #[.slice A xs.length c,.int .i64 m],.agg (eB f)] w fun e w'=>e = .returned (.int .i64 0)/\Below w.heap.size w w':=by
 have ax:=(aq w.heap.size w).alloc (ah _) (.cells #[.slice A xs.length c,.int .i64 m] 75);have au:=ax.alloc ax.size (.cells (eB f) 56);have aV:=kp ((aa.new w 75 #[.slice A xs.length c,.int .i64 m]).alloc (.cells (eB f) 56));have bM:=kp (aa.lay (w:=w.alloc (.cells #[.slice A xs.length c,.int .i64 m] 75)) (g:=w.heap.size+1) (t:=56) (cs:=eB f) (by simp));have ay:=kp au;have H0:=kp ((h.below au).more au.size);have ib:=kp ((hr.below au).more au.size);have Ho:=kp ho;have HA:=kp (fun w=>Qo m f.ag w dg hm ho.ag);have jP:=ho.n;clear h hr ho au ax;obtain ⟨n,hn⟩:∃n,xs.length=n:=⟨_,rfl⟩
 have Hn:=kp hn;have Hkn:=kp jP;unfold eB at aV bM ay H0 ib ⊢;rw [jP] at aV bM ay H0 ib ⊢;rw [hn] at aV bM ay H0 ib mw ⊢;clear hn jP;have eE:((n:Int) == (n:Int))=true:=by simp
 go_enter Tryz.func71,Tryz.ntmps71;go_wp2_with fail;generalize (w.alloc (.cells #[.slice A n c,.int .i64 m] 75)).alloc (.cells #[.slice f.A n f.c,.int .i64 f.ag.c,.int .i64 f.ag.s0,.int .i64 f.ag.n0,.int .i64 f.ag.x0,.int .i64 f.ag.s1,.int .i64 f.ag.n1,.int .i64 f.ag.x1,.int .i64 f.ag.s2,.int .i64 f.ag.n2,.int .i64 f.ag.x2] 56)=W0 at *;obtain ⟨b0,b1,_,_⟩:=aV.o.two;have dD:=aa.sH bM.o
 go_loop [17] (fun kS=>∃k:Nat,k<=n/\kS = .int .i64 k) (fun kS=>n-(intOf kS).toNat)
 case atStart=>exact ⟨0,aZ _,rfl⟩
 case round =>
  obtain ⟨k,hk,rfl⟩:=hrel;by_cases ae:k<n
  .have fL:k<xs.length:=by rw [Hn.o];exact ae
   have vg:k<f.keys.length:=by rw [Hkn.o];exact fL
   obtain ⟨bx,ox,hA,aJ,c0⟩:=Row.at_ H0.o.row (k:=k) (by rw [lM];exact fL);rw [getElem_map] at c0;obtain ⟨bf,of,hAf,yg,e0⟩:=Row.at_ ib.o (k:=k) (by rw [ke];exact vg);unfold aP at e0;rw [getElem_map] at e0;obtain ⟨h0,hl⟩:=Ho.o.lt k vg fL;obtain ⟨bs,os,hAs,vm,g0⟩:=Row.at_ (H0.o.each _ (gM fL)) (k:=0) (by rw [ke];exact h0);unfold aP at g0;rw [getElem_map,Nat.add_zero] at g0;unfold lg at c0;rw [hAs] at c0;rw [hA] at b0;rw [hAf];generalize (f.keys[k]'vg)=y at *;generalize ((xs[k]'fL).keys[0]'h0)=z at *;generalize (xs[k]'fL).keys.length=l at *;generalize (xs[k]'fL).c=xc at *;have q1:((l:Int) == 0)=false:=by simp;omega
   have q2:¬ (y:Int)<0:=by omega
   have kz:decide ((y:Int)<0)=false:=decide_eq_false q2;have q3:¬ (z:Int)<=(y:Int):=by omega
   have zG:decide ((z:Int)<=(y:Int))=false:=decide_eq_false q3;have T6:decide (z<=y)=false:=decide_eq_false (by omega);have p0:(0:Int)<=(k:Int):=by omega
   have p1:(k:Int)<(n:Int):=by omega
   have p2:(0:Int)<(l:Int):=by omega
   go_wp2_with fail;exact ⟨⟨k+1,by omega,by go_num⟩,by simp [intOf];omega⟩
  .obtain rfl:k=n:=by omega
   go_wp2_with fail;refine (HA.o _).mono ?_;rintro e w3 ⟨rfl,aN⟩;have Hf:=aR ay aN;clear aN;go_wp2_with fail;go_ret;exact ⟨rfl,Hf.o⟩
def Mb (l:List Fa):Prop:=∀i (h:i+1<l.length),bP l[i].keys l[i+1].keys<0
theorem abg (A A':OA) (c c' m:Nat) (xs l:List Fa) (w:World) (h:ep w w.heap.size A xs) (hr:dG w w.heap.size A' l) (mw:xs.length<=16) (um:l.length<=1000000) (dg:1<=m) (hm:m<=3) (ho:∀f∈l,QV xs m f) (hs:Mb l) :
 Calls Tryz.prog 29 #[.agg #[.slice A xs.length c,.int .i64 m],.slice A' l.length c'] w fun e w'=>e = .returned (.int .i64 0)/\Below w.heap.size w w':=by
 have au:=(aq w.heap.size w).alloc (ah _) (.cells #[.slice A xs.length c,.int .i64 m] 75);have HB:=kp (aa.new w 75 #[.slice A xs.length c,.int .i64 m]);have ay:=kp au;have Hh:=kp h;have Hr:=kp hr;have Ho:=kp ho;have Hs:=kp hs;have HC:=kp (fun f w h1 h2 h3=>aax A c m xs f w h1 h2 mw dg hm h3);have Bv:=kp M1;have Hk:=kp (show ∀f∈l,f.keys.length<=1000000 from fun f hf=>by have:=(ho f hf).n;omega);clear h hr ho hs au;generalize hQ:(fun (e:Ending) w'=>e = .returned (.int .i64 0)/\Below w.heap.size w w')=Q;have HQ:=kp (show ∀w',Below w.heap.size w w'->Q (.returned (.int .i64 0)) w' from fun w' hb=>by rw [<-hQ];exact ⟨rfl,hb⟩);clear hQ;obtain ⟨n,hn⟩:∃n,l.length=n:=⟨_,rfl⟩
 have Hn:=kp hn;rw [hn] at um ⊢;clear hn;go_enter Tryz.func29,Tryz.ntmps29;go_wp2_with fail
 go_loopw [10] (fun nD wr=>∃k:Nat,k<=n/\nD = .int .i64 k/\aa wr w.heap.size 75 #[.slice A xs.length c,.int .i64 m]/\Below w.heap.size w wr) (fun nD _=>n-(intOf nD).toNat)
 case atStart=>exact ⟨0,aZ _,rfl,HB.o,ay.o⟩
 case round =>
  clear HB ay;obtain ⟨k,hk,rfl,aJ,aC⟩:=hrel;have bO:=kp aJ;have ai:=kp aC;clear aJ aC;by_cases ae:k<n
  .have aA:k<l.length:=by rw [Hn.o];exact ae
   have ie:=(Hr.o.below ai.o).more ai.o.size;obtain ⟨b,off,hA,hb,c0,c1,c2,c3,c4,c5,c6,c7,c8,c9,iw⟩:=ie.cells k aA;have hf:=ie.keys _ (gM aA);have wM:=kp (Ho.o _ (gM aA));have Kb:=kp (Hk.o _ (gM aA));have JT:=kp ie;have T8:=kp (show ∀q (h:q+1=k),bP (l[q]'(by omega)).keys (l[k]'aA).keys<0 from fun q h=>by subst h;exact Hs.o q aA);generalize (l[k]'aA)=f at *;have cS:=(aq wr.heap.size wr).alloc (ah _) (.cells (eB f) 56);have iH:=kp (aa.new wr 56 (eB f));have aF:=aR ai cS;have jA:=bu bO cS;have acw:=kp ((ie.below cS).more cS.size);have Hf:=kp ((hf.below cS).more cS.size);clear ie hf cS;have dz:(0:Int)<=(k:Int):=by omega
   have df:(k:Int)<(n:Int):=by omega
   rw [hA];have HA:=kp hA;clear hA;go_upto_region 4 with fail
   clear c0 c1 c2 c3 c4 c5 c6 c7 c8 c9 iw;generalize wr.alloc (.cells (eB f) 56)=W2 at *;generalize wr.heap.size=gF at *;have aD:=aa.sH iH.o;obtain ⟨x0,x1,_,_⟩:=jA.o.two;have ee:=kp (HC.o f W2 ((Hh.o.below aF.o).more aF.o.size) Hf.o wM.o);go_wp2_with fail;refine ee.o.mono ?_;rintro e w3 ⟨rfl,aN⟩;have bC:=aR aF aN;have DJ:=bu iH aN;have iu:=bu jA aN;have a29:=kp ((acw.o.below aN).more aN.size);have T9:=kp ((Hf.o.below aN).more aN.size);clear aN aD x0 x1;have aD:=aa.sH DJ.o;rcases k with _ | q
   .have r0:decide ((0:Int)<((0:Nat):Int))=false:=rfl;go_wp2_with fail;refine wp_region_noPanic ?_;refine dt (t:=99) (S:=(fun _=>True)) (by kernel_rfl) trivial (fun ad => ?_);refine mX 0 1 2 ad ?_;refine sk 3 ad ?_;refine sk 4 ad ?_;refine sk 5 ad ?_;refine sk 6 ad ?_;refine sk 7 ad ?_;refine sk 8 ad ?_;refine sk 9 ad ?_;refine sk 10 ad ?_;refine tk 11 ad ?_;refine dY (by kernel_rfl) ?_ _
    try clear ad
    refine NoPanic.normal ?_;go_wp2_with fail;exact ⟨⟨1,by omega,by go_num,iu.o.drew,bC.o.drew⟩,by simp [intOf];omega⟩
   .have gY:q<l.length:=by rw [Hn.o];omega
    obtain ⟨b',jy,gd,jc,p0,p1,p2,p3,p4,p5,p6,p7,p8,p9,nJ⟩:=a29.o.cells q gY;have wO:=HA.o.symm.trans gd;injection wO with wO
    injection wO with qv zy _
    subst qv zy;have iS:=T8.o q rfl;have Kh:=kp (show Calls Tryz.prog 64 #[.agg (eB (l[q]'gY)),.agg (eB f)] w3.drew _ from Bv.o (l[q]'gY) f w3.drew (Hk.o _ (gM gY)) Kb.o (a29.o.keys _ (gM gY)) T9.o);generalize (l[q]'gY)=p at *;have ND:decide ((0:Int)<=bP p.keys f.keys)=false:=decide_eq_false (by omega);generalize bP p.keys f.keys=V at *;have r0:decide ((0:Int)<((q:Int)+1))=true:=decide_eq_true (by omega);have sR:IntKind.i64.wrap (q:Int)=(q:Int):=IntWalk.i64_in _ (by omega);have uf:(0:Int)<=(q:Int):=by omega
    have sQ:(q:Int)<(n:Int):=by omega
    have xW:b<w3.heap.size:=jc;have Dq:gF<w3.heap.size:=DJ.o.lt;clear iS;go_wp2_with fail;refine wp_region_noPanic ?_;refine dt (t:=99) (S:=(fun w'=>(cF w' b (off+q*11) p)/\(kF w' gF f))) (by kernel_rfl) ⟨⟨p0,p1,p2,p3,p4,p5,p6,p7,p8,p9,nJ⟩,aD⟩ (fun ad => ?_);refine tD 0 1 2 3 ad ?_;refine tD 4 5 6 7 ad ?_;refine tk 8 ad ?_;refine oT 9 fun K hK=>?_
    go_simp
    refine Kh.o.mono ?_;rintro e wc ⟨rfl,nF⟩;have gg:=kp nF;clear nF;refine oK hK ?_ fun af=>?_
    .have e1:∀i,wc.cell? ⟨b,i,none⟩=w3.drew.cell? ⟨b,i,none⟩:=fun i=>cZ (a:=⟨b,i,none⟩) (by rw [gg.o];exact (Below.heap_alloc _ _ _ (by simp;omega)).trans (Below.heap_alloc _ _ _ xW))
     have e2:∀i,wc.cell? ⟨gF,i,none⟩=w3.drew.cell? ⟨gF,i,none⟩:=fun i=>cZ (a:=⟨gF,i,none⟩) (by rw [gg.o];exact (Below.heap_alloc _ _ _ (by simp;omega)).trans (Below.heap_alloc _ _ _ Dq))
     (try dsimp only [cA,oQ]);(try dsimp only [cF,kF]);(try dsimp only [cC,nV,cN,jU]);simp only [e1,e2];exact ⟨⟨p0,p1,p2,p3,p4,p5,p6,p7,p8,p9,nJ⟩,aD⟩
    replace ad:=af;clear hK K af;refine tB 10 11 ad ?_;refine dY (by kernel_rfl) ?_ _
    try clear ad
    refine NoPanic.normal ?_;have cU:=(show Below w3.drew.heap.size w3.drew wc by rw [gg.o];exact ((aq _ _).alloc (ah _) _).alloc (by simp) _)
    have acx:=kp (aa.under (w:=w3.drew) iu.o cU);have iI:=kp (bC.o.drew.trans (cU.mono bC.o.size));clear cU;go_wp2_with fail;exact ⟨⟨q+2,by omega,by go_num,acx.o,iI.o⟩,by simp [intOf];omega⟩
  .obtain rfl:k=n:=by omega
   have Hf:=kp (HQ.o _ ai.o);go_wp2_with fail;exact Hf.o
structure Cl where
 key:Nat
 child:Nat
 ag:Ag
abbrev cC (w:World) (b o:Nat) (x:Cl):Prop:=w.cell? ⟨b,o,none⟩=some (.int .i64 x.key)/\w.cell? ⟨b,o+1,none⟩=some (.int .i64 x.child)/\w.cell? ⟨b,o+2,none⟩=some (.int .i64 x.ag.c)/\w.cell? ⟨b,o+3,none⟩=some (.int .i64 x.ag.s0)/\w.cell? ⟨b,o+4,none⟩=some (.int .i64 x.ag.n0)/\w.cell? ⟨b,o+5,none⟩=some (.int .i64 x.ag.x0)/\w.cell? ⟨b,o+6,none⟩=some (.int .i64 x.ag.s1)/\w.cell? ⟨b,o+7,none⟩=some (.int .i64 x.ag.n1)/\w.cell? ⟨b,o+8,none⟩=some (.int .i64 x.ag.x1)/\w.cell? ⟨b,o+9,none⟩=some (.int .i64 x.ag.s2)/\w.cell? ⟨b,o+10,none⟩=some (.int .i64 x.ag.n2)/\w.cell? ⟨b,o+11,none⟩=some (.int .i64 x.ag.x2)
abbrev nV (w:World) (b:Nat) (x:Cl):Prop:=w.cell? ⟨b,0,none⟩=some (.int .i64 x.key)/\w.cell? ⟨b,1,none⟩=some (.int .i64 x.child)/\w.cell? ⟨b,2,none⟩=some (.int .i64 x.ag.c)/\w.cell? ⟨b,3,none⟩=some (.int .i64 x.ag.s0)/\w.cell? ⟨b,4,none⟩=some (.int .i64 x.ag.n0)/\w.cell? ⟨b,5,none⟩=some (.int .i64 x.ag.x0)/\w.cell? ⟨b,6,none⟩=some (.int .i64 x.ag.s1)/\w.cell? ⟨b,7,none⟩=some (.int .i64 x.ag.n1)/\w.cell? ⟨b,8,none⟩=some (.int .i64 x.ag.x1)/\w.cell? ⟨b,9,none⟩=some (.int .i64 x.ag.s2)/\w.cell? ⟨b,10,none⟩=some (.int .i64 x.ag.n2)/\w.cell? ⟨b,11,none⟩=some (.int .i64 x.ag.x2)
abbrev bT (c:Cl):LV:=[.int .i64 c.key,.int .i64 c.child,.int .i64 c.ag.c,.int .i64 c.ag.s0,.int .i64 c.ag.n0,.int .i64 c.ag.x0,.int .i64 c.ag.s1,.int .i64 c.ag.n1,.int .i64 c.ag.x1,.int .i64 c.ag.s2,.int .i64 c.ag.n2,.int .i64 c.ag.x2]
abbrev bQ (c:Cl):AV:=#[.int .i64 c.key,.int .i64 c.child,.int .i64 c.ag.c,.int .i64 c.ag.s0,.int .i64 c.ag.n0,.int .i64 c.ag.x0,.int .i64 c.ag.s1,.int .i64 c.ag.n1,.int .i64 c.ag.x1,.int .i64 c.ag.s2,.int .i64 c.ag.n2,.int .i64 c.ag.x2]
theorem yM (c:Cl):(bT c).length=12:=rfl
theorem M3 (c:Cl):∀u∈(bQ c).toList,u.oneCell'=true:=by
 intro u hu;simp only [bQ,mem_cons,not_mem_nil,or_false] at hu;rcases hu with rfl | rfl | rfl | rfl | rfl | rfl | rfl | rfl | rfl | rfl | rfl | rfl<;>rfl
theorem CU:(Tryz.prog.info? 98).map (fun i=>(i.zero,i.size,i.bytes))=some (some (.agg zC),12,96):=by kernel_rfl
theorem a1h:(Tryz.prog.info? 100).map (fun i=>(i.zero,i.size,i.bytes))=some (some (.agg zN),14,128):=by kernel_rfl
theorem QY:(Tryz.prog.info? 164).map (fun i=>(i.zero,i.size,i.bytes))=some (some (.slice none 0 0),1,24):=by kernel_rfl
def cO:Cl:=⟨0,0,aO⟩
structure Ll where
 A:OA
 cs:List Cl
 c:Nat
def fi (l:Ll):Value := .slice l.A l.cs.length l.c
structure Nd where
 aj:Nat
 A:OA
 ls:List Ll
 c:Nat
 all:Cl
abbrev cN (w:World) (b o:Nat) (x:Nd):Prop:=w.cell? ⟨b,o,none⟩=some (.int .i64 x.aj)/\w.cell? ⟨b,o+1,none⟩=some (.slice x.A x.ls.length x.c)/\w.cell? ⟨b,o+2,none⟩=some (.int .i64 x.all.key)/\w.cell? ⟨b,o+3,none⟩=some (.int .i64 x.all.child)/\w.cell? ⟨b,o+4,none⟩=some (.int .i64 x.all.ag.c)/\w.cell? ⟨b,o+5,none⟩=some (.int .i64 x.all.ag.s0)/\w.cell? ⟨b,o+6,none⟩=some (.int .i64 x.all.ag.n0)/\w.cell? ⟨b,o+7,none⟩=some (.int .i64 x.all.ag.x0)/\w.cell? ⟨b,o+8,none⟩=some (.int .i64 x.all.ag.s1)/\w.cell? ⟨b,o+9,none⟩=some (.int .i64 x.all.ag.n1)/\w.cell? ⟨b,o+10,none⟩=some (.int .i64 x.all.ag.x1)/\w.cell? ⟨b,o+11,none⟩=some (.int .i64 x.all.ag.s2)/\w.cell? ⟨b,o+12,none⟩=some (.int .i64 x.all.ag.n2)/\w.cell? ⟨b,o+13,none⟩=some (.int .i64 x.all.ag.x2)
abbrev jU (w:World) (b:Nat) (x:Nd):Prop:=w.cell? ⟨b,0,none⟩=some (.int .i64 x.aj)/\w.cell? ⟨b,1,none⟩=some (.slice x.A x.ls.length x.c)/\w.cell? ⟨b,2,none⟩=some (.int .i64 x.all.key)/\w.cell? ⟨b,3,none⟩=some (.int .i64 x.all.child)/\w.cell? ⟨b,4,none⟩=some (.int .i64 x.all.ag.c)/\w.cell? ⟨b,5,none⟩=some (.int .i64 x.all.ag.s0)/\w.cell? ⟨b,6,none⟩=some (.int .i64 x.all.ag.n0)/\w.cell? ⟨b,7,none⟩=some (.int .i64 x.all.ag.x0)/\w.cell? ⟨b,8,none⟩=some (.int .i64 x.all.ag.s1)/\w.cell? ⟨b,9,none⟩=some (.int .i64 x.all.ag.n1)/\w.cell? ⟨b,10,none⟩=some (.int .i64 x.all.ag.x1)/\w.cell? ⟨b,11,none⟩=some (.int .i64 x.all.ag.s2)/\w.cell? ⟨b,12,none⟩=some (.int .i64 x.all.ag.n2)/\w.cell? ⟨b,13,none⟩=some (.int .i64 x.all.ag.x2)
abbrev dJ (n:Nd):LV:=[.int .i64 n.aj,.slice n.A n.ls.length n.c,.int .i64 n.all.key,.int .i64 n.all.child,.int .i64 n.all.ag.c,.int .i64 n.all.ag.s0,.int .i64 n.all.ag.n0,.int .i64 n.all.ag.x0,.int .i64 n.all.ag.s1,.int .i64 n.all.ag.n1,.int .i64 n.all.ag.x1,.int .i64 n.all.ag.s2,.int .i64 n.all.ag.n2,.int .i64 n.all.ag.x2]
abbrev bG (n:Nd):AV:=#[.int .i64 n.aj,.slice n.A n.ls.length n.c,.int .i64 n.all.key,.int .i64 n.all.child,.int .i64 n.all.ag.c,.int .i64 n.all.ag.s0,.int .i64 n.all.ag.n0,.int .i64 n.all.ag.x0,.int .i64 n.all.ag.s1,.int .i64 n.all.ag.n1,.int .i64 n.all.ag.x1,.int .i64 n.all.ag.s2,.int .i64 n.all.ag.n2,.int .i64 n.all.ag.x2]
theorem aa5 (n:Nd):(dJ n).length=14:=rfl
theorem YD (n:Nd):∀u∈(bG n).toList,u.oneCell'=true:=by
 intro u hu;simp only [bG,mem_cons,not_mem_nil,or_false] at hu;rcases hu with rfl | rfl | rfl | rfl | rfl | rfl | rfl | rfl | rfl | rfl | rfl | rfl | rfl | rfl<;>rfl
structure aI where
 aj:Nat
 lists:List (List Cl)
 all:Cl
def az (n:Nd):aI:=⟨n.aj,n.ls.map Ll.cs,n.all⟩
structure dp (w:World) (B:Nat) (n:Nd):Prop where
 row:Row w B n.A (n.ls.map fi)
 each:∀l∈n.ls,Row w B l.A (l.cs.flatMap bT)
theorem dp.below {w w':World} {B:Nat} {n:Nd} (h:dp w B n) (hb:Below B w w'):dp w' B n:=⟨h.row.below hb,fun l hl=>(h.each l hl).below hb⟩
theorem dp.more {w:World} {B B':Nat} {n:Nd} (h:dp w B n) (hB:B<=B'):dp w B' n:=⟨h.row.more hB,fun l hl=>(h.each l hl).more hB⟩
structure jH (w:World) (B:Nat) (A:OA) (l:List Nd):Prop where
 row:Row w B A (l.flatMap dJ)
 each:∀n∈l,dp w B n
theorem jH.below {w w':World} {B:Nat} {A:OA} {l:List Nd} (h:jH w B A l) (hb:Below B w w'):jH w' B A l:=⟨h.row.below hb,fun n hn=>(h.each n hn).below hb⟩
theorem jH.more {w:World} {B B':Nat} {A:OA} {l:List Nd} (h:jH w B A l) (hB:B<=B'):jH w B' A l:=⟨h.row.more hB,fun n hn=>(h.each n hn).more hB⟩
theorem rO {w:World} {B:Nat} {A:OA} {l:List Cl} (h:Row w B A (l.flatMap bT)) (k:Nat) (hk:k<l.length) :
 ∃b off,A=some ⟨b,off,none⟩/\b<B/\w.cell? ⟨b,off+k*12,none⟩=some (.int .i64 (l[k].key:Nat))/\w.cell? ⟨b,off+k*12+1,none⟩=some (.int .i64 (l[k].child:Nat))/\w.cell? ⟨b,off+k*12+2,none⟩=some (.int .i64 l[k].ag.c)/\w.cell? ⟨b,off+k*12+3,none⟩=some (.int .i64 l[k].ag.s0)/\w.cell? ⟨b,off+k*12+4,none⟩=some (.int .i64 l[k].ag.n0)/\w.cell? ⟨b,off+k*12+5,none⟩=some (.int .i64 l[k].ag.x0)/\w.cell? ⟨b,off+k*12+6,none⟩=some (.int .i64 l[k].ag.s1)/\w.cell? ⟨b,off+k*12+7,none⟩=some (.int .i64 l[k].ag.n1)/\w.cell? ⟨b,off+k*12+8,none⟩=some (.int .i64 l[k].ag.x1)/\w.cell? ⟨b,off+k*12+9,none⟩=some (.int .i64 l[k].ag.s2)/\w.cell? ⟨b,off+k*12+10,none⟩=some (.int .i64 l[k].ag.n2)/\w.cell? ⟨b,off+k*12+11,none⟩=some (.int .i64 l[k].ag.x2):=by
 obtain ⟨b,off,e,hb,hc⟩:=Row.rec yM h (by omega) k hk;exact ⟨b,off,e,hb,hc 0 _ rfl,hc 1 _ rfl,hc 2 _ rfl,hc 3 _ rfl,hc 4 _ rfl,hc 5 _ rfl,hc 6 _ rfl,hc 7 _ rfl,hc 8 _ rfl,hc 9 _ rfl,hc 10 _ rfl,hc 11 _ rfl⟩
theorem yL {w:World} {B:Nat} {A:OA} {l:List Nd} (h:Row w B A (l.flatMap dJ)) (k:Nat) (hk:k<l.length) :
 ∃b off,A=some ⟨b,off,none⟩/\b<B/\w.cell? ⟨b,off+k*14,none⟩=some (.int .i64 (l[k].aj:Nat))/\w.cell? ⟨b,off+k*14+1,none⟩=some (.slice l[k].A l[k].ls.length l[k].c)/\w.cell? ⟨b,off+k*14+2,none⟩=some (.int .i64 (l[k].all.key:Nat))/\w.cell? ⟨b,off+k*14+3,none⟩=some (.int .i64 (l[k].all.child:Nat))/\w.cell? ⟨b,off+k*14+4,none⟩=some (.int .i64 l[k].all.ag.c)/\w.cell? ⟨b,off+k*14+5,none⟩=some (.int .i64 l[k].all.ag.s0)/\w.cell? ⟨b,off+k*14+6,none⟩=some (.int .i64 l[k].all.ag.n0)/\w.cell? ⟨b,off+k*14+7,none⟩=some (.int .i64 l[k].all.ag.x0)/\w.cell? ⟨b,off+k*14+8,none⟩=some (.int .i64 l[k].all.ag.s1)/\w.cell? ⟨b,off+k*14+9,none⟩=some (.int .i64 l[k].all.ag.n1)/\w.cell? ⟨b,off+k*14+10,none⟩=some (.int .i64 l[k].all.ag.x1)/\w.cell? ⟨b,off+k*14+11,none⟩=some (.int .i64 l[k].all.ag.s2)/\w.cell? ⟨b,off+k*14+12,none⟩=some (.int .i64 l[k].all.ag.n2)/\w.cell? ⟨b,off+k*14+13,none⟩=some (.int .i64 l[k].all.ag.x2):=by
 obtain ⟨b,off,e,hb,hc⟩:=Row.rec aa5 h (by omega) k hk;exact ⟨b,off,e,hb,hc 0 _ rfl,hc 1 _ rfl,hc 2 _ rfl,hc 3 _ rfl,hc 4 _ rfl,hc 5 _ rfl,hc 6 _ rfl,hc 7 _ rfl,hc 8 _ rfl,hc 9 _ rfl,hc 10 _ rfl,hc 11 _ rfl,hc 12 _ rfl,hc 13 _ rfl⟩
theorem aa.fQ {w:World} {g:Nat} {t:TypeId} {a0 a1 a2 a3 a4 a5 a6 a7 a8 a9 dS iK:Value} (h:aa w g t #[a0,a1,a2,a3,a4,a5,a6,a7,a8,a9,dS,iK]) :
 (w.cell? ⟨g,0,none⟩=some a0/\w.cell? ⟨g,1,none⟩=some a1/\w.cell? ⟨g,2,none⟩=some a2/\w.cell? ⟨g,3,none⟩=some a3/\w.cell? ⟨g,4,none⟩=some a4/\w.cell? ⟨g,5,none⟩=some a5/\w.cell? ⟨g,6,none⟩=some a6/\w.cell? ⟨g,7,none⟩=some a7/\w.cell? ⟨g,8,none⟩=some a8/\w.cell? ⟨g,9,none⟩=some a9/\w.cell? ⟨g,10,none⟩=some dS/\w.cell? ⟨g,11,none⟩=some iK)/\(w.frozen? ⟨g,0,none⟩=false/\w.frozen? ⟨g,1,none⟩=false/\w.frozen? ⟨g,2,none⟩=false/\w.frozen? ⟨g,3,none⟩=false/\w.frozen? ⟨g,4,none⟩=false/\w.frozen? ⟨g,5,none⟩=false/\w.frozen? ⟨g,6,none⟩=false/\w.frozen? ⟨g,7,none⟩=false/\w.frozen? ⟨g,8,none⟩=false/\w.frozen? ⟨g,9,none⟩=false/\w.frozen? ⟨g,10,none⟩=false/\w.frozen? ⟨g,11,none⟩=false) :=
 ⟨⟨h.cell 0,h.cell 1,h.cell 2,h.cell 3,h.cell 4,h.cell 5,h.cell 6,h.cell 7,h.cell 8,h.cell 9,h.cell 10,h.cell 11⟩,h.free 0,h.free 1,h.free 2,h.free 3,h.free 4,h.free 5,h.free 6,h.free 7,h.free 8,h.free 9,h.free 10,h.free 11⟩
theorem aa.cw {w:World} {g:Nat} {t:TypeId} {a0 a1 a2 a3 a4 a5 a6 a7 a8 a9 dS iK DK a13:Value} (h:aa w g t #[a0,a1,a2,a3,a4,a5,a6,a7,a8,a9,dS,iK,DK,a13]) :
 (w.cell? ⟨g,0,none⟩=some a0/\w.cell? ⟨g,1,none⟩=some a1/\w.cell? ⟨g,2,none⟩=some a2/\w.cell? ⟨g,3,none⟩=some a3/\w.cell? ⟨g,4,none⟩=some a4/\w.cell? ⟨g,5,none⟩=some a5/\w.cell? ⟨g,6,none⟩=some a6/\w.cell? ⟨g,7,none⟩=some a7/\w.cell? ⟨g,8,none⟩=some a8/\w.cell? ⟨g,9,none⟩=some a9/\w.cell? ⟨g,10,none⟩=some dS/\w.cell? ⟨g,11,none⟩=some iK/\w.cell? ⟨g,12,none⟩=some DK/\w.cell? ⟨g,13,none⟩=some a13)/\(w.frozen? ⟨g,0,none⟩=false/\w.frozen? ⟨g,1,none⟩=false/\w.frozen? ⟨g,2,none⟩=false/\w.frozen? ⟨g,3,none⟩=false/\w.frozen? ⟨g,4,none⟩=false/\w.frozen? ⟨g,5,none⟩=false/\w.frozen? ⟨g,6,none⟩=false/\w.frozen? ⟨g,7,none⟩=false/\w.frozen? ⟨g,8,none⟩=false/\w.frozen? ⟨g,9,none⟩=false/\w.frozen? ⟨g,10,none⟩=false/\w.frozen? ⟨g,11,none⟩=false/\w.frozen? ⟨g,12,none⟩=false/\w.frozen? ⟨g,13,none⟩=false) :=
 ⟨⟨h.cell 0,h.cell 1,h.cell 2,h.cell 3,h.cell 4,h.cell 5,h.cell 6,h.cell 7,h.cell 8,h.cell 9,h.cell 10,h.cell 11,h.cell 12,h.cell 13⟩,h.free 0,h.free 1,h.free 2,h.free 3,h.free 4,h.free 5,h.free 6,h.free 7,h.free 8,h.free 9,h.free 10,h.free 11,h.free 12,h.free 13⟩
theorem aa.four {w:World} {g:Nat} {t:TypeId} {a0 a1 a2 a3:Value} (h:aa w g t #[a0,a1,a2,a3]) :
 (w.cell? ⟨g,0,none⟩=some a0/\w.cell? ⟨g,1,none⟩=some a1/\w.cell? ⟨g,2,none⟩=some a2/\w.cell? ⟨g,3,none⟩=some a3)/\(w.frozen? ⟨g,0,none⟩=false/\w.frozen? ⟨g,1,none⟩=false/\w.frozen? ⟨g,2,none⟩=false/\w.frozen? ⟨g,3,none⟩=false) :=
 ⟨⟨h.cell 0,h.cell 1,h.cell 2,h.cell 3⟩,h.free 0,h.free 1,h.free 2,h.free 3⟩
theorem a0Z (w:World) (a0 a1 a2 a3 a4 a5 a6 a7 a8 b0 b1 b2 b3 b4 b5 b6 b7 b8:Int):(Op.equalIn 9999 52 (.agg #[.int .i64 a0,.int .i64 a1,.int .i64 a2,.int .i64 a3,.int .i64 a4,.int .i64 a5,.int .i64 a6,.int .i64 a7,.int .i64 a8]) (.agg #[.int .i64 b0,.int .i64 b1,.int .i64 b2,.int .i64 b3,.int .i64 b4,.int .i64 b5,.int .i64 b6,.int .i64 b7,.int .i64 b8])).run Tryz.prog w = .ok (decide (a0=b0/\a1=b1/\a2=b2/\a3=b3/\a4=b4/\a5=b5/\a6=b6/\a7=b7/\a8=b8)) w:=by
 obtain ⟨i,hi⟩:∃i,Tryz.prog.info? 51=some i:=Option.isSome_iff_exists.1 (by kernel_rfl);have hc:Tryz.prog.cellsOf 51=3:=by kernel_rfl
 rw [run_equalIn_array w 9998 _ _ Tryz.underlying52 hi,hc];simp [Op.eqItems,go_sem,range,range.loop]
 repeat' split
 all_goals simp_all
theorem AR (A:OA) (n c m aj:Nat) (w:World) (hn:1<=n) (eZ:n<=1000000) (hd:aj<=1000000) :
 Calls Tryz.prog 80 #[.agg #[.slice A n c,.int .i64 m],.int .i64 (aj:Nat)] w fun e w'=>e = .returned (.bool (decide (aj+1=n)))/\Below w.heap.size w w':=by
 have au:=(aq w.heap.size w).alloc (ah _) (.cells #[.slice A n c,.int .i64 m] 75);have ay:=kp au
 have HV:=kp (show ((aj:Int) == (n:Int)-1)=decide (aj+1=n) by
  rw [Bool.eq_iff_iff];simp
  omega)
 clear au;go_enter Tryz.func80,Tryz.ntmps80;go_wp2_with fail;go_ret;exact ⟨by rw [<-HV.o];rfl,ay.o⟩
theorem Zi {ls:List Ll} {k:Nat} (hk:k<ls.length):((ls.take (k+1)).map fun l=>l.cs.length).sum=((ls.take k).map fun l=>l.cs.length).sum+ls[k].cs.length:=by
 rw [take_succ_eq_append_getElem hk,map_append,sum_append];simp only [map_cons,map_nil,sum_cons,sum_nil,Nat.add_zero]
theorem count_le {ls:List Ll} {b:Nat} (h:∀l∈ls,l.cs.length<=b) (k:Nat):((ls.take k).map fun l=>l.cs.length).sum<=k*b:=by
 induction k with
 | zero=>simp
 | succ k ih =>
  rw [Nat.succ_mul];by_cases hk:k<ls.length
  .rw [Zi hk];have:=h _ (gM hk);omega
  .rw [take_of_length_le (by omega)] at ih ⊢;omega
section
attribute [local go_sem] a0Z
def AW (last:Bool) (m:Nat) (c:Cl):Prop:=if last=true then c.child=0/\lP m c.ag else c.ag=aO
theorem Zz (A:OA) (n c m aj:Nat) (x:Cl) (w:World) (hn:1<=n) (eZ:n<=1000000) (hd:aj<=1000000) (dg:1<=m) (hm:m<=3) (hx:x.child<=2000000) (ho:AW (decide (aj+1=n)) m x) :
 Calls Tryz.prog 134 #[.agg #[.slice A n c,.int .i64 m],.int .i64 (aj:Nat),.agg (bQ x)] w fun e w'=>e = .returned (.bool true)/\Below w.heap.size w w':=by
 obtain ⟨key,child,ac,s0,n0,x0,s1,n1,x1,s2,n2,x2⟩:=x;have ax:=(aq w.heap.size w).alloc (ah _) (.cells #[.slice A n c,.int .i64 m] 75);have au:=ax.alloc ax.size (.cells (bQ ⟨key,child,ac,s0,n0,x0,s1,n1,x1,s2,n2,x2⟩) 98);have aV:=kp ((aa.new w 75 #[.slice A n c,.int .i64 m]).alloc (.cells (bQ ⟨key,child,ac,s0,n0,x0,s1,n1,x1,s2,n2,x2⟩) 98));have bM:=kp (aa.lay (w:=w.alloc (.cells #[.slice A n c,.int .i64 m] 75)) (g:=w.heap.size+1) (t:=98) (cs:=bQ ⟨key,child,ac,s0,n0,x0,s1,n1,x1,s2,n2,x2⟩) (by simp));have ay:=kp au;have HL:=kp (fun w=>AR A n c m aj w hn eZ hd);clear au ax;dsimp only at hx;generalize hQ:(fun (e:Ending) w'=>e = .returned (.bool true)/\Below w.heap.size w w')=Q;have HQ:=kp (show ∀w',Below w.heap.size w w'->Q (.returned (.bool true)) w' from fun w' hb=>by rw [<-hQ];exact ⟨rfl,hb⟩);clear hQ;by_cases hl:aj+1=n
 .rw [decide_eq_true hl] at HL ho;obtain ⟨h1,h2⟩:=ho;change child=0 at h1;have HA:=kp (fun w=>Qo m ⟨ac,s0,n0,x0,s1,n1,x1,s2,n2,x2⟩ w dg hm h2);subst h1;clear h2 hl hn eZ hd dg hm;go_enter Tryz.func134,Tryz.ntmps134;obtain ⟨b0,b1,_,_⟩:=aV.o.two;go_wp2_with fail;refine (HL.o _).mono ?_;clear b0 b1;generalize (w.alloc (.cells #[.slice A n c,.int .i64 m] 75)).alloc (.cells (bQ ⟨key,0,ac,s0,n0,x0,s1,n1,x1,s2,n2,x2⟩) 98)=W0 at *;rintro e w1 ⟨rfl,ax⟩;have aM:=aR ay ax;obtain ⟨b0,b1,_,_⟩:=(aV.o.under ax).two;have dD:=(aa.fQ (bM.o.under ax)).1;clear ax;go_wp2_with fail;refine (HA.o _).mono ?_;rintro e w2 ⟨rfl,aH⟩;have Hf:=kp (HQ.o _ (aM.o.trans (aH.mono aM.o.size)));clear aH b0 b1 dD;go_wp2_with fail;exact Hf.o
 .rw [decide_eq_false hl] at HL ho;have h1:(⟨ac,s0,n0,x0,s1,n1,x1,s2,n2,x2⟩:Ag)=aO:=ho;unfold aO at h1;injection h1 with h1 h2 h3 h4 h5 h6 h7 h8 h9 zz
  subst h1 h2 h3 h4 h5 h6 h7 h8 h9 zz;have q1:(0:Int)<=(child:Int):=by omega
  have jg:decide ((0:Int)<=(child:Int))=true:=decide_eq_true q1;clear ho hl hn eZ hd dg hm;go_enter Tryz.func134,Tryz.ntmps134;obtain ⟨b0,b1,_,_⟩:=aV.o.two;go_wp2_with fail;refine (HL.o _).mono ?_;clear b0 b1;generalize (w.alloc (.cells #[.slice A n c,.int .i64 m] 75)).alloc (.cells (bQ ⟨key,child,0,0,0,0,0,0,0,0,0,0⟩) 98)=W0 at *;rintro e w1 ⟨rfl,ax⟩;have Hf:=kp (HQ.o _ (ay.o.trans (ax.mono ay.o.size)));have dD:=(aa.fQ (bM.o.under ax)).1;clear ax;go_wp2_with fail;exact Hf.o
structure Zd (last:Bool) (m size:Nat) (l:List Cl):Prop where
 n1:1<=l.length
 key:∀c∈l,c.key<size
 child:∀c∈l,c.child<=2000000
 cell:∀c∈l,AW last m c
 vN:∀i (h:i+1<l.length),l[i].key<l[i+1].key
theorem a69 (A A':OA) (n c m aj size c':Nat) (l:List Cl) (w:World) (hr:Row w w.heap.size A' (l.flatMap bT)) (mZ:l.length<=1000000) (hn:1<=n) (eZ:n<=1000000) (hd:aj<=1000000) (dg:1<=m) (hm:m<=3) (hs:size<=1000000) (ho:Zd (decide (aj+1=n)) m size l) :
 Calls Tryz.prog 133 #[.agg #[.slice A n c,.int .i64 m],.int .i64 (aj:Nat),.int .i64 (size:Nat),.slice A' l.length c'] w fun e w'=>e = .returned (.int .i64 0)/\Below w.heap.size w w':=by
 have au:=(aq w.heap.size w).alloc (ah _) (.cells #[.slice A n c,.int .i64 m] 75);have HB:=kp (aa.new w 75 #[.slice A n c,.int .i64 m]);have ay:=kp au;have Hr:=kp hr;have HC:=kp (fun x w h1 h2=>Zz A n c m aj x w hn eZ hd dg hm h1 h2);have qU:=kp ho.key;have Ki:=kp ho.child;have Kj:=kp ho.cell;have acy:=kp ho.vN;have iT:=ho.n1;clear hr ho au hn eZ hd dg hm;generalize hQ:(fun (e:Ending) w'=>e = .returned (.int .i64 0)/\Below w.heap.size w w')=Q;have HQ:=kp (show ∀w',Below w.heap.size w w'->Q (.returned (.int .i64 0)) w' from fun w' hb=>by rw [<-hQ];exact ⟨rfl,hb⟩);clear hQ;obtain ⟨k0,td⟩:∃k0,l.length=k0:=⟨_,rfl⟩
 have yi:=kp td;rw [td] at iT mZ ⊢;clear td;have q0:((k0:Int) == 0)=false:=by simp;omega
 go_enter Tryz.func133,Tryz.ntmps133;go_wp2_with fail;clear q0
 go_loopw [16] (fun DL wr=>∃k:Nat,k<=k0/\DL = .int .i64 k/\aa wr w.heap.size 75 #[.slice A n c,.int .i64 m]/\Below w.heap.size w wr) (fun DL _=>k0-(intOf DL).toNat)
 case atStart=>exact ⟨0,aZ _,rfl,HB.o,ay.o⟩
 case round =>
  clear HB ay;obtain ⟨k,hk,rfl,aJ,aC⟩:=hrel;have bO:=kp aJ;have ai:=kp aC;clear aJ aC;by_cases ae:k<k0
  .have aA:k<l.length:=by rw [yi.o];exact ae
   have nB:=(Hr.o.below ai.o).more ai.o.size;obtain ⟨b,off,hA,hb,c0,c1,c2,c3,c4,c5,c6,c7,c8,c9,iw,rb⟩:=rO nB k aA;have FT:=kp nB;have Hx:=kp (Kj.o _ (gM aA));have pW:=qU.o _ (gM aA);have Hxc:=kp (Ki.o _ (gM aA));have T8:=kp (show ∀q (h:q+1=k),(l[q]'(by omega)).key<(l[k]'aA).key from fun q h=>by subst h;exact acy.o q aA);generalize (l[k]'aA)=x at *;have cS:=(aq wr.heap.size wr).alloc (ah _) (.cells (bQ x) 98);have iH:=kp (aa.new wr 98 (bQ x));have aF:=aR ai cS;have jA:=bu bO cS;have acz:=kp ((nB.below cS).more cS.size);clear nB cS;have dz:(0:Int)<=(k:Int):=by omega
   have df:(k:Int)<(k0:Int):=by omega
   rw [hA];have HA:=kp hA;clear hA;go_upto_region 6 with fail
   clear c0 c1 c2 c3 c4 c5 c6 c7 c8 c9 iw rb;generalize wr.alloc (.cells (bQ x) 98)=W2 at *;generalize wr.heap.size=gC at *;obtain ⟨⟨a0,a1,a2,a3,a4,a5,a6,a7,a8,a9,dS,iK⟩,_⟩:=aa.fQ iH.o;obtain ⟨x0,x1,_,_⟩:=jA.o.two;have ee:=kp (fun w=>HC.o x w Hxc.o Hx.o);have q1:¬ ((x.key:Nat):Int)<0:=by omega
   have jg:decide (((x.key:Nat):Int)<0)=false:=decide_eq_false q1;have q2:¬ ((size:Nat):Int)<=((x.key:Nat):Int):=by omega
   have kz:decide (((size:Nat):Int)<=((x.key:Nat):Int))=false:=decide_eq_false q2;have zH:decide (size<=x.key)=false:=decide_eq_false (by omega);rcases k with _ | q
   .have r0:decide ((0:Int)<((0:Nat):Int))=false:=rfl;go_wp2_with fail;refine wp_region_noPanic ?_;refine dt (t:=99) (S:=(fun _=>True)) (by kernel_rfl) trivial (fun ad => ?_);refine mX 0 1 2 ad ?_;refine sk 3 ad ?_;refine sk 4 ad ?_;refine sk 5 ad ?_;refine sk 6 ad ?_;refine sk 7 ad ?_;refine sk 8 ad ?_;refine sk 9 ad ?_;refine sk 10 ad ?_;refine sk 11 ad ?_;refine tB 12 13 ad ?_;refine dY (by kernel_rfl) ?_ _
    try clear ad
    refine NoPanic.normal ?_;go_wp2_with fail;refine (ee.o _).mono ?_;rintro e w3 ⟨rfl,aN⟩;have iu:=kp ((jA.o.drew).under aN);have bC:=kp (aF.o.drew.trans (aN.mono aF.o.size));clear aN;go_wp2_with fail;exact ⟨⟨1,by omega,by go_num,iu.o,bC.o⟩,by simp [intOf];omega⟩
   .have gY:q<l.length:=by rw [yi.o];omega
    obtain ⟨b',jy,gd,jc,p0,_⟩:=rO acz.o q gY;have wO:=HA.o.symm.trans gd;injection wO with wO
    injection wO with qv zy _
    subst qv zy;have iS:=T8.o q rfl;generalize (l[q]'gY).key=pk at *;have r0:decide ((0:Int)<((q:Int)+1))=true:=decide_eq_true (by omega);have r1:¬ ((x.key:Nat):Int)<=((pk:Nat):Int):=by omega
    have Gc:decide (((x.key:Nat):Int)<=((pk:Nat):Int))=false:=decide_eq_false r1;have r1n:decide (x.key<=pk)=false:=decide_eq_false (by omega);have sR:IntKind.i64.wrap (q:Int)=(q:Int):=IntWalk.i64_in _ (by omega);have uf:(0:Int)<=(q:Int):=by omega
    have sQ:(q:Int)<(k0:Int):=by omega
    clear iS gd jc;go_wp2_with fail;refine wp_region_noPanic ?_;refine dt (t:=99) (S:=(fun w'=>w'.cell? ⟨b,off+q*12,none⟩=some (.int .i64 (pk:Nat))/\w'.cell? ⟨gC,0,none⟩=some (.int .i64 x.key))) (by kernel_rfl) ⟨p0,a0⟩ (fun ad => ?_);refine tD 0 1 2 3 ad ?_;refine tD 4 5 6 7 ad ?_;refine tD 8 9 10 11 ad ?_;refine tB 12 13 ad ?_;refine dY (by kernel_rfl) ?_ _
    try clear ad
    refine NoPanic.normal ?_;go_wp2_with fail;refine (ee.o _).mono ?_;rintro e w3 ⟨rfl,aN⟩;have iu:=kp ((jA.o.drew).under aN);have bC:=kp (aF.o.drew.trans (aN.mono aF.o.size));clear aN;go_wp2_with fail;exact ⟨⟨q+2,by omega,by go_num,iu.o,bC.o⟩,by simp [intOf];omega⟩
  .obtain rfl:k=k0:=by omega
   have Hf:=kp (HQ.o _ ai.o);go_wp2_with fail;exact Hf.o
end
structure yK (last:Bool) (X:LN) (m:Nat) (p:aI):Prop where
 ls:p.lists.length=X.length
 n1:1<=p.lists.length
 n4:p.lists.length<=4
 EV:∀l∈p.lists,l.length<=1000000
 size:∀y∈X,y<=1000000
 each:∀ (k:Nat) (l:List Cl) (y:Nat),p.lists[k]? = some l->X[k]? = some y->Zd last m y l
 FA:∀ (k:Nat) (l l':List Cl),p.lists[k]? = some l->p.lists[k+1]? = some l'->l'.length<=l.length
 a0T:p.all.key=0
 child:p.all.child<=2000000
 all:AW last m p.all
theorem IZ {ls:List Ll} {k:Nat} (h:k<ls.length):(ls.map Ll.cs)[k]? = some ls[k].cs:=by
 rw [getElem?_map,gE h];rfl
theorem XC (A:OA) (c m:Nat) (xs:List Fa) (n:Nd) (w:World) (h:ep w w.heap.size A xs) (hr:dp w w.heap.size n) (eZ:xs.length<=16) (dg:1<=m) (hm:m<=3) (eH:n.aj<xs.length) (ho:yK (decide (n.aj+1=xs.length)) (xs[n.aj]'eH).keys m (az n)) :
 Calls Tryz.prog 96 #[.agg #[.slice A xs.length c,.int .i64 m],.agg (bG n)] w fun e w'=>e = .returned (.int .i64 0)/\Below w.heap.size w w':=by
 obtain ⟨aj,nA,ls,nc,key,child,ac,s0,n0,x0,s1,n1,x1,s2,n2,x2⟩:=n;have fZ:=ho.ls;have ej:=ho.n1;have fw:=ho.n4;have a2a:=ho.a0T;have a2b:=kp ho.EV;have N':=kp ho.size;have DM:=kp ho.each;have a2c:=kp ho.FA;have Ki:=kp ho.child;have qX:=kp ho.all;clear ho;dsimp only [az] at eH fZ ej fw a2a a2b N' DM a2c Ki qX;rw [lM] at fZ ej fw;have HL:=kp (fun A' (size:Nat) c' (l:List Cl) w h1 h2 h3 h4=>a69 A A' xs.length c m aj size c' l w h1 h2 (by omega) (by omega) (by omega) dg hm h3 h4);have HC:=kp (fun w=>Zz A xs.length c m aj ⟨key,child,ac,s0,n0,x0,s1,n1,x1,s2,n2,x2⟩ w (by omega) (by omega) (by omega) dg hm Ki.o qX.o);obtain ⟨bx,ox,rfl,aJ,BN⟩:=Row.at_ h.row (k:=aj) (by rw [lM];exact eH);rw [getElem_map] at BN;unfold lg at BN;have hX:=h.each _ (gM eH);generalize (xs[aj]'eH)=X at *;rw [<-fZ] at BN;have FY:=kp fZ;clear fZ;obtain ⟨nx,fh⟩:∃nx,xs.length=nx:=⟨_,rfl⟩
 obtain ⟨lx,dr⟩:∃lx,ls.length=lx:=⟨_,rfl⟩
 have ml:=kp dr;dsimp only [bG];rw [fh] at HL HC eZ eH DM ⊢;rw [dr] at BN ej fw ⊢;clear fh dr Ki qX dg hm h;have ax:=(aq w.heap.size w).alloc (ah _) (.cells #[.slice (some ⟨bx,ox,none⟩) nx c,.int .i64 m] 75);have au:=ax.alloc ax.size (.cells #[.int .i64 (aj:Nat),.slice nA lx nc,.int .i64 (key:Nat),.int .i64 (child:Nat),.int .i64 ac,.int .i64 s0,.int .i64 n0,.int .i64 x0,.int .i64 s1,.int .i64 n1,.int .i64 x1,.int .i64 s2,.int .i64 n2,.int .i64 x2] 100);have aV:=kp ((aa.new w 75 #[.slice (some ⟨bx,ox,none⟩) nx c,.int .i64 m]).alloc (.cells #[.int .i64 (aj:Nat),.slice nA lx nc,.int .i64 (key:Nat),.int .i64 (child:Nat),.int .i64 ac,.int .i64 s0,.int .i64 n0,.int .i64 x0,.int .i64 s1,.int .i64 n1,.int .i64 x1,.int .i64 s2,.int .i64 n2,.int .i64 x2] 100));have bM:=kp (aa.lay (w:=w.alloc (.cells #[.slice (some ⟨bx,ox,none⟩) nx c,.int .i64 m] 75)) (g:=w.heap.size+1) (t:=100) (cs:=#[.int .i64 (aj:Nat),.slice nA lx nc,.int .i64 (key:Nat),.int .i64 (child:Nat),.int .i64 ac,.int .i64 s0,.int .i64 n0,.int .i64 x0,.int .i64 s1,.int .i64 n1,.int .i64 x1,.int .i64 s2,.int .i64 n2,.int .i64 x2]) (by simp));clear ax;generalize dj:(w.alloc (.cells #[.slice (some ⟨bx,ox,none⟩) nx c,.int .i64 m] 75)).alloc (.cells #[.int .i64 (aj:Nat),.slice nA lx nc,.int .i64 (key:Nat),.int .i64 (child:Nat),.int .i64 ac,.int .i64 s0,.int .i64 n0,.int .i64 x0,.int .i64 s1,.int .i64 n1,.int .i64 x1,.int .i64 s2,.int .i64 n2,.int .i64 x2] 100)=W0 at *;have ay:=kp au;have HX:=kp ((hX.below au).more au.size);have ib:=kp ((hr.below au).more au.size);replace BN:=(au.cell (p:=⟨bx,ox+aj,none⟩) aJ).trans BN;clear hX hr au aJ;generalize hQ:(fun (e:Ending) w'=>e = .returned (.int .i64 0)/\Below w.heap.size w w')=Q;have HQ:=kp (show ∀w',Below w.heap.size w w'->Q (.returned (.int .i64 0)) w' from fun w' hb=>by rw [<-hQ];exact ⟨rfl,hb⟩);clear hQ;obtain ⟨b0,b1,_,_⟩:=aV.o.two;obtain ⟨d0,d1,d2,d3,d4,d5,d6,d7,d8,d9,dB,dC,gB,iF⟩:=(aa.cw bM.o).1;have q1:¬ ((aj:Nat):Int)<0:=by omega
 have jg:decide (((aj:Nat):Int)<0)=false:=decide_eq_false q1;have q2:¬ ((nx:Nat):Int)<=((aj:Nat):Int):=by omega
 have kz:decide (((nx:Nat):Int)<=((aj:Nat):Int))=false:=decide_eq_false q2;have zH:decide (nx<=aj)=false:=decide_eq_false (by omega);have q3:(((lx:Nat):Int) == 0)=false:=by simp;omega
 have q4:(((lx:Nat):Int) != ((lx:Nat):Int))=false:=by simp
 have q5:(((key:Nat):Int) != 0)=false:=by simp;omega
 clear a2a;have p0:(0:Int)<=((aj:Nat):Int):=by omega
 have p1:((aj:Nat):Int)<((nx:Nat):Int):=by omega
 go_enter Tryz.func96,Tryz.ntmps96;go_upto_region 2 with fail
 clear dj;refine wp_region_noPanic ?_;refine dt (t:=99) (S:=(fun w'=>(w'.cell? ⟨w.heap.size,0,none⟩=some (.slice (some ⟨bx,ox,none⟩) nx c)/\w'.cell? ⟨w.heap.size+1,0,none⟩=some (.int .i64 (aj:Nat)))/\w'.cell? ⟨w.heap.size+1,1,none⟩=some (.slice nA lx nc)/\w'.cell? ⟨bx,ox+aj,none⟩=some (.slice X.A lx X.c))) (by kernel_rfl) ⟨⟨b0,d0⟩,d1,BN⟩ (fun ad => ?_);refine tD 0 1 2 3 ad ?_;refine tD 4 5 6 7 ad ?_;refine tD 8 9 10 11 ad ?_;refine tD 12 13 14 15 ad ?_;refine tD 16 17 18 19 ad ?_;refine tD 20 21 22 23 ad ?_;refine tD 24 25 26 27 ad ?_;refine tB 28 29 ad ?_;refine dY (by kernel_rfl) ?_ _
 try clear ad
 refine NoPanic.normal ?_;go_wp2_with fail;clear b0 b1 d0 d1 d2 d3 d4 d5 d6 d7 d8 d9 dB dC gB iF q1 jg q2 kz zH q3 q4
 go_loopw [41] (fun Ta wr=>∃k:Nat,k<=lx/\Ta = .int .i64 k/\Below W0.heap.size W0 wr) (fun Ta _=>lx-(intOf Ta).toNat)
 case atStart=>exact ⟨0,aZ _,rfl,(aq _ _).drew⟩
 case round =>
  obtain ⟨k,hk,rfl,aC⟩:=hrel;have ai:=kp aC;have Tb:=bu aV aC;have Td:=bu bM aC;have O0:=aL aC BN;clear aC;obtain ⟨b0,b1,_,_⟩:=Tb.o.two;obtain ⟨d0,d1,d2,d3,d4,d5,d6,d7,d8,d9,dB,dC,gB,iF⟩:=(aa.cw Td.o).1;by_cases ae:k<lx
  .have aA:k<ls.length:=by rw [ml.o];exact ae
   have Kk:k<X.keys.length:=by rw [<-FY.o];exact aA
   have da:=(ib.o.below ai.o).more ai.o.size;obtain ⟨bl,ol,hA,zl,l0⟩:=Row.at_ da.row (k:=k) (by rw [lM];exact aA);rw [getElem_map] at l0;obtain ⟨bk,ok,hAk,Te,k0⟩:=Row.at_ ((HX.o.below ai.o).more ai.o.size) (k:=k) (by rw [ke];exact Kk);unfold aP at k0;rw [getElem_map] at k0;have dv:=N'.o _ (gM Kk);have dR:=a2b.o _ (mem_map_of_mem (gM aA));have uo:=kp (fun w' (hb:Below wr.heap.size wr w')=>HL.o (ls[k]'aA).A (X.keys[k]'Kk) (ls[k]'aA).c (ls[k]'aA).cs w' (((da.each _ (gM aA)).below hb).more hb.size) dR dv (DM.o k _ _ (IZ aA) (gE Kk)));have Hfk:=kp (show ∀q (h:q+1=k),(ls[k]'aA).cs.length<=(ls[q]'(by omega)).cs.length from fun q h=>by subst h;exact a2c.o q _ _ (IZ (by omega)) (IZ aA));unfold fi at l0;generalize (X.keys[k]'Kk)=sz at *;generalize (ls[k]'aA).cs.length=ll at *;generalize (ls[k]'aA).A=lA at *;generalize (ls[k]'aA).c=lc at *;dsimp only at hA;subst hA;rw [hAk] at O0;clear hAk da;have td:(0:Int)<=(k:Int):=by omega
   have cz:(k:Int)<(lx:Int):=by omega
   have aJ:=LP O0;dsimp only at aJ;have aH:=Tb.o.lt;have aN:=Td.o.lt;go_upto_region 6 with fail
   refine wp_region_noPanic ?_;refine dt (t:=99) (S:=(fun w'=>(w'.cell? ⟨w.heap.size,0,none⟩=some (.slice (some ⟨bx,ox,none⟩) nx c)/\w'.cell? ⟨w.heap.size,1,none⟩=some (.int .i64 m))/\w'.cell? ⟨w.heap.size+1,0,none⟩=some (.int .i64 (aj:Nat))/\w'.cell? ⟨bx,ox+aj,none⟩=some (.slice (some ⟨bk,ok,none⟩) lx X.c)/\w'.cell? ⟨bk,ok+k,none⟩=some (.int .i64 (sz:Nat)))) (by kernel_rfl) ⟨⟨b0,b1⟩,d0,O0,k0⟩ (fun ad => ?_);refine tD 0 1 2 3 ad ?_;refine tD 4 5 6 7 ad ?_;refine tD 8 9 10 11 ad ?_;refine tk 12 ad ?_;refine oT 13 fun K hK=>?_
   go_simp
   refine (uo.o _ ((aq _ _).drew)).mono ?_;rintro e wc ⟨rfl,nF⟩;have gg:=kp (show Below wr.heap.size wr wc from (aq _ _).drew.trans nF);clear nF;refine oK hK ?_ fun af=>?_
   .exact ⟨⟨aL gg.o b0,aL gg.o b1⟩,aL gg.o d0,aL gg.o O0,aL gg.o k0⟩
   replace ad:=af;clear hK K af;refine tk 14 ad ?_;refine dY (by kernel_rfl) ?_ _
   try clear ad
   refine NoPanic.normal ?_;have ec:=kp (ai.o.trans (gg.o.mono ai.o.size));have acA:=kp (Tb.o.under gg.o);have acB:=kp (Td.o.under gg.o);have a2d:=(ib.o.below ec.o).more ec.o.size;have DN:=kp a2d.row;clear a2d b0 b1 d0 d1 d2 d3 d4 d5 d6 d7 d8 d9 dB dC gB iF;obtain ⟨b0,b1,_,_⟩:=acA.o.two;obtain ⟨d0,d1,d2,d3,d4,d5,d6,d7,d8,d9,dB,dC,gB,iF⟩:=(aa.cw acB.o).1;rcases k with _ | q
   .have r0:decide ((0:Int)<((0:Nat):Int))=false:=rfl;go_wp2_with fail;exact ⟨⟨1,by omega,by go_num,ec.o⟩,by simp [intOf];omega⟩
   .have gY:q<ls.length:=by rw [ml.o];omega
    obtain ⟨bl',ol',gd,aeO,l1⟩:=Row.at_ DN.o (k:=q) (by rw [lM];exact gY);rw [getElem_map] at l1;unfold fi at l1;have hfq:=Hfk.o q rfl;dsimp only at gd;injection gd with gd
    injection gd with qv zy _
    subst qv zy;generalize (ls[q]'gY).cs.length=lq at *;generalize (ls[q]'gY).A=qA at *;generalize (ls[q]'gY).c=qc at *;have r0:decide ((0:Int)<((q:Int)+1))=true:=decide_eq_true (by omega);have r1:¬ ((lq:Nat):Int)<((ll:Nat):Int):=by omega
    have Gc:decide (((lq:Nat):Int)<((ll:Nat):Int))=false:=decide_eq_false r1;have r1n:decide (lq<ll)=false:=decide_eq_false (by omega);have sR:IntKind.i64.wrap (q:Int)=(q:Int):=IntWalk.i64_in _ (by omega);have uf:(0:Int)<=(q:Int):=by omega
    have sQ:(q:Int)<(lx:Int):=by omega
    go_wp2_with fail;exact ⟨⟨q+2,by omega,by go_num,ec.o⟩,by simp [intOf];omega⟩
  .obtain rfl:k=lx:=by omega
   go_wp2_with fail;refine (HC.o _).mono ?_;rintro e w3 ⟨rfl,aN⟩;have Hf:=kp (HQ.o _ (ay.o.trans ((ai.o.trans (aN.mono ai.o.size)).mono ay.o.size)));clear aN;go_wp2_with fail;exact Hf.o
def aK (w:World) (g o:Nat):LV->World
 | []=>w
 | v::vs=>aK (w.setCell ⟨g,o,none⟩ v) g (o+1) vs
theorem gu {k g:Nat} (hk:k≠g):∀ (vs:LV) (w:World) (o:Nat),(aK w g o vs).heap[k]? = w.heap[k]?
 | [],_,_=>rfl
 | v::vs,w,o=>(gu hk vs _ _).trans (Below.heap_setCell w ⟨g,o,none⟩ v k hk)
theorem J8 (g:Nat):∀ (vs:LV) (w:World) (o:Nat),(aK w g o vs).heap.size=w.heap.size
 | [],_,_=>rfl
 | v::vs,w,o=>(J8 g vs _ _).trans (by simp)
theorem eU {B g:Nat} {x:World} (hg:B<=g):∀ (vs:LV) (w:World) (o:Nat),Below B x w->Below B x (aK w g o vs)
 | [],_,_,h=>h
 | v::vs,w,o,h=>eU hg vs _ _ (h.setCell (p:=⟨g,o,none⟩) hg v)
theorem LX {g:Nat} {t:TypeId}:∀ (vs:LV) (w:World) (pre post:LV),aa w g t (pre++post).toArray->vs.length=post.length->aa (aK w g pre.length vs) g t (pre++vs).toArray
 | [],w,pre,post,h,hl=>by
  have:post=[]:=length_eq_zero_iff.1 hl.symm;subst this;exact h
 | v::vs,w,pre,[],h,hl=>by cases hl
 | v::vs,w,pre,p::post,h,hl=>by
  have h1:=h.set pre.length v;have e:((pre++p::post).toArray.setIfInBounds pre.length v)=((pre++[v])++post).toArray:=by simp
  rw [e] at h1;have h2:=LX vs _ (pre++[v]) post h1 (by simpa using hl);rw [aS,append_assoc] at h2;exact h2
theorem eO {g:Nat} {t:TypeId} {w:World} {cs:AV} (h:aa w g t cs) (vs:LV) (hl:vs.length=cs.size):aa (Tc.aK w g 0 vs) g t vs.toArray:=by
 have:=LX vs w [] cs.toList (by simpa using h) (by simpa using hl);simpa using this
def Ap (w:World) (v:Value) (A:OA) (vs:LV):Prop:=Row w w.heap.size A vs/\∀b off,A=some ⟨b,off,none⟩->vs≠[]->v.ownBlock≠some b
def kh (B:Nat) (A:OA) (vs:LV):Prop:=∀b off,A=some ⟨b,off,none⟩->vs≠[]->B<=b
theorem Ap.app {wr w':World} {v v':Value} {A:OA} {vs:LV} (h:Ap wr v A vs) (ha:App wr w' v v'):Ap w' v' A vs:=by
 refine ⟨(Row.app h.1 ha (ah _) h.2).more ha.grown.size,fun b off e av => ?_⟩;rcases ha.qH with hl | ⟨k,hl,hk⟩
 .rw [hl];exact h.2 b off e av
 .rw [hl];intro hh;injection hh with hh
  rcases h.1 with h0 | ⟨b',jy,e',jc,_⟩
  .exact av h0
  .rw [e] at e';injection e' with e'
   injection e' with e1 _ _
   omega
theorem Ap.below {w w':World} {v:Value} {A:OA} {vs:LV} (h:Ap w v A vs) (hb:Below w.heap.size w w'):Ap w' v A vs:=⟨(h.1.below hb).more hb.size,h.2⟩
theorem Ap.new {w:World} {v:Value} {A:OA} {vs:LV} {B n m c:Nat} {e:TypeId} (aE:w.ownsRow B e m (.slice A n c) n vs) (hv:∀k,v.ownBlock=some k->k<B):Ap w v A vs:=by
 refine ⟨gV aE,fun b off e av hh => ?_⟩;have h1:=hv b hh;rw [e] at aE;have h2:=(aE.lt b rfl).1;omega
theorem kh.own {w:World} {A:OA} {vs:LV} {B0 B n m c:Nat} {e:TypeId} (aE:w.ownsRow B e m (.slice A n c) n vs) (hB:B0<=B):kh B0 A vs:=by
 intro b off h av;rw [h] at aE;exact aT hB (aE.lt b rfl).1
theorem kh.less {B B':Nat} {A:OA} {vs:LV} (h:kh B A vs) (hB:B'<=B):kh B' A vs:=fun b off e av=>aT hB (h b off e av)
theorem Ap.bX {w:World} {B:Nat} {v:Value} {A:OA} {vs:LV} (h:Ap w v A vs) (hf:kh B A vs) {p:Addr} (hp:p.block<B) (u:Value):Ap (w.setCell p u) v A vs:=by
 refine ⟨?_,h.2⟩;rw [show (w.setCell p u).heap.size=w.heap.size by simp];exact yJ h.1 (fun b off e av=>Below.heap_setCell w p u b (by have:=hf b off e av;omega))
theorem CZ {w:World} {B:Nat} {e:TypeId} {sz n:Nat} {v:Value} {xs:LV} (h:w.ownsRow B e sz v n xs) {p:Addr} (hp:p.block<B) (u:Value):(w.setCell p u).ownsRow B e sz v n xs:=by
 obtain ⟨h1,h2⟩:=h;refine ⟨h1,?_⟩;rcases h2 with h2 | ⟨g,cap,cur,e,hB,hh,r⟩
 .exact .inl h2
 .exact .inr ⟨g,cap,cur,e,hB,(Below.heap_setCell w p u g (by omega)).trans hh,r⟩
def jI (w:World) (B:Nat) (v:Value) (ls:List Ll):Prop:=w.ownsRow B 164 1 v ls.length (ls.map fi)/\∀l∈ls,Ap w v l.A (l.cs.flatMap bT)/\kh B l.A (l.cs.flatMap bT)
theorem jI.nil (w:World) (B:Nat):jI w B (.slice none 0 0) []:=⟨gL _ _ _ _,fun x hx=>by cases hx⟩
theorem jI.below {w w':World} {B:Nat} {v:Value} {ls:List Ll} (h:jI w B v ls) (hb:Below w.heap.size w w'):jI w' B v ls:=⟨eV h.1 hb,fun l hl=>⟨(h.2 l hl).1.below hb,(h.2 l hl).2⟩⟩
theorem jI.base {w:World} {B B':Nat} {v:Value} {ls:List Ll} (h:jI w B v ls) (hB:B'<=B):jI w B' v ls:=⟨nX h.1 hB,fun l hl=>⟨(h.2 l hl).1,(h.2 l hl).2.less hB⟩⟩
theorem jI.bX {w:World} {B:Nat} {v:Value} {ls:List Ll} (h:jI w B v ls) {p:Addr} (hp:p.block<B) (u:Value):jI (w.setCell p u) B v ls:=⟨CZ h.1 hp u,fun l hl=>⟨(h.2 l hl).1.bX (h.2 l hl).2 hp u,(h.2 l hl).2⟩⟩
theorem jI.app {w w':World} {B n c n' c':Nat} {A A':OA} {ls:List Ll} {l:Ll} (h:jI w B (.slice A n c) ls) (hl:Ap w (.slice A n c) l.A (l.cs.flatMap bT)) (hf:kh B l.A (l.cs.flatMap bT))
 (ho:w'.ownsRow B 164 1 (.slice A' n' c') (n+1) (ls.map fi++[fi l])) (ha:App w w' (.slice A n c) (.slice A' n' c')) (hn:ls.length=n):jI w' B (.slice A' n' c') (ls++[l]):=by
 refine ⟨?_,fun x hx => ?_⟩
 .rw [aS,hn,map_append];exact ho
 .rcases mem_append.1 hx with hx | hx
  .exact ⟨(h.2 x hx).1.app ha,(h.2 x hx).2⟩
  .rw [mem_singleton.1 hx];exact ⟨hl.app ha,hf⟩
theorem jI.at_ {w:World} {B n c:Nat} {A:OA} {ls:List Ll} (h:jI w B (.slice A n c) ls):Row w w.heap.size A (ls.map fi)/\∀l∈ls,Row w w.heap.size l.A (l.cs.flatMap bT):=by
 obtain ⟨A',c',e⟩:=iq h.1;injection e with e1 e2 e3
 subst e1 e2 e3;exact ⟨gV h.1,fun x hx=>(h.2 x hx).1.1⟩
def kb (B:Nat) (n:Nd):Prop:=kh B n.A (n.ls.map fi)/\∀l∈n.ls,kh B l.A (l.cs.flatMap bT)
theorem jI.from_ {w:World} {B n c:Nat} {A:OA} {ls:List Ll} (h:jI w B (.slice A n c) ls):kh B A (ls.map fi)/\∀l∈ls,kh B l.A (l.cs.flatMap bT):=by
 obtain ⟨A',c',e⟩:=iq h.1;injection e with e1 e2 e3
 subst e1 e2 e3;exact ⟨kh.own h.1 (ah _),fun x hx=>(h.2 x hx).2⟩
theorem PC (l:List Cl):∀u∈l.flatMap bT,u.oneCell'=true:=by
 intro u hu;obtain ⟨c,_,hc⟩:=mem_flatMap.1 hu;exact M3 c u hc
theorem a7s (a:Addr) (n c:Nat) (vs:LV) (w:World) (hn:n<=1000000) (hv:vs.length=n*12) (hc:∀j u,vs[j]? = some u->w.cell? (a.add j)=some u) (h1:∀u∈vs,u.oneCell'=true) :
 Calls Tryz.prog 129 #[.slice (some a) n c] w (xM 98 12 n vs w):=by
 have q:∀ (w:World) (a:OA) (n c n' c':Nat),(binOp .eql 164 (.slice a n c) (.slice none n' c')).run Tryz.prog w = .ok (.bool a.isNone) w:=fun w a n c n' c'=>Lib.run_eql_slice_nil w _ _ a n c n' c' Tryz.underlying164
 obtain ⟨i0,cG,cI,cH,cJ⟩:=info_parts CU;have Hc:=kp hc;have Hv:=kp hv;have H1:=kp h1;have Hn:=kp hn;have HQ:=kp (show ∀v' w',w'.ownsRow w.heap.size 98 12 v' n vs->Below w.heap.size w w'->xM 98 12 n vs w (.returned v') w' from fun v' w' a b=>⟨v',rfl,a,b⟩);clear hc hv h1 hn;generalize hQ:xM 98 12 n vs w=Q at *;clear hQ;go_enter Tryz.func129,Tryz.ntmps129
 go_wp2_with (at_builtin;refine wpList_append_own _ rfl _ _ 164 rfl w.heap.size 98 i0 _ 12 96 Tryz.underlying164 cG cI cH cJ rfl (by decide) _ _ _ rfl (World.ownsRow_made w #[] 0 (ah _) (aZ _) rfl) a n c vs rfl ?qc1 ?qc2 ?qc3 ?qc4 ?qc5 ?qc6 ?_)
 case qc1=>exact Hv.o
 case qc2 =>
  intro j u hj;exact Lib.cell?_alloc_some _ (Hc.o j u hj)
 case qc3=>exact H1.o
 case qc4=>have:=Hn.o;rw [Nat.zero_add];unfold maxLen;omega
 case qc5=>have:=Hn.o;rw [Nat.zero_add];omega
 case qc6=>simp
 intro v' w1 aE vf FR;have bF:=kp aE;have zo:=kp vf;clear aE vf FR;go_wp2_with fail;exact HQ.o _ _ (by simpa using bF.o) (((aq _ w).alloc (ah _) _).grown zo.o (by simp) (by intro k hk;simp [Value.ownBlock] at hk;omega))
theorem a8j (n c:Nat) (w:World):Calls Tryz.prog 129 #[.slice none n c] w (xM 98 12 0 [] w):=by
 have q:∀ (w:World) (a:OA) (n c n' c':Nat),(binOp .eql 164 (.slice a n c) (.slice none n' c')).run Tryz.prog w = .ok (.bool a.isNone) w:=fun w a n c n' c'=>Lib.run_eql_slice_nil w _ _ a n c n' c' Tryz.underlying164
 go_enter Tryz.func129,Tryz.ntmps129;go_wp2_with fail;go_ret;exact ⟨_,rfl,gL _ _ _ _,aq _ _⟩
theorem a7M (A:OA) (c:Nat) (l:List Cl) (w:World) (hn:l.length<=1000000) (hr:Row w w.heap.size A (l.flatMap bT)) :
 Calls Tryz.prog 129 #[.slice A l.length c] w (xM 98 12 l.length (l.flatMap bT) w):=by
 rcases A with _ | a
 .have h0:l.flatMap bT=[]:=by
   rcases hr with h | ⟨b,off,h,_⟩
   .exact h
   .cases h
  have h1:l.length=0:=by
   have:=kI yM l;rw [h0] at this;simp at this;omega
  rw [h0,h1];exact a8j _ _ _
 .exact a7s a l.length c (l.flatMap bT) w hn (kI yM l) (ZW hr) (PC l)
theorem ab3 {w:World} {B sz n c:Nat} {e:TypeId} {A:OA} {xs:LV} (h:w.ownsRow B e sz (.slice A n c) n xs):n<=c:=by
 rcases h.2 with ⟨h1,h2⟩ | ⟨g,cap,cur,h1,_,_,h2,_⟩
 .injection h1 with h1 h3 h4
  omega
 .injection h1 with h1 h3 h4
  omega
def a9K (p:aI) (w:World) (e:Ending) (w':World):Prop:=∃n:Nd,e = .returned (.agg (bG n))/\az n=p/\dp w' w'.heap.size n/\kb w.heap.size n/\Below w.heap.size w w'/\∀l∈n.ls,l.cs.length<=l.c
abbrev sG (l:Ll):Value := .slice l.A l.cs.length l.c
structure Cz (w:World) (B:Nat) (A:OA) (c:Nat) (ls:List Ll):Prop where
 row:w.ownsRow B 164 1 (.slice A ls.length c) ls.length (ls.map fi)
 own:∀l∈ls,w.ownsRow B 98 12 (sG l) l.cs.length (l.cs.flatMap bT)
 apart:ls.Pairwise fun l l'=>∀b,(sG l).ownBlock=some b->(sG l').ownBlock≠some b
theorem IY {w:World} {B e sz n b:Nat} {v:Value} {xs:LV} (h:w.ownsRow B e sz v n xs) (hb:v.ownBlock=some b):∃cs,w.heap[b]? = some (.cells cs e (0,0)):=by
 rcases h.2 with ⟨h0,_⟩ | ⟨g,cap,cur,h0,_,hh,_⟩
 .rw [h0] at hb;cases hb
 .rw [h0] at hb;injection hb with hb
  exact ⟨cur,by rw [<-hb];exact hh⟩
theorem MA {w:World} {B B' e e' sz sz' n n':Nat} {v v':Value} {xs nM:LV} (h:w.ownsRow B e sz v n xs) (h':w.ownsRow B' e' sz' v' n' nM) (av:e≠e'):v.ownBlock=none\/v.ownBlock≠v'.ownBlock:=by
 cases hv:v.ownBlock with
 | none=>exact .inl rfl
 | some b =>
  refine .inr fun e1=>av ?_
  obtain ⟨c1,h1⟩:=IY h hv;obtain ⟨c2,h2⟩:=IY h' e1.symm;rw [h1] at h2;injection h2 with h2
  injection h2
theorem Cz.nil (w:World) (B:Nat):Cz w B none 0 []:=⟨gL _ _ _ _,fun x hx=>(by cases hx),List.Pairwise.nil⟩
theorem Cz.below {w w':World} {B c:Nat} {A:OA} {ls:List Ll} (h:Cz w B A c ls) (hb:Below w.heap.size w w'):Cz w' B A c ls:=⟨eV h.row hb,fun l hl=>eV (h.own l hl) hb,h.apart⟩
theorem Cz.bX {w:World} {B c:Nat} {A:OA} {ls:List Ll} (h:Cz w B A c ls) {p:Addr} (hp:p.block<B) (u:Value):Cz (w.setCell p u) B A c ls:=⟨CZ h.row hp u,fun l hl=>CZ (h.own l hl) hp u,h.apart⟩
theorem Cz.base {w:World} {B B' c:Nat} {A:OA} {ls:List Ll} (h:Cz w B A c ls) (hB:B'<=B):Cz w B' A c ls:=⟨nX h.row hB,fun l hl=>nX (h.own l hl) hB,h.apart⟩
theorem Cz.app {w0 w w':World} {B c c' B4 n:Nat} {A A':OA} {ls:List Ll} {l:Ll} (h0:Cz w0 B A c ls) (hb:Below w0.heap.size w0 w) (hl:w.ownsRow B4 98 12 (sG l) l.cs.length (l.cs.flatMap bT)) (hB4:w0.heap.size<=B4) (hB:B<=B4) (hn:ls.length=n)
 (ho:w'.ownsRow B 164 1 (.slice A' (n+1) c') (n+1) (ls.map fi++[fi l])) (ha:App w w' (.slice A n c) (.slice A' (n+1) c')):Cz w' B A' c' (ls++[l]):=by
 subst hn;have h:=h0.below hb;have av:98≠164:=by decide
 refine ⟨?_,fun x hx => ?_,pairwise_append.2 ⟨h.apart,pairwise_singleton _ _,fun a hm b RR => ?_⟩⟩
 .rw [aS,map_append];exact ho
 .rcases mem_append.1 hx with hx | hx
  .exact (h.own x hx).kept ha.grown (MA (h.own x hx) h.row av)
  .rw [mem_singleton.1 hx];exact nX (hl.kept ha.grown (MA hl h.row av)) hB
 .rw [mem_singleton.1 RR];intro k hk e;have h1:=((h0.own a hm).lt k hk).2;have h2:=(hl.lt k e).1;omega
def PV (p:aI) (w:World) (e:Ending) (w':World):Prop:=∃n:Nd,e = .returned (.agg (bG n))/\az n=p/\dp w' w'.heap.size n/\kb w.heap.size n/\Below w.heap.size w w'/\(∀l∈n.ls,l.cs.length<=l.c)/\Cz w' w.heap.size n.A n.c n.ls
theorem YU (n:Nd) (w:World) (hr:dp w w.heap.size n) (fw:n.ls.length<=4) (hl:∀l∈n.ls,l.cs.length<=1000000) :
 Calls Tryz.prog 86 #[.agg (bG n)] w (PV (az n) w):=by
 obtain ⟨aj,nA,ls,nc,key,child,ac,s0,n0,x0,s1,n1,x1,s2,n2,x2⟩:=n;obtain ⟨i0,cG,cI,cH,cJ⟩:=info_parts QY;have HC:=kp a7M
 have HQ:=kp (show ∀A c (l':List Ll) w',(l'.map Ll.cs=ls.map Ll.cs/\∀l∈l',l.cs.length<=l.c)->jI w' w.heap.size (.slice A l'.length c) l'->Cz w' w.heap.size A c l'->Below w.heap.size w w'->PV (az ⟨aj,nA,ls,nc,key,child,ac,s0,n0,x0,s1,n1,x1,s2,n2,x2⟩) w (.returned (.agg #[.int .i64 (aj:Nat),.slice A l'.length c,.int .i64 (key:Nat),.int .i64 (child:Nat),.int .i64 ac,.int .i64 s0,.int .i64 n0,.int .i64 x0,.int .i64 s1,.int .i64 n1,.int .i64 x1,.int .i64 s2,.int .i64 n2,.int .i64 x2])) w' from fun A c l' w' h1 h2 hz h3 =>
  ⟨⟨aj,A,l',c,key,child,ac,s0,n0,x0,s1,n1,x1,s2,n2,x2⟩,rfl,by unfold az;dsimp only;rw [h1.1],⟨h2.at_.1,h2.at_.2⟩,h2.from_,h3,h1.2,hz⟩)
 dsimp only at fw hl;have Hl:=kp hl;dsimp only [bG];generalize hQ:PV (az ⟨aj,nA,ls,nc,key,child,ac,s0,n0,x0,s1,n1,x1,s2,n2,x2⟩) w=Q at *;clear hQ hl;obtain ⟨lx,dr⟩:∃lx,ls.length=lx:=⟨_,rfl⟩
 have ml:=kp dr;rw [dr] at fw ⊢;clear dr;have au:=(aq w.heap.size w).alloc (ah _) (.cells #[.int .i64 (aj:Nat),.slice nA lx nc,.int .i64 (key:Nat),.int .i64 (child:Nat),.int .i64 ac,.int .i64 s0,.int .i64 n0,.int .i64 x0,.int .i64 s1,.int .i64 n1,.int .i64 x1,.int .i64 s2,.int .i64 n2,.int .i64 x2] 100);have ye:=aa.new w 100 #[.int .i64 (aj:Nat),.slice nA lx nc,.int .i64 (key:Nat),.int .i64 (child:Nat),.int .i64 ac,.int .i64 s0,.int .i64 n0,.int .i64 x0,.int .i64 s1,.int .i64 n1,.int .i64 x1,.int .i64 s2,.int .i64 n2,.int .i64 x2];have Hr:=kp hr;generalize dj:w.alloc (.cells #[.int .i64 (aj:Nat),.slice nA lx nc,.int .i64 (key:Nat),.int .i64 (child:Nat),.int .i64 ac,.int .i64 s0,.int .i64 n0,.int .i64 x0,.int .i64 s1,.int .i64 n1,.int .i64 x1,.int .i64 s2,.int .i64 n2,.int .i64 x2] 100)=W0 at *;have mY:W0.heap.size=w.heap.size+1:=by rw [<-dj];simp
 have ax:=au.alloc (show w.heap.size<=W0.heap.size by omega) (.cells zN 100);have lD:=aa.lay (w:=W0) (t:=100) (cs:=zN) mY;have O1:=ye.alloc (.cells zN 100);generalize dk:W0.alloc (.cells zN 100)=W1 at *;have gv:W1.heap.size=w.heap.size+1+1:=by rw [<-dk];simp [mY]
 have yj:=kp O1;have Gd:=kp lD;have aM:=kp ax;have dD:=(aa.cw O1).1;have aH:=ax.alloc (show w.heap.size<=W1.heap.size by omega) (.cells #[.int .i64 (aj:Nat),.slice none 0 0,.int .i64 (key:Nat),.int .i64 (child:Nat),.int .i64 ac,.int .i64 s0,.int .i64 n0,.int .i64 x0,.int .i64 s1,.int .i64 n1,.int .i64 x1,.int .i64 s2,.int .i64 n2,.int .i64 x2] 100);have qW:=aa.lay (w:=W1) (t:=100) (cs:=#[.int .i64 (aj:Nat),.slice none 0 0,.int .i64 (key:Nat),.int .i64 (child:Nat),.int .i64 ac,.int .i64 s0,.int .i64 n0,.int .i64 x0,.int .i64 s1,.int .i64 n1,.int .i64 x1,.int .i64 s2,.int .i64 n2,.int .i64 x2]) gv;have a2e:=lD.alloc (.cells #[.int .i64 (aj:Nat),.slice none 0 0,.int .i64 (key:Nat),.int .i64 (child:Nat),.int .i64 ac,.int .i64 s0,.int .i64 n0,.int .i64 x0,.int .i64 s1,.int .i64 n1,.int .i64 x1,.int .i64 s2,.int .i64 n2,.int .i64 x2] 100);have a2f:=O1.alloc (.cells #[.int .i64 (aj:Nat),.slice none 0 0,.int .i64 (key:Nat),.int .i64 (child:Nat),.int .i64 ac,.int .i64 s0,.int .i64 n0,.int .i64 x0,.int .i64 s1,.int .i64 n1,.int .i64 x1,.int .i64 s2,.int .i64 n2,.int .i64 x2] 100);generalize dN:W1.alloc (.cells #[.int .i64 (aj:Nat),.slice none 0 0,.int .i64 (key:Nat),.int .i64 (child:Nat),.int .i64 ac,.int .i64 s0,.int .i64 n0,.int .i64 x0,.int .i64 s1,.int .i64 n1,.int .i64 x1,.int .i64 s2,.int .i64 n2,.int .i64 x2] 100)=W2 at *;have iJ:W2.heap.size=w.heap.size+1+1+1:=by rw [<-dN];simp [gv]
 have me:=kp qW;have jz:=kp a2e;have iW:=kp a2f;have aF:=kp aH;clear au ye hr ax lD O1 yj Gd aM aH qW a2e a2f;go_enter Tryz.func86,Tryz.ntmps86;go_upto_region 2 with fail
 clear dj dk dN mY gv dD;have dD:=(aa.cw iW.o).1;go_wp2_with fail;clear dD
 go_loopw [14] (fun rW wr=>∃ (k:Nat) (xs:List Ll) (A:OA) (c:Nat),k<=lx/\rW = .int .i64 k/\xs.length=k/\(xs.map Ll.cs=(ls.take k).map Ll.cs/\∀l∈xs,l.cs.length<=l.c)/\aa wr (w.heap.size+1) 100 zN/\aa wr (w.heap.size+1+1) 100 #[.int .i64 (aj:Nat),.slice A k c,.int .i64 (key:Nat),.int .i64 (child:Nat),.int .i64 ac,.int .i64 s0,.int .i64 n0,.int .i64 x0,.int .i64 s1,.int .i64 n1,.int .i64 x1,.int .i64 s2,.int .i64 n2,.int .i64 x2]/\jI wr (w.heap.size+1+1+1) (.slice A k c) xs/\Cz wr (w.heap.size+1+1+1) A c xs/\Below w.heap.size w wr) (fun rW _=>lx-(intOf rW).toNat)
 case atStart=>exact ⟨0,[],none,0,aZ _,rfl,rfl,⟨rfl,fun x hx=>(by cases hx)⟩,jz.o,me.o,jI.nil _ _,Cz.nil _ _,aF.o⟩
 case round =>
  obtain ⟨k,xs,A,c,hk,rfl,se,pW,nL,aJ,aE,wP,aC⟩:=hrel;have te:=kp wP;have sf:=kp se;have sZ:=kp pW;have kR:=kp nL;have bO:=kp aJ;have bF:=kp aE;have ai:=kp aC;clear se pW nL aJ aE aC wP;by_cases ae:k<lx
  .have aA:k<ls.length:=by rw [ml.o];exact ae
   have da:=Hr.o.below ai.o;obtain ⟨bl,ol,hA,zl,l0⟩:=Row.at_ da.row (k:=k) (by rw [lM];exact aA);rw [getElem_map] at l0;dsimp only at hA;subst hA;have dR:=Hl.o _ (gM aA);have jC:=kp (fun W (hW:Below wr.heap.size wr W)=>HC.o (ls[k]'aA).A (ls[k]'aA).c (ls[k]'aA).cs W dR ((((da.each _ (gM aA)).more ai.o.size).below hW).more hW.size));have Kg:=kp (show ∀l:Ll,l.cs=(ls[k]'aA).cs->(xs++[l]).map Ll.cs=(ls.take (k+1)).map Ll.cs from fun l hl=>by rw [take_succ_eq_append_getElem aA,map_append,map_append,sZ.o.1,map_cons,map_nil,map_cons,map_nil,hl]);have Kl:=kp (PC (ls[k]'aA).cs);clear da;unfold fi at l0;generalize (ls[k]'aA).A=dA at *;generalize cE:(ls[k]'aA).cs=cs at *;clear cE;obtain ⟨dl,qt⟩:∃dl,cs.length=dl:=⟨_,rfl⟩
   have kQ:=kp qt;rw [qt] at l0 jC;clear qt;generalize (ls[k]'aA).c=dc at *;have dz:(0:Int)<=(k:Int):=by omega
   have df:(k:Int)<(lx:Int):=by omega
   have qe:=kp (show w.heap.size+1+1<wr.heap.size from bO.o.lt);go_upto_region 5 with fail
   clear l0;obtain ⟨⟨_,BO,_⟩,⟨_,SX,_⟩⟩:=aa.cw bO.o;have mr:w.heap.size+1+1<wr.heap.size:=bO.o.lt;refine wp_region_noPanic ?_;refine dt (t:=7) (S:=(fun w'=>w'.cell? ⟨w.heap.size+1+1,1,none⟩=some (.slice A k c)/\w'.frozen? ⟨w.heap.size+1+1,1,none⟩=false)) (by kernel_rfl) ⟨BO,SX⟩ (fun ad => ?_);refine mX 0 1 2 ad ?_;refine oT 3 fun K hK=>?_
   go_simp
   refine (jC.o _ (aq _ _).drew).mono ?_;rintro e w4 ⟨v4,rfl,pq,cq⟩;obtain ⟨A4,c4,rfl⟩:=eM pq;have lE:=kp pq;have bH:=kp (show Below wr.heap.size wr w4 from (aq _ _).drew.trans cq);clear pq cq;refine oK hK ?_ fun af=>?_
   .exact ⟨aL bH.o ad.1,by rw [lU bH.o _ _ mr];exact SX⟩
   replace ad:=af;clear hK K af;have kv:w.heap.size+1+1<w4.heap.size:=dL mr bH.o.size;have cP:=kp (bF.o.below bH.o);have Tf:=kp (show cs.length<=c4 by rw [kQ.o];exact ab3 lE.o);have HN:=kp (Ap.new (v := .slice A k c) lE.o (fun j hj=>(bF.o.1.lt j hj).2));have Tg:=kp (kh.own (B0:=w.heap.size+1+1+1) lE.o mr);have DI:=kp (bO.o.under bH.o);have T3:=kp (kR.o.under bH.o);have kr:=kp (ai.o.trans (bH.o.mono ai.o.size));have lJ:=kp (show w4.ownsRow (w.heap.size+1+1+1) 164 1 (.slice A k c) k (xs.map fi) by have:=cP.o.1;rw [sf.o] at this;exact this);have cz:k<1048576*64:=by omega
   have je:=kp (show ∀j,j<w.heap.size+1+1+1->(Value.slice A k c).ownBlock≠some j from fun j hj hh=>by have:=(lJ.o.lt j hh).1;omega);refine oT 4 fun K hK=>?_
   go_simp
   refine oK hK ?_ fun af=>?_
   .exact ⟨aL ((aq _ _).alloc (ah _) _) ad.1,by rw [lU ((aq _ _).alloc (ah w4.heap.size) _) _ _ kv];exact ad.2⟩
   replace ad:=af;clear hK K af;refine oT 5 fun K hK=>?_
   refine xB rfl (.tmp 19) (.tmp 22) 96 rfl (w.heap.size+1+1+1) 164 i0 (.slice none 0 0) 24 Tryz.underlying96 cG cI cH cJ rfl w4 (.slice A4 dl c4) rfl (.slice A k c) k (xs.map fi) rfl lJ.o rfl cz (by decide) kv ?_;intro v5 w5 aY bV;obtain ⟨A5,c5,h5⟩:=iq aY;subst h5;have gR:=kp aY;have dh:=kp bV;clear aY bV
   go_simp
   refine oK hK ?_ fun af=>?_
   .have e1:=(dh.o.de kv (je.o _ (by omega)))
    have e2:=(Below.heap_alloc w4 (.cells #[.slice A4 dl c4] 164) _ kv)
    exact ⟨(cZ (a:=⟨w.heap.size+1+1,1,none⟩) (e1.trans e2.symm)).trans ad.1,by have h:=ad.2;unfold World.frozen? at h ⊢;rw [e1.trans e2.symm];exact h⟩
   replace ad:=af;clear hK K af;refine tk 6 ad ?_;refine rr (o := ?op7) (by kernel_rfl) ?ap7 (by kernel_rfl) (fun K hK => ?bp7)
   case ap7=>(simp only [getElem?_toArray,getElem?_cons_succ,getElem?_cons_zero];exact rfl)
   obtain ⟨ic,oX⟩:=ad;have ad:=ic
   go_simp
   refine hK.out _ _ ?_;clear hK K ad;refine NoPanic.normal ?_
   try simp only [Act.put,setIfInBounds_toArray,set_cons_zero,set_cons_succ]
   have HF:=kp (jI.app (l:=⟨A4,cs,c4⟩) cP.o HN.o Tg.o (by unfold fi;rw [kQ.o];exact gR.o) dh.o sf.o);have HZ:=kp (Cz.app (l:=⟨A4,cs,c4⟩) te.o bH.o (by unfold sG;dsimp only;rw [kQ.o];exact lE.o) (ah _) (by omega) sf.o (by unfold fi;rw [kQ.o];exact gR.o) dh.o);have av:w.heap.size+1≠w.heap.size+1+1:=by omega
   go_wp2_with fail;refine ⟨⟨k+1,xs++[⟨A4,cs,c4⟩],A5,c5,by omega,by go_num,by rw [aS,sf.o];rfl,⟨Kg.o _ rfl,fun x hx=>(mem_append.1 hx).elim (sZ.o.2 x) (fun e=>by rw [mem_singleton.1 e];exact Tf.o)⟩,?_,?_,?_,?_,?_⟩,by simp [intOf];omega⟩
   .exact (Below.heap_setCell w5 ⟨w.heap.size+1+1,1,none⟩ _ _ av).trans ((dh.o.de (by omega) (je.o _ (by omega))).trans T3.o)
   .exact aa.set (show aa w5 (w.heap.size+1+1) 100 #[.int .i64 (aj:Nat),.slice A k c,.int .i64 (key:Nat),.int .i64 (child:Nat),.int .i64 ac,.int .i64 s0,.int .i64 n0,.int .i64 x0,.int .i64 s1,.int .i64 n1,.int .i64 x1,.int .i64 s2,.int .i64 n2,.int .i64 x2] from (dh.o.de kv (je.o _ (by omega))).trans DI.o) 1 (.slice A5 (k+1) c5)
   .exact HF.o.bX (p:=⟨w.heap.size+1+1,1,none⟩) (by simp) _
   .exact HZ.o.bX (p:=⟨w.heap.size+1+1,1,none⟩) (by simp) _
   .exact (dh.o.below kr.o lJ.o (by omega) (by omega)).setCell (p:=⟨w.heap.size+1+1,1,none⟩) (by simp;omega) _
  .obtain rfl:k=lx:=by omega
   obtain ⟨c0,c1,c2,c3,c4,c5,c6,c7,c8,c9,iw,rb,O2,O3⟩:=(aa.cw bO.o).1;obtain ⟨⟨q0,q1,q2,q3,q4,q5,q6,q7,q8,q9,wQ,wR,wS,wT⟩,fD⟩:=aa.cw kR.o;have HF:=kp (HQ.o A c xs);rw [sf.o] at HF;have rS:=kp (show xs.map Ll.cs=ls.map Ll.cs by have:=sZ.o.1;rw [take_of_length_le (by rw [ml.o];exact ah _)] at this;exact this);obtain ⟨Wf,bW⟩:∃Wf,aK wr (w.heap.size+1) 0 [.int .i64 (aj:Nat),.slice A k c,.int .i64 (key:Nat),.int .i64 (child:Nat),.int .i64 ac,.int .i64 s0,.int .i64 n0,.int .i64 x0,.int .i64 s1,.int .i64 n1,.int .i64 x1,.int .i64 s2,.int .i64 n2,.int .i64 x2]=Wf:=⟨_,rfl⟩
   have wM:=kp (show jI Wf w.heap.size (.slice A k c) xs by
    rw [<-bW]
    exact ((((((((((((((bF.o.bX (p:=⟨w.heap.size+1,0,none⟩) (by simp<;>omega) _).bX (p:=⟨w.heap.size+1,1,none⟩) (by simp<;>omega) _).bX (p:=⟨w.heap.size+1,2,none⟩) (by simp<;>omega) _).bX (p:=⟨w.heap.size+1,3,none⟩) (by simp<;>omega) _).bX (p:=⟨w.heap.size+1,4,none⟩) (by simp<;>omega) _).bX (p:=⟨w.heap.size+1,5,none⟩) (by simp<;>omega) _).bX (p:=⟨w.heap.size+1,6,none⟩) (by simp<;>omega) _).bX (p:=⟨w.heap.size+1,7,none⟩) (by simp<;>omega) _).bX (p:=⟨w.heap.size+1,8,none⟩) (by simp<;>omega) _).bX (p:=⟨w.heap.size+1,9,none⟩) (by simp<;>omega) _).bX (p:=⟨w.heap.size+1,10,none⟩) (by simp<;>omega) _).bX (p:=⟨w.heap.size+1,11,none⟩) (by simp<;>omega) _).bX (p:=⟨w.heap.size+1,12,none⟩) (by simp<;>omega) _).bX (p:=⟨w.heap.size+1,13,none⟩) (by simp<;>omega) _).base (by omega))
   have Km:=kp (show Cz Wf w.heap.size A c xs by
    rw [<-bW]
    exact ((((((((((((((te.o.bX (p:=⟨w.heap.size+1,0,none⟩) (by simp<;>omega) _).bX (p:=⟨w.heap.size+1,1,none⟩) (by simp<;>omega) _).bX (p:=⟨w.heap.size+1,2,none⟩) (by simp<;>omega) _).bX (p:=⟨w.heap.size+1,3,none⟩) (by simp<;>omega) _).bX (p:=⟨w.heap.size+1,4,none⟩) (by simp<;>omega) _).bX (p:=⟨w.heap.size+1,5,none⟩) (by simp<;>omega) _).bX (p:=⟨w.heap.size+1,6,none⟩) (by simp<;>omega) _).bX (p:=⟨w.heap.size+1,7,none⟩) (by simp<;>omega) _).bX (p:=⟨w.heap.size+1,8,none⟩) (by simp<;>omega) _).bX (p:=⟨w.heap.size+1,9,none⟩) (by simp<;>omega) _).bX (p:=⟨w.heap.size+1,10,none⟩) (by simp<;>omega) _).bX (p:=⟨w.heap.size+1,11,none⟩) (by simp<;>omega) _).bX (p:=⟨w.heap.size+1,12,none⟩) (by simp<;>omega) _).bX (p:=⟨w.heap.size+1,13,none⟩) (by simp<;>omega) _).base (by omega))
   have qx:=kp (show Below w.heap.size w Wf by rw [<-bW];exact eU (by omega) _ _ _ ai.o);have dW:=kp (show aa Wf (w.heap.size+1) 100 #[.int .i64 (aj:Nat),.slice A k c,.int .i64 (key:Nat),.int .i64 (child:Nat),.int .i64 ac,.int .i64 s0,.int .i64 n0,.int .i64 x0,.int .i64 s1,.int .i64 n1,.int .i64 x1,.int .i64 s2,.int .i64 n2,.int .i64 x2] by rw [<-bW];exact eO kR.o _ rfl);simp only [aK,Nat.zero_add,Nat.reduceAdd] at bW;go_wp2_with fail;clear q0 q1 q2 q3 q4 q5 q6 q7 q8 q9 wQ wR wS wT;obtain ⟨q0,q1,q2,q3,q4,q5,q6,q7,q8,q9,wQ,wR,wS,wT⟩:=(aa.cw dW.o).1;refine bodyPost_ret (v := .agg #[.int .i64 (aj:Nat),.slice A k c,.int .i64 (key:Nat),.int .i64 (child:Nat),.int .i64 ac,.int .i64 s0,.int .i64 n0,.int .i64 x0,.int .i64 s1,.int .i64 n1,.int .i64 x1,.int .i64 s2,.int .i64 n2,.int .i64 x2]) (by simp [results,Tryz.results86,go_sem,q0,q1,q2,q3,q4,q5,q6,q7,q8,q9,wQ,wR,wS,wT]) rfl (HF.o _ ⟨rS.o,sZ.o.2⟩ wM.o Km.o qx.o)
theorem Q6 (n:Nd) (w:World) (hr:dp w w.heap.size n) (fw:n.ls.length<=4) (hl:∀l∈n.ls,l.cs.length<=1000000) :
 Calls Tryz.prog 86 #[.agg (bG n)] w (a9K (az n) w):=by
 refine (YU n w hr fw hl).mono ?_;rintro e w' ⟨n',h1,h2,h3,h4,h5,h6,_⟩;exact ⟨n',h1,h2,h3,h4,h5,h6⟩
end Go.Proofs.YtjopcamkclndlaaGreat.Tc
