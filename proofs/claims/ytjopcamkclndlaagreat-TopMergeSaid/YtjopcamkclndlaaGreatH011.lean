/- Parts of a proof. -/
import Derived.Test.YtjopcamkclndlaaGreatH010
set_option linter.unusedVariables false
set_option linter.unusedSimpArgs false
set_option maxRecDepth 100000
set_option maxHeartbeats 8000000
namespace Go.Proofs.YtjopcamkclndlaaGreat.Tc
open List Go.RowKit Base
theorem a0p (A:OA) (c:Nat) (l:LN) (w:World) (hn:l.length<=1000000) (hr:Row w w.heap.size A (aP l)) (av:∀x∈l,x≠0) :
 Calls Tryz.prog 82 #[.slice A l.length c,.int .i64 0] w fun e w'=>e = .returned (.int .i64 (-1))/\w'=w:=by
 have HA:=kp hr;have nz:=kp av;clear hr av;obtain ⟨n,hN⟩:∃n,l.length=n:=⟨_,rfl⟩
 rw [hN] at hn ⊢;have Hn:=kp hN;clear hN;go_enter Tryz.func82,Tryz.ntmps82;go_wp2_with fail
 go_loop [8] (fun i=>∃k:Nat,k<=n/\i = .int .i64 k) (fun i=>n-(intOf i).toNat)
 case atStart=>exact ⟨0,aZ _,rfl⟩
 case round =>
  obtain ⟨k,hk,rfl⟩:=hrel;by_cases xZ:k<n
  .have aA:k<l.length:=by rw [Hn.o];exact xZ
   obtain ⟨bA,oA,hA,eQ,c0⟩:=Row.at_ HA.o (k:=k) (by rw [ke];exact aA);unfold aP at c0;rw [getElem_map] at c0;have hx:=nz.o _ (gM aA);generalize (l[k]'aA)=x at *;have q:((0:Int) == (x:Int))=false:=by simp;omega
   have dz:(0:Int)<=(k:Int):=by omega
   have df:(k:Int)<(n:Int):=by omega
   rw [hA];clear hx;go_wp2_with fail
   go_round
   case rel=>exact ⟨k+1,by omega,by go_num⟩
   case measure=>simp [intOf];omega
  .obtain rfl:k=n:=by omega
   go_wp2_with fail;go_ret;exact ⟨rfl,rfl⟩
structure EZ (nx:Nat) (P:List aI):Prop where
 back:∀ (i:Nat) (n:aI),P[i]? = some n->n.aj+1<nx->∀c∈di n,c.child<i
 top:∀n:aI,P[P.length-1]? = some n->n.aj=0
 uJ:∀j:Nat,j+1<P.length->∃ (i:Nat) (n:aI) (c:Cl),P[i]? = some n/\n.aj+1<nx/\c∈di n/\c.child=j
 aj:∀n∈P,n.aj<nx
structure lT (nx k j:Nat) (P:List aI) (M:LN):Prop where
 len:M.length=P.length
 le:∀x∈M,x<=k*4001+j
 uJ:∀ (i:Nat) (n:aI),i<k->P[i]? = some n->n.aj+1<nx->∀c∈di n,∃x,M[c.child]? = some x/\x≠0
 cur:∀n:aI,P[k]? = some n->∀ (i:Nat) (c:Cl),i<j->(di n)[i]? = some c->∃x,M[c.child]? = some x/\x≠0
section
variable {nx k j:Nat} {P:List aI} {M:LN}
theorem lT.zero (nx:Nat) (P:List aI):lT nx 0 0 P (replicate P.length 0):=⟨by simp,fun x hx=>by rw [eq_of_mem_replicate hx];exact aZ _,fun i n h=>by omega,fun n _ i c h=>by omega⟩
theorem lT.step (h:lT nx k j P M) {n:aI} (hn:P[k]? = some n) {c:Cl} (hc:(di n)[j]? = some c) {x:Nat} (hx:M[c.child]? = some x):lT nx k (j+1) P (M.set c.child (x+1)):=by
 have ae:=(bS hx).1;have KB:∀i y,M[i]? = some y->y≠0->∃z,(M.set c.child (x+1))[i]? = some z/\z≠0:=fun i y hy h0=>by
  by_cases e:c.child=i
  .subst e;exact ⟨x+1,by rw [getElem?_set_self ae],by omega⟩
  .exact ⟨y,by rw [getElem?_set_ne e];exact hy,h0⟩
 refine ⟨by rw [length_set];exact h.len,fun y hy => ?_,fun i m hi hm hd d o8 => ?_,fun m hm i d hi hd => ?_⟩
 .rcases mem_or_eq_of_mem_set hy with hy | rfl
  .have:=h.le y hy;omega
  .have:=h.le x (mem_of_getElem? hx);omega
 .obtain ⟨y,hy,h0⟩:=h.uJ i m hi hm hd d o8;exact KB _ _ hy h0
 .by_cases hij:i<j
  .obtain ⟨y,hy,h0⟩:=h.cur m hm i d hij hd;exact KB _ _ hy h0
  .obtain rfl:i=j:=by omega
   rw [hn] at hm;injection hm with hm
   subst hm;rw [hc] at hd;injection hd with hd
   subst hd;exact ⟨x+1,by rw [getElem?_set_self ae],by omega⟩
theorem lT.next (h:lT nx k j P M) {n:aI} (hn:P[k]? = some n) (hj:(di n).length=j) (SQ:j<=4001):lT nx (k+1) 0 P M:=by
 refine ⟨h.len,fun x hx=>(by rw [Nat.succ_mul];exact aT (h.le x hx) (Nat.add_le_add_left SQ _)),fun i m hi hm hd c hc => ?_,fun m _ i c hi=>absurd hi (Nat.not_lt_zero _)⟩;by_cases oR:i<k
 .exact h.uJ i m oR hm hd c hc
 .obtain rfl:i=k:=by omega
  rw [hn] at hm;injection hm with hm
  subst hm;obtain ⟨q,hq,rfl⟩:=getElem_of_mem hc;exact h.cur n hn q _ (by omega) (gE hq)
theorem lT.skip (h:lT nx k 0 P M) {n:aI} (hn:P[k]? = some n) (hd:¬n.aj+1<nx):lT nx (k+1) 0 P M:=by
 refine ⟨h.len,fun x hx=>(by have h1:=h.le x hx;rw [Nat.succ_mul,Nat.add_zero];rw [Nat.add_zero] at h1;exact aT h1 (Nat.le_add_right _ _)),fun i m hi hm o8 c hc => ?_,fun m _ i c hi=>absurd hi (Nat.not_lt_zero _)⟩;by_cases oR:i<k
 .exact h.uJ i m oR hm o8 c hc
 .obtain rfl:i=k:=by omega
  rw [hn] at hm;injection hm with hm
  subst hm;exact absurd o8 hd
theorem lT.done (hw:EZ nx P) (h:lT nx P.length 0 P M):∀x∈M.take (P.length-1),x≠0:=by
 intro x hx;obtain ⟨i,hi,rfl⟩:=getElem_of_mem hx;rw [length_take] at hi;obtain ⟨q,n,c,h1,h2,h3,h4⟩:=hw.uJ i (by omega);obtain ⟨y,hy,h0⟩:=h.uJ q n (bS h1).1 h1 h2 c h3;rw [h4] at hy;rw [getElem_take];obtain ⟨h5,h6⟩:=bS hy;rw [h6];exact h0
end
theorem abF {w:World} {B:Nat} {e:TypeId} {g n c:Nat} {xs:LV} (h:w.ownsRow B e 1 (.slice (some ⟨g,0,none⟩) n c) n xs) {i:Nat} {v:Value} (hv:xs[i]? = some v):w.cell? ⟨g,i,none⟩=some v/\w.frozen? ⟨g,i,none⟩=false:=by
 rcases h.2 with ⟨h2,_⟩ | ⟨g',cap,cur,zj,hB,hh,j7,fj,cE,ht⟩
 .cases h2
 .injection zj with hA _ hc
  injection hA with hA
  injection hA with hg _ _
  subst hg;have hb:aa w g e cur:=hh;refine ⟨?_,hb.free i⟩;rw [hb.cell i];rw [<-ht,getElem?_take] at hv;split at hv
  .simpa using hv
  .cases hv
theorem a9B (l:LN) (i x:Nat):(aP l).set i (.int .i64 (x:Nat))=aP (l.set i x):=by unfold aP;rw [map_set]
theorem Zq (ga:Nat) (As An:OA) (nx cs m cn most:Nat) (nds:List Nd) (w:World) (aJ:aa w ga 160 (im As nx cs m An nds.length cn most)) (h:jH w w.heap.size An nds)
 (ej:1<=nx) (mw:nx<=16) (eE:nds.length<=1000000) (gH:∀n∈nds,za n) (hl:∀n∈nds,∀l∈n.ls,l.cs.length<=1000) (hw:EZ nx (nds.map az)) :
 Calls Tryz.prog 34 #[.pointer (some ⟨ga,0,none⟩)] w fun e w'=>e = .returned (.bool true)/\Below w.heap.size w w':=by
 obtain ⟨i0,cG,cI,cH,cJ⟩:=info_parts vV;have HT:=kp (Fy ga As An nx cs m nds.length cn most w aJ ej);have a3d:=kp (fun W (hW:Below w.heap.size w W)=>MM ga As An nx cs m nds.length cn most W (aJ.under hW) ej eE);have HL:=kp (fun W aj (hd:aj<nx)=>AR As nx cs m aj W ej (by omega) (by omega));have HE:=kp (fun n (hn:n∈nds) W (hW:Below w.heap.size w W)=>J3 n W (((h.each n hn).below hW).more hW.size) (gH n hn).n4 (hl n hn));have HI:=kp a0p
 have Hc4:=kp (show ∀n∈nds,(di (az n)).length<=4001 from fun n hn=>by
  have h1:=count_le (fun l ja=>hl n hn l ja) n.ls.length;rw [take_of_length_le (ah _)] at h1;have h2:n.ls.length*1000<=4*1000:=Nat.mul_le_mul_right _ (gH n hn).n4;have h3:(di (az n)).length=(n.ls.map fun l=>l.cs.length).sum+1:=by
   unfold di az;rw [aS,length_flatten,map_map];rfl
  omega)
 have Hw:=kp hw;have Hh:=kp h;have bO:=kp aJ;obtain ⟨⟨a0,a1,a2,a3⟩,_⟩:=aa.four aJ;have pw:ga<w.heap.size:=aJ.lt;obtain ⟨n,hn⟩:∃n,nds.length=n:=⟨_,rfl⟩
 have Hn:=kp hn;rw [hn] at a3d bO eE a2;have GO:=kp (show (nds.map az).length=n by rw [lM];exact hn);clear hn aJ h gH hl hw;go_enter Tryz.func34,Tryz.ntmps34;go_wp2_with fail;refine HT.o.mono ?_;rintro e w1 ⟨rfl,rfl⟩;by_cases h0:n=0
 .have q0:((n:Int) == 0)=true:=by rw [h0];rfl
  go_wp2_with fail;go_ret;exact ⟨rfl,aq _ _⟩
 .have q0:((n:Int) == 0)=false:=by simp;omega
  go_wp2_with (at_make;refine wpList_make_full _ rfl _ _ 27 rfl w.heap.size 3 i0 (.int .i64 0) 1 Tryz.underlying27 cG cI cH .i64 .i64 (n:Int) (n:Int) n rfl rfl rfl rfl (by rw [cJ];omega) (by unfold maxLen;omega) (ah _) ?_;intro w2 gz a3e;have fK:=kp gz;have aF:=kp (show Below w.heap.size w w2 from (aq _ _).grown a3e (ah _) (fun k hk=>by cases hk));clear gz a3e a0 a1 a2 a3;obtain ⟨⟨a0,a1,a2,a3⟩,_⟩:=aa.four (bO.o.under aF.o))
  have hM0:=kp (show w2.ownsRow w.heap.size 3 1 (.slice (some ⟨w.heap.size,0,none⟩) n n) n (aP (replicate n 0)) by
   have h1:=fK.o;rw [Nat.mul_one,show (Value.int .i64 0).cells=#[.int .i64 0] from rfl,toList_madeCells_one] at h1;have e:aP (replicate n 0)=replicate n (.int .i64 0):=by unfold aP;rw [map_replicate];rfl
   rw [e]
   exact h1)
  have j':=(hM0.out.lt w.heap.size rfl).2;have Hg2:=kp j';clear j' fK a0 a1 a2 a3 HT
  go_loopw [28] (fun wq wr=>∃ (k:Nat) (M:LN),k<=n/\wq = .int .i64 (k:Nat)/\wr.ownsRow w.heap.size 3 1 (.slice (some ⟨w.heap.size,0,none⟩) n n) n (aP M)/\lT nx k 0 (nds.map az) M/\Below w.heap.size w wr) (fun wq _=>n-(intOf wq).toNat)
  case atStart=>exact ⟨0,replicate n 0,aZ _,rfl,hM0.out,by have:=lT.zero nx (nds.map az);rw [GO.o] at this;exact this,aF.o⟩
  case round =>
   obtain ⟨k,M,hk,rfl,aE,KQ,aC⟩:=hrel;have bF:=kp aE;have OE:=kp KQ;have ai:=kp aC;clear aE KQ aC;obtain ⟨⟨a0,a1,a2,a3⟩,_⟩:=aa.four (bO.o.under ai.o);by_cases ae:k<n
   .have bE:k<nds.length:=by rw [Hn.o];exact ae
    have br:=(Hh.o.below ai.o).more ai.o.size;obtain ⟨bn,on,hA,ov,d0,d1,d2,d3,d4,d5,d6,d7,d8,d9,dB,dC,gB,iF⟩:=yL br.row k bE;have mu:=gM bE;have Kx:=kp (HE.o _ mu);have hdk:=Hw.o.aj (az (nds[k]'bE)) (mem_map_of_mem mu);have Uu:(nds.map az)[k]? = some (az (nds[k]'bE)):=by rw [getElem?_map,gE bE];rfl
    have pf:=kp Uu;have Hc:=kp (Hc4.o _ mu);have Dr:=kp (Hw.o.back k _ Uu);have ti:=kp (show (nds[k]'bE).ls.flatMap Ll.cs++[(nds[k]'bE).all]=di (az (nds[k]'bE)) by unfold di az;simp [flatMap_def]);have GP:=kp (show (az (nds[k]'bE)).aj=(nds[k]'bE).aj from rfl);have a3f:(nds[k]'bE).aj<nx:=hdk;clear hdk Uu br mu;generalize (nds[k]'bE)=nd at *;have aN:=(aq wr.heap.size wr).alloc (ah _) (.cells zN 100);have HZ:=kp (aa.new wr 100 zN);have bH:=kp (eU (ah _) (dJ nd) _ 0 aN);have fN:=kp (show aa (aK (wr.alloc (.cells zN 100)) wr.heap.size 0 (dJ nd)) wr.heap.size 100 (bG nd) from eO HZ.o (dJ nd) rfl);obtain ⟨⟨r0,r1,r2,r3,r4,r5,r6,r7,r8,r9,kB,kC,uv,uw⟩,⟨f0,f1,f2,f3,f4,f5,f6,f7,f8,f9,mz,mA,qy,qz⟩⟩:=aa.cw HZ.o;have dz:(0:Int)<=(k:Int):=by omega
    have df:(k:Int)<(n:Int):=by omega
    generalize az nd=pn at *;clear aN HZ;obtain ⟨aj,nA,ls,nc,⟨key,child,⟨ac,s0,n0,x0,s1,n1,x1,s2,n2,x2⟩⟩⟩:=nd;dsimp only [bG,dJ] at Kx fN bH ti GP a3f d0 d1 d2 d3 d4 d5 d6 d7 d8 d9 dB dC gB iF;generalize dH:wr.alloc (.cells zN 100)=W3 at *;generalize qB:aK W3 wr.heap.size 0 _=W4 at *;simp only [aK,Nat.zero_add,Nat.reduceAdd] at qB;rw [hA];go_upto_region 9 with fail
    clear dH qB d0 d1 d2 d3 d4 d5 d6 d7 d8 d9 dB dC gB iF r0 r1 r2 r3 r4 r5 r6 r7 r8 r9 kB kC uv uw f0 f1 f2 f3 f4 f5 f6 f7 f8 f9 mz mA qy qz a0 a1 a2 a3;have hwr:=ai.o.size;have yk:=kp (ai.o.trans (bH.o.mono ai.o.size));have iH:=kp (bO.o.under yk.o);obtain ⟨⟨a0,a1,a2,a3⟩,_⟩:=aa.four iH.o;obtain ⟨z0,z1,z2,z3,z4,z5,z6,z7,z8,z9,iX,iY,rh,ri⟩:=(aa.cw fN.o).1;have uo:=kp (HL.o W4.drew aj a3f);by_cases hd:aj+1=nx
    .have qd:decide (aj+1=nx)=true:=decide_eq_true hd;rw [qd] at uo;refine wp_region_noPanic ?_;refine dt (t:=99) (S:=(fun w'=>w'.cell? ⟨ga,0,none⟩=some (.slice As nx cs)/\w'.cell? ⟨ga,1,none⟩=some (.int .i64 (m:Nat))/\w'.cell? ⟨wr.heap.size,0,none⟩=some (.int .i64 (aj:Nat)))) (by kernel_rfl) ⟨a0,a1,z0⟩ (fun ad => ?_);refine tD 0 1 2 3 ad ?_;refine tB 4 5 ad ?_;refine oT 6 fun K hK=>?_
     go_simp
     refine uo.o.mono ?_;rintro e wc ⟨rfl,cU⟩;have bh:=kp (show Below W4.heap.size W4 wc from (aq _ _).drew.trans cU);clear cU;refine oK hK ?_ fun af=>?_
     .exact ⟨aL bh.o a0,aL bh.o a1,aL bh.o z0⟩
     replace ad:=af;clear hK K af;refine dY (by kernel_rfl) ?_ _
     try clear ad
     refine NoPanic.normal ?_;have bZ:=kp (yk.o.trans (bh.o.mono yk.o.size));have cP:=kp (eV (eV bF.o bH.o) bh.o);have adn:=kp (lT.skip OE.o pf.o (by rw [GP.o];omega));clear a0 a1 a2 a3 z0 z1 z2 z3 z4 z5 z6 z7 z8 z9 iX iY rh ri;go_wp2_with fail;exact ⟨⟨k+1,M,by omega,by go_num,cP.o,adn.o,bZ.o⟩,by simp [intOf];omega⟩
    .have qd:decide (aj+1=nx)=false:=decide_eq_false hd;rw [qd] at uo;refine wp_region_noPanic ?_;refine dt (t:=99) (S:=(fun w'=>w'.cell? ⟨ga,0,none⟩=some (.slice As nx cs)/\w'.cell? ⟨ga,1,none⟩=some (.int .i64 (m:Nat))/\w'.cell? ⟨wr.heap.size,0,none⟩=some (.int .i64 (aj:Nat)))) (by kernel_rfl) ⟨a0,a1,z0⟩ (fun ad => ?_);refine tD 0 1 2 3 ad ?_;refine tB 4 5 ad ?_;refine oT 6 fun K hK=>?_
     go_simp
     refine uo.o.mono ?_;rintro e wc ⟨rfl,cU⟩;have bh:=kp (show Below W4.heap.size W4 wc from (aq _ _).drew.trans cU);clear cU;refine oK hK ?_ fun af=>?_
     .exact ⟨aL bh.o a0,aL bh.o a1,aL bh.o z0⟩
     replace ad:=af;clear hK K af;refine dY (by kernel_rfl) ?_ _
     try clear ad
     refine NoPanic.normal ?_;have bZ:=kp (yk.o.trans (bh.o.mono yk.o.size));have cP:=kp (eV (eV bF.o bH.o) bh.o);have eg:=kp (fN.o.under bh.o);clear a0 a1 a2 a3 z0 z1 z2 z3 z4 z5 z6 z7 z8 z9 iX iY rh ri;obtain ⟨z0,z1,z2,z3,z4,z5,z6,z7,z8,z9,iX,iY,rh,ri⟩:=(aa.cw eg.o).1;have HE5:=kp (Kx.o wc bZ.o);have a3g:w.heap.size+1<=wc.heap.size:=by have:=(cP.o.lt w.heap.size rfl).2;omega
     go_wp2_with fail;refine HE5.o.mono ?_;rintro e w6 ⟨v6,rfl,cE,eR⟩;obtain ⟨A6,c6,rfl⟩:=eM cE;rw [ti.o] at cE;have Oh:=kp (nX cE a3g);have iS:(ls.flatMap Ll.cs++[(⟨key,child,⟨ac,s0,n0,x0,s1,n1,x1,s2,n2,x2⟩⟩:Cl)]).length=(di pn).length:=congrArg length ti.o;rw [iS];have gR:=kp (eV cP.o eR);have eI:=aR bZ eR;have ado:=kp (Dr.o (by rw [GP.o];omega));clear cE eR iS z0 z1 z2 z3 z4 z5 z6 z7 z8 z9 iX iY rh ri eg Kx HE5 a3g;obtain ⟨q,hq⟩:∃q,(di pn).length=q:=⟨_,rfl⟩
     have Hq:=kp hq;rw [hq] at Oh ⊢;have hq6:q<=4001:=by rw [<-hq];exact Hc.o
     clear hq;go_wp2_with fail
     go_loopw [42] (fun Uv wj=>∃ (j:Nat) (M':LN),j<=q/\Uv = .int .i64 (j:Nat)/\wj.ownsRow w.heap.size 3 1 (.slice (some ⟨w.heap.size,0,none⟩) n n) n (aP M')/\lT nx k j (nds.map az) M'/\Over (w.heap.size+1) w6 wj/\Below w.heap.size w wj) (fun Uv _=>q-(intOf Uv).toNat)
     case atStart=>exact ⟨0,M,aZ _,rfl,gR.o,OE.o,⟨ah _,fun _ _ _=>rfl⟩,eI.o⟩
     case round =>
      obtain ⟨j,M',hj,rfl,a3h,a3i,a3j,K9⟩:=hrel;have a3k:=kp a3h;have OF:=kp a3i;have a3l:=kp a3j;have Uw:=kp K9;clear a3h a3i a3j K9;by_cases lu:j<q
      .have fO:j<(di pn).length:=by rw [Hq.o];exact lu
       obtain ⟨bc,oc,zX,cU,e0,e1,e2,e3,e4,e5,e6,e7,e8,e9,Eb,Ec⟩:=rO (gV (Zp Oh.o a3l.o)) j fO;have uu:=ado.o _ (gM fO);have Hcj:=kp (show (di pn)[j]? = some ((di pn)[j]'fO) from gE fO);generalize ((di pn)[j]'fO)=cc at *;obtain ⟨ck,kD,⟨ca,zY,zZ,Ab,Ad,Ae,Ah,Ai,Aj,Aq⟩⟩:=cc;dsimp only at e0 e1 e2 e3 e4 e5 e6 e7 e8 e9 Eb Ec uu;have hlM:M'.length=n:=OF.o.len.trans GO.o;obtain ⟨x,hx⟩:∃x,M'[kD]? = some x:=⟨_,gE (by rw [hlM];omega)⟩
       have hxb:x<=1000000*4001+4001:=by
        have h1:=OF.o.le x (mem_of_getElem? hx);have h2:k*4001<=1000000*4001:=Nat.mul_le_mul_right _ (by omega);omega
       have en:=kp (lT.step OF.o pf.o Hcj.o hx);have Ux:(aP M')[kD]? = some (.int .i64 (x:Nat)):=by unfold aP;rw [getElem?_map,hx];rfl
       have se:kD<(aP M').length:=(bS Ux).1;have sj:=(aq wr.heap.size wr).alloc (ah _) (.cells zC 98);have xg:=kp (aa.new wr 98 zC);have pI:=kp (eU (ah _) [.int .i64 (ck:Nat),.int .i64 (kD:Nat),.int .i64 ca,.int .i64 zY,.int .i64 zZ,.int .i64 Ab,.int .i64 Ad,.int .i64 Ae,.int .i64 Ah,.int .i64 Ai,.int .i64 Aj,.int .i64 Aq] _ 0 sj);have iN:=kp (show aa (aK (wr.alloc (.cells zC 98)) wr.heap.size 0 [.int .i64 (ck:Nat),.int .i64 (kD:Nat),.int .i64 ca,.int .i64 zY,.int .i64 zZ,.int .i64 Ab,.int .i64 Ad,.int .i64 Ae,.int .i64 Ah,.int .i64 Ai,.int .i64 Aj,.int .i64 Aq]) wr.heap.size 98 #[.int .i64 (ck:Nat),.int .i64 (kD:Nat),.int .i64 ca,.int .i64 zY,.int .i64 zZ,.int .i64 Ab,.int .i64 Ad,.int .i64 Ae,.int .i64 Ah,.int .i64 Ai,.int .i64 Aj,.int .i64 Aq] from eO xg.o [.int .i64 (ck:Nat),.int .i64 (kD:Nat),.int .i64 ca,.int .i64 zY,.int .i64 zZ,.int .i64 Ab,.int .i64 Ad,.int .i64 Ae,.int .i64 Ah,.int .i64 Ai,.int .i64 Aj,.int .i64 Aq] rfl);obtain ⟨⟨r0,r1,r2,r3,r4,r5,r6,r7,r8,r9,kB,kC⟩,⟨f0,f1,f2,f3,f4,f5,f6,f7,f8,f9,mz,mA⟩⟩:=aa.fQ xg.o;generalize nO:wr.alloc (.cells zC 98)=W8 at *;generalize yv:aK W8 wr.heap.size 0 _=W9 at *;simp only [aK,Nat.zero_add,Nat.reduceAdd] at yv;have fe:W9.cell? ⟨wr.heap.size,1,none⟩=some (.int .i64 (kD:Nat)):=iN.o.cell 1;have BQ:=kp (eV a3k.o pI.o);obtain ⟨m0,m1⟩:=abF BQ.o Ux;have j0:(0:Int)<=(j:Int):=by omega
       have j1:(j:Int)<(q:Int):=by omega
       have j2:(0:Int)<=(kD:Int):=by omega
       have j3:(kD:Int)<(n:Int):=by omega
       have Kv:IntKind.i64.wrap ((x:Int)+1)=(x:Int)+1:=IntWalk.i64_in _ (by omega);have adp:=kp (show Over (w.heap.size+1) w6 (W9.setCell ⟨w.heap.size,kD,none⟩ (.int .i64 ((x:Int)+1))) from (a3l.o.trans (Over.under pI.o)).trans ⟨by simp,fun i hi _=>Below.heap_setCell W9 ⟨w.heap.size,kD,none⟩ _ i (by dsimp only;omega)⟩);have adq:=kp (show Below w.heap.size w (W9.setCell ⟨w.heap.size,kD,none⟩ (.int .i64 ((x:Int)+1))) from (Uw.o.trans (pI.o.mono Uw.o.size)).setCell (p:=⟨w.heap.size,kD,none⟩) (ah _) _)
       have Uy:=kp (show (W9.setCell ⟨w.heap.size,kD,none⟩ (.int .i64 ((x:Int)+1))).ownsRow w.heap.size 3 1 (.slice (some ⟨w.heap.size,0,none⟩) n n) n (aP (M'.set kD (x+1))) by
        have:=gX BQ.o se (.int .i64 ((x+1:Nat):Int));rw [a9B] at this
        exact this)
       clear hx Ux se hlM hxb sj xg iN;rw [zX];go_wp2_with fail;exact ⟨⟨j+1,M'.set kD (x+1),by omega,by go_num,Uy.o,en.o,adp.o,adq.o⟩,by simp [intOf];omega⟩
      .obtain rfl:j=q:=by omega
       have HcN:=kp (lT.next OF.o pf.o Hq.o hq6);go_wp2_with fail;exact ⟨⟨k+1,M',by omega,by go_num,a3k.o,HcN.o,Uw.o⟩,by simp [intOf];omega⟩
   .obtain rfl:k=n:=by omega
    obtain ⟨mm,rQ⟩:∃mm,k=mm+1:=⟨k-1,by omega⟩
    have bE:mm<nds.length:=by rw [Hn.o];omega
    have br:=(Hh.o.below ai.o).more ai.o.size;obtain ⟨bn,on,hA,ov,d0,Uz⟩:=yL br.row mm bE;have eH:(nds[mm]'bE).aj=0:=Hw.o.top (az (nds[mm]'bE)) (by rw [GO.o,rQ,Nat.add_sub_cancel,getElem?_map,gE bE];rfl);rw [eH] at d0;have OG:wr.cell? ⟨bn,on+mm*14,none⟩=some (.int .i64 0):=d0;have rX:lT nx (nds.map az).length 0 (nds.map az) M:=by rw [GO.o];exact OE.o
    have UA:=lT.done Hw.o rX;rw [GO.o,rQ,Nat.add_sub_cancel] at UA;have Aw:(M.take mm).length=mm:=by rw [length_take,OE.o.len,GO.o];omega
    have Nc:=kp (show ∀W,Below wr.heap.size wr W->Calls Tryz.prog 82 #[.slice (some ⟨w.heap.size,0,none⟩) mm k,.int .i64 0] W fun e w'=>e = .returned (.int .i64 (-1))/\w'=W from fun W hW=>by
     have h1:=a0p (some ⟨w.heap.size,0,none⟩) k (M.take mm) W (by omega) (by
      have h2:=(gV (eV bF.o hW)).take mm;unfold aP at *;rw [List.map_take]
      exact h2) UA
     rw [Aw] at h1
     exact h1)
    have Kz:=kp (show ∀W,Below wr.heap.size wr W->Calls Tryz.prog 44 #[.pointer (some ⟨ga,0,none⟩)] W fun e w'=>e = .returned (.int .i64 (mm:Nat))/\w'=W from fun W hW=>by
     have h1:=a3d.o W (ai.o.trans (hW.mono ai.o.size));rw [show (k:Int)-1=((mm:Nat):Int) by omega] at h1
     exact h1)
    have i0':(0:Int)<=(mm:Int):=by omega
    have i1':(mm:Int)<(k:Int):=by omega
    have i2':(mm:Int)<=(k:Int):=by omega
    clear Uz UA Aw rX eH br d0 rQ bE;rw [hA] at a2;rw [hA];go_upto_region 16 with fail
    refine wp_region_noPanic ?_;refine dt (t:=99) (S:=(fun w'=>w'.cell? ⟨ga,2,none⟩=some (.slice (some ⟨bn,on,none⟩) k cn)/\w'.cell? ⟨bn,on+mm*14,none⟩=some (.int .i64 0))) (by kernel_rfl) ⟨a2,OG⟩ (fun ad => ?_);refine tD 0 1 2 3 ad ?_;refine tk 4 ad ?_;refine oT 5 fun K hK=>?_
    go_simp
    refine (Kz.o wr.drew (aq _ _).drew).mono ?_;rintro e wc ⟨rfl,rfl⟩;refine oK hK ?_ fun af=>?_
    .exact ⟨a2,OG⟩
    replace ad:=af;clear hK K af;refine tD 6 7 8 9 ad ?_;refine mX 10 11 12 ad ?_;refine oT 13 fun K hK=>?_
    go_simp
    refine (Kz.o wr.drew (aq _ _).drew).mono ?_;rintro e wc ⟨rfl,rfl⟩;refine oK hK ?_ fun af=>?_
    .exact ⟨a2,OG⟩
    replace ad:=af;clear hK K af;refine tk 14 ad ?_;refine oT 15 fun K hK=>?_
    go_simp
    refine (Nc.o wr.drew (aq _ _).drew).mono ?_;rintro e wc ⟨rfl,rfl⟩;refine oK hK ?_ fun af=>?_
    .exact ⟨a2,OG⟩
    replace ad:=af;clear hK K af;refine mX 16 17 18 ad ?_;refine dY (by kernel_rfl) ?_ _
    try clear ad
    refine NoPanic.normal ?_;go_wp2_with fail;go_ret;exact ⟨rfl,ai.o.drew⟩
structure Wc where
 B:Nat
 gb:Nat
 ga:Nat
 nx:Nat
 wm:Nat
abbrev J0 (c:Wc) (K O:Value):AV:=#[.pointer (some ⟨c.ga,0,none⟩),.int .i64 ((c.nx:Int)-1),K,.int .i64 c.wm,O,.int .i64 0]
structure Wk (c:Wc) (w:World) (F:Nat->Prop) (Ak:OA) (ck:Nat) (keys:LN) (Ao:OA) (co:Nat) (fs:List Fa):Prop where
 line:c.B<=c.gb
 box:aa w c.gb 192 (J0 c (.slice Ak keys.length ck) (.slice Ao fs.length co))
 sw:w.ownsRow c.B 3 1 (.slice Ak keys.length ck) keys.length (aP keys)
 out:cT w c.B (.slice Ao fs.length co) fs
 CK:jK c.B fs
 Fg:F c.gb
 Fk:∀k,(Value.slice Ak keys.length ck).ownBlock=some k->F k/\k≠c.gb
 Fo:∀k,(Value.slice Ao fs.length co).ownBlock=some k->F k/\k≠c.gb/\(Value.slice Ak keys.length ck).ownBlock≠some k
 Ff:∀f∈fs,∀k,eo f.A (aP f.keys) k->F k/\k≠c.gb/\(Value.slice Ak keys.length ck).ownBlock≠some k
 dV:∀k,F k->c.B<=k/\k<w.heap.size
section
variable {c:Wc} {w w' wc w5:World} {F:Nat->Prop} {Ak:OA} {ck:Nat} {keys:LN} {Ao A5:OA} {co c5:Nat} {fs:List Fa} {f:Fa}
theorem Wk.pO (h:Wk c w F Ak ck keys Ao co fs) (hk:Kept F w w'):Wk c w' F Ak ck keys Ao co fs where
 line:=h.line
 box:=(hk.block c.gb h.Fg h.box.lt).trans h.box
 sw:=oL h.sw (fun k hv=>hk.block k (h.Fk k hv).1 (h.sw.lt k hv).2)
 out:=⟨oL h.out.1 (fun k hv=>hk.block k (h.Fo k hv).1 (h.out.1.lt k hv).2),fun f hf=>zc (h.out.2 f hf) hk.size (fun k hv=>hk.block k (h.Ff f hf k hv).1 (h.dV k (h.Ff f hf k hv).1).2)⟩
 CK:=h.CK
 Fg:=h.Fg
 Fk:=h.Fk
 Fo:=h.Fo
 Ff:=h.Ff
 dV:=fun k hf=>⟨(h.dV k hf).1,dL (h.dV k hf).2 hk.size⟩
theorem Wk.below (h:Wk c w F Ak ck keys Ao co fs) (hb:Below w.heap.size w w'):Wk c w' F Ak ck keys Ao co fs:=h.pO (Kept.below hb)
theorem Wk.ge (h:Wk c w F Ak ck keys Ao co fs):c.B<=w.heap.size:=by have:=h.line;have:=h.box.lt;omega
theorem Wk.take (h:Wk c w F Ak ck keys Ao co fs) (hb:Below w.heap.size w wc) (hf:dx wc (.slice Ao fs.length co) f) (oC:jK w.heap.size [f])
 (aE:w5.ownsRow c.B 56 11 (.slice A5 (fs.length+1) c5) (fs.length+1) (fs.flatMap fG++fG f)) (ha:App wc w5 (.slice Ao fs.length co) (.slice A5 (fs.length+1) c5)) :
 Wk c (w5.setCell ⟨c.gb,4,none⟩ (.slice A5 (fs.length+1) c5)) (more F w (w5.setCell ⟨c.gb,4,none⟩ (.slice A5 (fs.length+1) c5))) Ak ck keys A5 c5 (fs++[f])/\bK F w (w5.setCell ⟨c.gb,4,none⟩ (.slice A5 (fs.length+1) c5)):=by
 have fe:w.heap.size<=wc.heap.size:=hb.size;have kT:wc.heap.size<=w5.heap.size:=ha.grown.size;have tq:(w5.setCell ⟨c.gb,4,none⟩ (.slice A5 (fs.length+1) c5)).heap.size=w5.heap.size:=by simp
 have jB:=h.box.lt;have ae:∀k,(Value.slice A5 (fs.length+1) c5).ownBlock=some k->k<w5.heap.size:=fun k hk=>(aE.lt k hk).2
 have sl:∀k,k<w.heap.size->(Value.slice Ao fs.length co).ownBlock≠some k->w5.heap[k]? = w.heap[k]? := fun k hk hn=>(ha.de (by omega) hn).trans (hb.block k hk)
 have oH:∀k,k≠c.gb->(w5.setCell ⟨c.gb,4,none⟩ (.slice A5 (fs.length+1) c5)).heap[k]? = w5.heap[k]? := fun k hk=>Below.heap_setCell w5 ⟨c.gb,4,none⟩ _ k hk
 have eG:(Value.slice Ao fs.length co).ownBlock≠some c.gb:=fun e=>(h.Fo _ e).2.1 rfl
 have zj:∀k,(Value.slice A5 (fs.length+1) c5).ownBlock=some k->((Value.slice Ao fs.length co).ownBlock=some k\/(wc.heap.size<=k/\k<w5.heap.size)):=fun k hk=>by
  rcases ha.qH with e | ⟨j,e,hj⟩
  .rw [e] at hk;exact .inl hk
  .rw [e] at hk;injection hk with hk
   subst hk;exact .inr ⟨hj,ae _ e⟩
 have UB:aa w5 c.gb 192 (J0 c (.slice Ak keys.length ck) (.slice Ao fs.length co)):=(sl _ jB eG).trans h.box;have aX:(fs++[f]).length=fs.length+1:=by rw [aS];rfl
 refine ⟨⟨h.line,?_,?_,?_,?_,.inl h.Fg,fun k hk=>⟨.inl (h.Fk k hk).1,(h.Fk k hk).2⟩,fun k hk => ?_,fun g hg k hk => ?_,fun k hk => ?_⟩,⟨?_,?_,?_,?_,fun k hk hp => ?_⟩⟩
 .rw [aX];exact UB.set 4 _
 .refine oL h.sw (fun k hk => ?_);obtain ⟨h1,h2⟩:=h.Fk k hk;rw [oH k h2];exact sl k (h.sw.lt k hk).2 (fun e=>(h.Fo k e).2.2 hk)
 .rw [aX];refine ⟨?_,fun g hg => ?_⟩
  .rw [aX,flatMap_append];refine oL (by simpa using aE) (fun k hk=>oH k (fun e => ?_));rcases zj k hk with h1 | ⟨h1,_⟩
   .exact (h.Fo k h1).2.1 e
   .omega
  .have hG:dx w5 (.slice A5 (fs.length+1) c5) g/\∀k,eo g.A (aP g.keys) k->k≠c.gb:=by
    rcases mem_append.1 hg with hg | hg
    .exact ⟨((h.out.2 g hg).below hb).app ha,fun k hk=>(h.Ff g hg k hk).2.1⟩
    .have h1:=mem_singleton.1 hg;subst h1;exact ⟨hf.app ha,fun k hk=>by obtain ⟨av,off,e⟩:=hk;have:=oC g mem_cons_self k off e av;omega⟩
   exact zc hG.1 (Nat.le_of_eq tq.symm) (fun k hk=>oH k (hG.2 k hk))
 .intro g hg b off e av;rcases mem_append.1 hg with hg | hg
  .exact h.CK g hg b off e av
  .exact aT h.ge (oC g hg b off e av)
 .rw [aX] at hk;rcases zj k hk with e | ⟨h1,h2⟩
  .exact ⟨.inl (h.Fo k e).1,(h.Fo k e).2⟩
  .refine ⟨.inr ⟨by omega,by omega⟩,by omega,fun e => ?_⟩;have:=(h.sw.lt k e).2;omega
 .rcases mem_append.1 hg with hg | hg
  .exact ⟨.inl (h.Ff g hg k hk).1,(h.Ff g hg k hk).2⟩
  .have h1:=(mem_singleton.1 hg)
   subst h1;obtain ⟨av,off,e⟩:=hk;have h2:=oC g mem_cons_self k off e av;have h3:=Row.cW hf.1 ⟨av,off,e⟩;refine ⟨.inr ⟨h2,by omega⟩,by omega,fun e => ?_⟩;have:=(h.sw.lt k e).2;omega
 .rcases hk with hk | ⟨h1,h2⟩
  .have:=h.dV k hk;omega
  .have:=h.ge;omega
 .exact ha.grown.os.trans hb.os
 .exact ha.grown.tape.trans hb.tape
 .exact ha.grown.output.trans hb.output
 .omega
 .have h1:k≠c.gb:=fun e=>hp (e▸h.Fg)
  rw [oH k h1];exact sl k hk (fun e=>hp (h.Fo k e).1)
end
theorem aa.AX {w:World} {g:Nat} {t:TypeId} {a0 a1 a2 a3 a4 a5:Value} (h:aa w g t #[a0,a1,a2,a3,a4,a5]) :
 (w.cell? ⟨g,0,none⟩=some a0/\w.cell? ⟨g,1,none⟩=some a1/\w.cell? ⟨g,2,none⟩=some a2/\w.cell? ⟨g,3,none⟩=some a3/\w.cell? ⟨g,4,none⟩=some a4/\w.cell? ⟨g,5,none⟩=some a5)/\(∀i,w.frozen? ⟨g,i,none⟩=false) :=
 ⟨⟨h.cell 0,h.cell 1,h.cell 2,h.cell 3,h.cell 4,h.cell 5⟩,fun i=>h.free i⟩
theorem a0' {w w':World} {g:Nat} {v0 v1 v2 v3 v4 v5 v6 v7 v8 v9:Value} (hb:w'.heap[g]? = w.heap[g]?) (h:w.cell? ⟨g,0,none⟩=some v0/\w.cell? ⟨g,1,none⟩=some v1/\w.cell? ⟨g,2,none⟩=some v2/\w.cell? ⟨g,3,none⟩=some v3/\w.cell? ⟨g,4,none⟩=some v4/\w.cell? ⟨g,5,none⟩=some v5/\w.cell? ⟨g,6,none⟩=some v6/\w.cell? ⟨g,7,none⟩=some v7/\w.cell? ⟨g,8,none⟩=some v8/\w.cell? ⟨g,9,none⟩=some v9):w'.cell? ⟨g,0,none⟩=some v0/\w'.cell? ⟨g,1,none⟩=some v1/\w'.cell? ⟨g,2,none⟩=some v2/\w'.cell? ⟨g,3,none⟩=some v3/\w'.cell? ⟨g,4,none⟩=some v4/\w'.cell? ⟨g,5,none⟩=some v5/\w'.cell? ⟨g,6,none⟩=some v6/\w'.cell? ⟨g,7,none⟩=some v7/\w'.cell? ⟨g,8,none⟩=some v8/\w'.cell? ⟨g,9,none⟩=some v9:=by
 have e:∀i,w'.cell? ⟨g,i,none⟩=w.cell? ⟨g,i,none⟩:=fun i=>cZ (a:=⟨g,i,none⟩) hb
 simp only [e];exact h
def R4 (c:Wc) (F:Nat->Prop) (Ak:OA) (ck:Nat) (keys:LN) (fs:List Fa) (a:Ag) (w:World) (e:Ending) (w':World):Prop :=
 e = .returned (.tuple #[])/\∃ (qC:OA) (qD:Nat) (f:Fa),pl f=(keys,a)/\Wk c w' (more F w w') Ak ck keys qC qD (fs++[f])/\bK F w w'
theorem a7R (c:Wc) (F:Nat->Prop) (Ak Ao:OA) (ck co:Nat) (keys:LN) (fs:List Fa) (a:Ag) (w:World) (h:Wk c w F Ak ck keys Ao co fs) (ae:fs.length<c.wm) (rj:c.wm<=1000000) (hk:keys.length<=1000) :
 Calls Tryz.prog 157 #[.pointer (some ⟨c.gb,0,none⟩),.agg (bj a)] w (R4 c F Ak ck keys fs a w):=by
 obtain ⟨i0,cG,cI,cH,cJ⟩:=info_parts EO;have HQ:=kp (show ∀ (qC:OA) (qD:Nat) (f:Fa) w',pl f=(keys,a)->Wk c w' (more F w w') Ak ck keys qC qD (fs++[f])->bK F w w'->R4 c F Ak ck keys fs a w (.returned (.tuple #[])) w' from fun qC qD f w' h1 h2 h3=>⟨rfl,qC,qD,f,h1,h2,h3⟩);have HC:=kp (fun W hr=>Md Ak ck keys W (by omega) hr);have Hh:=kp h;have HpL:=kp (show ∀A' c':_,pl ⟨A',keys,c',a⟩=(keys,a) from fun _ _=>rfl);obtain ⟨ac,s0,n0,x0,s1,n1,x1,s2,n2,x2⟩:=a;generalize hQ:R4 c F Ak ck keys fs ⟨ac,s0,n0,x0,s1,n1,x1,s2,n2,x2⟩ w=Q at *;dsimp only [bj];have au:=(aq w.heap.size w).alloc (ah _) (.cells #[.int .i64 ac,.int .i64 s0,.int .i64 n0,.int .i64 x0,.int .i64 s1,.int .i64 n1,.int .i64 x1,.int .i64 s2,.int .i64 n2,.int .i64 x2] 54);have Ed:=kp (aa.new w 54 #[.int .i64 ac,.int .i64 s0,.int .i64 n0,.int .i64 x0,.int .i64 s1,.int .i64 n1,.int .i64 x1,.int .i64 s2,.int .i64 n2,.int .i64 x2]);have cQ:=kp (h.box.under au);have ay:=kp au;have jB:c.gb<w.heap.size:=h.box.lt;have sg:=kp (gV h.sw);have UC:=kp (show (Value.slice Ao fs.length co).ownBlock≠some c.gb from fun e=>(h.Fo _ e).2.1 rfl);have UD:=kp (show ∀j,(Value.slice Ao fs.length co).ownBlock=some j->j<w.heap.size from fun j hj=>(h.out.1.lt j hj).2);have UE:=kp h.out;have hB:=kp h.ge;obtain ⟨n,hn⟩:∃n,fs.length=n:=⟨_,rfl⟩
 have Hn:=kp hn;obtain ⟨cB,gb,ga,nx,wm⟩:=c;dsimp only [J0] at cQ jB ae rj UC UE hB ⊢;rw [hn] at cQ ae UC UD UE;clear hQ h au hn;generalize dj:w.alloc (.cells #[.int .i64 ac,.int .i64 s0,.int .i64 n0,.int .i64 x0,.int .i64 s1,.int .i64 n1,.int .i64 x1,.int .i64 s2,.int .i64 n2,.int .i64 x2] 54)=W0 at *;have q1:¬ (wm:Int)<=(n:Int):=by omega
 have jg:decide ((wm:Int)<=(n:Int))=false:=decide_eq_false q1;have DU:decide (wm<=n)=false:=decide_eq_false (by omega);obtain ⟨⟨b0,b1,b2,b3,b4,b5⟩,bf⟩:=aa.AX cQ.o;have bf4:=bf 4;clear bf;go_enter Tryz.func157,Tryz.ntmps157;go_upto_region 1 with fail
 clear dj;refine wp_region_noPanic ?_;refine dt (t:=99) (S:=(fun w'=>w'.cell? ⟨gb,4,none⟩=some (.slice Ao n co)/\w'.cell? ⟨gb,3,none⟩=some (.int .i64 (wm:Nat)))) (by kernel_rfl) ⟨b4,b3⟩ (fun ad => ?_);refine tD 0 1 2 3 ad ?_;refine tD 4 5 6 7 ad ?_;refine tB 8 9 ad ?_;refine dY (by kernel_rfl) ?_ _
 try clear ad
 refine NoPanic.normal ?_;go_upto_region 3 with fail
 obtain ⟨z0,z1,z2,z3,z4,z5,z6,z7,z8,z9⟩:=(aa.eS Ed.o).1;have wV:gb<W0.heap.size:=cQ.o.lt;have adr:w.heap.size<W0.heap.size:=Ed.o.lt;refine wp_region_noPanic ?_;refine IX (t:=16) (S:=(fun w'=>(w'.cell? ⟨gb,4,none⟩=some (.slice Ao n co)/\w'.frozen? ⟨gb,4,none⟩=false)/\w'.cell? ⟨gb,2,none⟩=some (.slice Ak keys.length ck)/\(w'.cell? ⟨w.heap.size,0,none⟩=some (.int .i64 ac)/\w'.cell? ⟨w.heap.size,1,none⟩=some (.int .i64 s0)/\w'.cell? ⟨w.heap.size,2,none⟩=some (.int .i64 n0)/\w'.cell? ⟨w.heap.size,3,none⟩=some (.int .i64 x0)/\w'.cell? ⟨w.heap.size,4,none⟩=some (.int .i64 s1)/\w'.cell? ⟨w.heap.size,5,none⟩=some (.int .i64 n1)/\w'.cell? ⟨w.heap.size,6,none⟩=some (.int .i64 x1)/\w'.cell? ⟨w.heap.size,7,none⟩=some (.int .i64 s2)/\w'.cell? ⟨w.heap.size,8,none⟩=some (.int .i64 n2)/\w'.cell? ⟨w.heap.size,9,none⟩=some (.int .i64 x2)))) (by kernel_rfl) ⟨⟨b4,bf4⟩,b2,⟨z0,z1,z2,z3,z4,z5,z6,z7,z8,z9⟩⟩ (fun ad => ?_);refine tu 0 ad ?_;refine tu 1 ad ?_;refine tu 2 ad ?_;refine tu 3 ad ?_;refine tu 4 ad ?_;refine tu 5 ad ?_;refine tu 6 ad ?_;refine tu 7 ad ?_;refine tu 8 ad ?_;refine tu 10 ad ?_;refine oU 9 fun K hK=>?_
 go_simp
 refine (HC.o W0.drew.drew ((sg.o.below ay.o).more ay.o.size)).mono ?_;rintro e wc ⟨vk,rfl,rU,cU⟩;obtain ⟨GQ,GR,rfl⟩:=eM rU;have zm:=kp (show wc.ownsRow W0.heap.size 3 1 (.slice GQ keys.length GR) keys.length (aP keys) from rU);have bh:=kp (show Below W0.heap.size W0 wc from (aq _ _).drew.drew.trans cU);clear cU rU;refine oK hK ?_ fun af=>?_
 .exact ⟨⟨aL bh.o b4,by rw [lU bh.o _ _ wV];exact bf4⟩,aL bh.o b2,⟨aL bh.o z0,aL bh.o z1,aL bh.o z2,aL bh.o z3,aL bh.o z4,aL bh.o z5,aL bh.o z6,aL bh.o z7,aL bh.o z8,aL bh.o z9⟩⟩
 replace ad:=af;clear hK K af;have KR:gb<wc.heap.size:=dL wV bh.o.size;have UF:w.heap.size<wc.heap.size:=dL adr bh.o.size;have iI:=kp (ay.o.trans (bh.o.mono ay.o.size));have ads:=kp (UE.o.below iI.o);have adt:=kp (show wc.ownsRow cB 56 11 (.slice Ao n co) n (fs.flatMap fG) by have:=ads.o.1;rw [Hn.o] at this;exact this);have Ob:=kp (show (Value.slice Ao n co).ownBlock≠some w.heap.size from fun e=>by have:=UD.o _ e;omega);have cz:n+1<1048576*64:=by omega
 have TH:=kp (show cB<=wc.heap.size from aT hB.out iI.o.size);refine tu 11 ad ?_;refine oU 12 fun K hK=>?_
 go_simp
 refine oK hK ?_ fun af=>?_
 .exact ⟨⟨aL ((aq _ _).alloc (ah _) _) ad.1.1,by rw [lU ((aq _ _).alloc (ah wc.heap.size) _) _ _ KR];exact ad.1.2⟩,aL ((aq _ _).alloc (ah _) _) ad.2.1,a0' (Below.heap_alloc _ _ _ UF) ad.2.2⟩
 replace ad:=af;clear hK K af;refine oU 13 fun K hK=>?_
 refine M9 rfl (.tmp 21) (.tmp 29) 30 rfl cB 56 i0 _ 11 104 Tryz.underlying30 cG cI cH cJ rfl (by decide) wc (eB ⟨GQ,keys,GR,⟨ac,s0,n0,x0,s1,n1,x1,s2,n2,x2⟩⟩) rfl (CA _) (.slice Ao n co) n (fs.flatMap fG) rfl adt.o rfl cz (by decide) TH.out ?_;intro v5 w5 aY bV;obtain ⟨A5,c5,h5⟩:=eM aY;subst h5;have cP:=kp aY;have iU:=kp bV;clear aY bV
 go_simp
 refine oK hK ?_ fun af=>?_
 .have e1:=(iU.o.de KR UC.o).trans (Below.heap_alloc wc (.cells (eB ⟨GQ,keys,GR,⟨ac,s0,n0,x0,s1,n1,x1,s2,n2,x2⟩⟩) 56) _ KR).symm;have e2:=(iU.o.de UF Ob.o).trans (Below.heap_alloc wc (.cells (eB ⟨GQ,keys,GR,⟨ac,s0,n0,x0,s1,n1,x1,s2,n2,x2⟩⟩) 56) _ UF).symm;exact ⟨⟨(cZ (a:=⟨gb,4,none⟩) e1).trans ad.1.1,by have h:=ad.1.2;unfold World.frozen? at h ⊢;rw [e1];exact h⟩,(cZ (a:=⟨gb,2,none⟩) e1).trans ad.2.1,a0' e2 ad.2.2⟩
 replace ad:=af;clear hK K af;refine tu 14 ad ?_;refine tu 15 ad ?_;refine Rq (o := ?or16) (by kernel_rfl) ?ar16 ⟨by kernel_rfl,by kernel_rfl⟩ (fun K hK => ?br16)
 case ar16=>(simp only [getElem?_toArray,getElem?_cons_succ,getElem?_cons_zero];exact rfl)
 obtain ⟨⟨ic,oX⟩,_⟩:=ad;have ad:=ic
 go_simp
 refine hK.out _ _ ?_;clear hK K ad;refine NoPanic.normal ?_
 try simp only [Act.put,setIfInBounds_toArray,set_cons_zero,set_cons_succ]
 have HW:=kp (Hh.o.take (wc:=wc) (f:=⟨GQ,keys,GR,⟨ac,s0,n0,x0,s1,n1,x1,s2,n2,x2⟩⟩) iI.o (by
  rw [Hn.o];exact dx.new (B:=W0.heap.size) zm.o (fun j hj=>dL (UD.o j hj) ay.o.size)) (by
  intro g hg b off e av;rw [mem_singleton.1 hg] at e;dsimp only at e;have h1:=zm.o.lt b (by rw [e];rfl);have h3:=ay.o.size
  omega) (A5:=A5) (c5:=c5) (by rw [Hn.o];exact cP.o) (by rw [Hn.o];exact iU.o))
 rw [Hn.o] at HW;have bN:=kp (HQ.o A5 c5 ⟨GQ,keys,GR,⟨ac,s0,n0,x0,s1,n1,x1,s2,n2,x2⟩⟩ _ (HpL.o _ _) HW.o.1 HW.o.2);go_wp2_with fail
 go_end0
 exact bN.o
theorem a9r {w:World} {B:Nat} {e:TypeId} {A:OA} {n c:Nat} {xs:LV} (h:w.ownsRow B e 1 (.slice A n c) n xs) {k:Nat} (hk:k<=n) (hn:0<n):w.ownsRow B e 1 (.slice A k c) k (xs.take k):=by
 obtain ⟨h1,h2⟩:=h;rcases h2 with ⟨_,h0⟩ | ⟨g,cap,cur,hv,hB,hh,j7,fj,cE,ht⟩
 .omega
 .injection hv with hA _ hc
  subst hA hc;refine ⟨by rw [length_take,h1];omega,.inr ⟨g,c,cur,rfl,hB,hh,by omega,fj,cE,?_⟩⟩;rw [<-ht,take_take]
  congr 1
  omega
section
variable {c:Wc} {w w' w1 wc w5:World} {F F0 F1 F':Nat->Prop} {Ak Ak1 A5:OA} {ck ck1 c5:Nat} {keys a3m:LN} {Ao Ao1:OA} {co co1:Nat} {fs fs1:List Fa} {f:Fa} {key:Nat}
theorem Wk.wide (h:Wk c w F Ak ck keys Ao co fs) (hF:∀k,F k->F' k) (hl:∀k,F' k->c.B<=k/\k<w.heap.size):Wk c w F' Ak ck keys Ao co fs :=
 ⟨h.line,h.box,h.sw,h.out,h.CK,hF _ h.Fg,fun k hk=>⟨hF _ (h.Fk k hk).1,(h.Fk k hk).2⟩,fun k hk=>⟨hF _ (h.Fo k hk).1,(h.Fo k hk).2⟩,fun f hf k hk=>⟨hF _ (h.Ff f hf k hk).1,(h.Ff f hf k hk).2⟩,hl⟩
structure Mt (c:Wc) (F0:Nat->Prop) (w w':World) (F:Nat->Prop) (Ak:OA) (ck:Nat) (keys:LN) (Ao:OA) (co:Nat) (fs:List Fa):Prop where
 wk:Wk c w' F Ak ck keys Ao co fs
 bU:bK F0 w w'
 sub:∀k,F k->more F0 w w' k
theorem Mt.start (h:Wk c w F Ak ck keys Ao co fs):Mt c F w w F Ak ck keys Ao co fs:=⟨h,bK.refl _ _,fun k hk => .inl hk⟩
theorem Mt.below (h:Mt c F0 w w' F Ak ck keys Ao co fs) (hb:Below w'.heap.size w' w1):Mt c F0 w w1 F Ak ck keys Ao co fs :=
 ⟨h.wk.below hb,h.bU.trans (bK.below hb),fun k hk=>sB (ah _) hb.size (h.sub k hk)⟩
theorem Mt.trans (h:Mt c F0 w w' F Ak ck keys Ao co fs) (k:Mt c F w' w1 F1 Ak1 ck1 a3m Ao1 co1 fs1):Mt c F0 w w1 F1 Ak1 ck1 a3m Ao1 co1 fs1 :=
 ⟨k.wk,⟨k.bU.os.trans h.bU.os,k.bU.tape.trans h.bU.tape,k.bU.output.trans h.bU.output,aT h.bU.size k.bU.size,fun i hi hp=>(k.bU.block i (dL hi h.bU.size) (fun hf=>by
  rcases h.sub i hf with h1 | ⟨h1,_⟩
  .exact hp h1
  .omega)).trans (h.bU.block i hi hp)⟩,fun i hi=>by
  rcases k.sub i hi with h1 | ⟨h1,h2⟩
  .exact sB (ah _) k.bU.size (h.sub i h1)
  .exact .inr ⟨aT h.bU.size h1,h2⟩⟩
theorem Mt.uL (h:Mt c F0 w w' F Ak ck keys Ao co fs) (h0:∀k,F0 k->c.B<=k/\k<w.heap.size) (hB:c.B<=w.heap.size):Wk c w' (more F0 w w') Ak ck keys Ao co fs :=
 h.wk.wide h.sub (fun k hk=>by
  have:=h.bU.size;rcases hk with hk | ⟨h1,h2⟩
  .have:=h0 k hk;omega
  .omega)
theorem Mt.off (h:Mt c F0 w w' F Ak ck keys Ao co fs) {k:Nat} (hk:k<w.heap.size) (hn:¬F0 k):¬F k:=fun hf=>by
 rcases h.sub k hf with h1 | ⟨h1,_⟩
 .exact hn h1
 .omega
theorem Mt.row (h:Mt c F0 w w' F Ak ck keys Ao co fs) {A:OA} {vs:LV} (hr:Row w w.heap.size A vs) (hn:∀k,eo A vs k->¬F0 k):Row w' w'.heap.size A vs/\∀k,eo A vs k->¬F k :=
 ⟨(pL hr (fun k hk=>h.bU.block k (Row.cW hr hk) (hn k hk))).more h.bU.size,fun k hk=>h.off (Row.cW hr hk) (hn k hk)⟩
theorem Wk.push (h:Wk c w F Ak ck keys Ao co fs) (hb:Below w.heap.size w wc)
 (aE:w5.ownsRow c.B 3 1 (.slice A5 (keys.length+1) c5) (keys.length+1) (aP keys++[.int .i64 (key:Nat)])) (ha:App wc w5 (.slice Ak keys.length ck) (.slice A5 (keys.length+1) c5)) :
 Mt c F w (w5.setCell ⟨c.gb,2,none⟩ (.slice A5 (keys.length+1) c5)) (fun k=>F k\/(Value.slice A5 (keys.length+1) c5).ownBlock=some k) A5 c5 (keys++[key]) Ao co fs:=by
 have fe:w.heap.size<=wc.heap.size:=hb.size;have kT:wc.heap.size<=w5.heap.size:=ha.grown.size;have tq:(w5.setCell ⟨c.gb,2,none⟩ (.slice A5 (keys.length+1) c5)).heap.size=w5.heap.size:=by simp
 have jB:=h.box.lt;have ae:∀k,(Value.slice A5 (keys.length+1) c5).ownBlock=some k->c.B<=k/\k<w5.heap.size:=fun k hk=>aE.lt k hk
 have sl:∀k,k<w.heap.size->(Value.slice Ak keys.length ck).ownBlock≠some k->w5.heap[k]? = w.heap[k]? := fun k hk hn=>(ha.de (by omega) hn).trans (hb.block k hk)
 have oH:∀k,k≠c.gb->(w5.setCell ⟨c.gb,2,none⟩ (.slice A5 (keys.length+1) c5)).heap[k]? = w5.heap[k]? := fun k hk=>Below.heap_setCell w5 ⟨c.gb,2,none⟩ _ k hk
 have eG:(Value.slice Ak keys.length ck).ownBlock≠some c.gb:=fun e=>(h.Fk _ e).2 rfl
 have zj:∀k,(Value.slice A5 (keys.length+1) c5).ownBlock=some k->((Value.slice Ak keys.length ck).ownBlock=some k\/(wc.heap.size<=k/\k<w5.heap.size)):=fun k hk=>by
  rcases ha.qH with e | ⟨j,e,hj⟩
  .rw [e] at hk;exact .inl hk
  .rw [e] at hk;injection hk with hk
   subst hk;exact .inr ⟨hj,(ae _ e).2⟩
 have UB:aa w5 c.gb 192 (J0 c (.slice Ak keys.length ck) (.slice Ao fs.length co)):=(sl _ jB eG).trans h.box;have aX:(keys++[key]).length=keys.length+1:=by rw [aS];rfl
 have av:∀k,(Value.slice A5 (keys.length+1) c5).ownBlock=some k->k≠c.gb:=fun k hk e=>by
  rcases zj k hk with h1 | ⟨h1,_⟩
  .exact (h.Fk k h1).2 e
  .omega
 have a3n:∀k,k<w.heap.size->(Value.slice Ak keys.length ck).ownBlock≠some k->(Value.slice A5 (keys.length+1) c5).ownBlock≠some k:=fun k hk hn e=>by
  rcases zj k e with h1 | ⟨h1,_⟩
  .exact hn h1
  .omega
 have KS:∀k,k<w.heap.size->k≠c.gb->(Value.slice Ak keys.length ck).ownBlock≠some k->(w5.setCell ⟨c.gb,2,none⟩ (.slice A5 (keys.length+1) c5)).heap[k]? = w.heap[k]? := fun k hk h1 h2=>(oH k h1).trans (sl k hk h2)
 refine ⟨⟨h.line,?_,?_,?_,h.CK,.inl h.Fg,fun k hk => ?_,fun k hk => ?_,fun g hg k hk => ?_,fun k hk => ?_⟩,⟨?_,?_,?_,?_,fun k hk hp => ?_⟩,fun k hk => ?_⟩
 .rw [aX];exact UB.set 2 _
 .rw [aX];refine oL (by unfold aP at *;rw [map_append];exact aE) (fun k hk=>oH k (av k hk))
 .refine ⟨oL h.out.1 (fun k hk => ?_),fun g hg=>zc (h.out.2 g hg) (by omega) (fun k hk => ?_)⟩
  .obtain ⟨h1,h2,h3⟩:=h.Fo k hk;exact KS k (h.dV k h1).2 h2 h3
  .obtain ⟨h1,h2,h3⟩:=h.Ff g hg k hk;exact KS k (h.dV k h1).2 h2 h3
 .rw [aX] at hk;exact ⟨.inr hk,av k hk⟩
 .obtain ⟨h1,h2,h3⟩:=h.Fo k hk;rw [aX];exact ⟨.inl h1,h2,a3n k (h.dV k h1).2 h3⟩
 .obtain ⟨h1,h2,h3⟩:=h.Ff g hg k hk;rw [aX];exact ⟨.inl h1,h2,a3n k (h.dV k h1).2 h3⟩
 .rcases hk with hk | hk
  .have:=h.dV k hk;omega
  .have:=ae k hk;omega
 .exact ha.grown.os.trans hb.os
 .exact ha.grown.tape.trans hb.tape
 .exact ha.grown.output.trans hb.output
 .omega
 .exact KS k hk (fun e=>hp (e▸h.Fg)) (fun e=>hp (h.Fk k e).1)
 .rcases hk with hk | hk
  .exact .inl hk
  .rcases zj k hk with h1 | ⟨h1,h2⟩
   .exact .inl (h.Fk k h1).1
   .exact .inr ⟨by omega,by omega⟩
theorem Wk.pop (h:Wk c w F Ak ck (keys++[key]) Ao co fs):Mt c F w (w.setCell ⟨c.gb,2,none⟩ (.slice Ak keys.length ck)) F Ak ck keys Ao co fs:=by
 have aX:(keys++[key]).length=keys.length+1:=by rw [aS];rfl
 have oH:∀k,k≠c.gb->(w.setCell ⟨c.gb,2,none⟩ (.slice Ak keys.length ck)).heap[k]? = w.heap[k]? := fun k hk=>Below.heap_setCell w ⟨c.gb,2,none⟩ _ k hk
 have hz:(w.setCell ⟨c.gb,2,none⟩ (.slice Ak keys.length ck)).heap.size=w.heap.size:=by simp
 have OH:(Value.slice Ak keys.length ck).ownBlock=(Value.slice Ak (keys++[key]).length ck).ownBlock:=by cases Ak<;>rfl
 have om:=h.sw;rw [aX] at om;have hcut:=a9r om (k:=keys.length) (Nat.le_succ _) (Nat.succ_pos _);have adu:(aP (keys++[key])).take keys.length=aP keys:=by
  unfold aP;rw [map_append,take_append_of_le_length (by simp),take_of_length_le (by simp)]
 rw [adu] at hcut;refine ⟨⟨h.line,?_,?_,?_,h.CK,h.Fg,fun k hk=>h.Fk k (OH▸hk),fun k hk => ?_,fun g hg k hk => ?_,fun k hk=>by rw [hz];exact h.dV k hk⟩,bK.set _ _ _ h.Fg,fun k hk => .inl hk⟩
 .exact h.box.set 2 _
 .exact oL hcut (fun k hk=>oH k (h.Fk k (OH▸hk)).2)
 .exact ⟨oL h.out.1 (fun k hk=>oH k (h.Fo k hk).2.1),fun g hg=>zc (h.out.2 g hg) (Nat.le_of_eq hz.symm) (fun k hk=>oH k (h.Ff g hg k hk).2.1)⟩
 .rw [OH];exact h.Fo k hk
 .rw [OH];exact h.Ff g hg k hk
end
abbrev vR:=LN×Ag
def yR (nodes:List aI) (i:Nat):List Cl:=(((nodes[i]?).getD ⟨0,[],cO⟩).lists[0]?).getD []
def AN (f:Option (Nat->LN->List vR)) (keys:LN) (c:Cl):List vR:=match f with
 | none=>[(keys++[c.key],c.ag)]
 | some g=>g c.child (keys++[c.key])
def AQ (nodes:List aI) (f:Option (Nat->LN->List vR)) (i:Nat) (keys:LN):List vR:=(yR nodes i).flatMap (AN f keys)
def nU (nodes:List aI):Nat->Nat->LN->List vR
 | 0=>AQ nodes none
 | d+1=>AQ nodes (some (nU nodes d))
def CW (nodes:List aI):Nat->Nat->Prop
 | 0,i=>∃n,nodes[i]? = some n/\n.lists≠[]
 | d+1,i=>∃n,nodes[i]? = some n/\n.lists≠[]/\∀c∈yR nodes i,CW nodes d c.child
def CP (c:Wc) (F:Nat->Prop) (keys:LN) (fs:List Fa) (out:List vR) (w:World) (e:Ending) (w':World):Prop :=
 e = .returned (.tuple #[])/\∃ (xh:OA) (xi:Nat) (qC:OA) (qD:Nat) (sn:List Fa),sn.map pl=fs.map pl++out/\Wk c w' (more F w w') xh xi keys qC qD sn/\bK F w w'
structure FG (c:Wc) (As An:OA) (cs m cn most:Nat) (nds:List Nd) (w:World):Prop where
 box:aa w c.ga 160 (im As c.nx cs m An nds.length cn most)
 lt:c.ga<c.B
 at_:jH w c.B An nds
theorem FG.below {c:Wc} {As An:OA} {cs m cn most:Nat} {nds:List Nd} {w w':World} (h:FG c As An cs m cn most nds w) (hb:Below c.B w w'):FG c As An cs m cn most nds w' :=
 ⟨h.box.below hb h.lt,h.lt,h.at_.below hb⟩
theorem Mt.under {c:Wc} {F0 F:Nat->Prop} {w w':World} {Ak Ao:OA} {ck co:Nat} {keys:LN} {fs:List Fa} (h:Mt c F0 w w' F Ak ck keys Ao co fs) (h0:∀k,F0 k->c.B<=k) (hB:c.B<=w.heap.size):Below c.B w w':=h.bU.toBelow h0 hB
theorem Yj {w:World} {B:Nat} {e:TypeId} {A:OA} {n c:Nat} {sz:Nat} {xs:LV} (h:w.ownsRow B e sz (.slice A n c) n xs):n<=c:=by
 rcases h.2 with ⟨h1,h0⟩ | ⟨g,cap,cur,hv,_,_,j7,_⟩
 .omega
 .injection hv with _ _ hc
  omega
def IJ (c:Wc) (As An:OA) (cs m cn most:Nat) (nds:List Nd) (a d:Nat):Prop:=∀ (F:Nat->Prop) (Ak Ao:OA) (ck co:Nat) (keys:LN) (fs:List Fa) (i:Nat) (w:World),Wk c w F Ak ck keys Ao co fs->FG c As An cs m cn most nds w->keys.length=a->CW (nds.map az) d i ->
 fs.length+(nU (nds.map az) d i keys).length<=c.wm->Calls Tryz.prog 94 #[.pointer (some ⟨c.gb,0,none⟩),.int .i64 (a:Nat),.int .i64 (i:Nat)] w (CP c F keys fs (nU (nds.map az) d i keys) w)
theorem a0w (c:Wc) (As An:OA) (cs m cn most:Nat) (nds:List Nd) (F:Nat->Prop) (Ak Ao:OA) (ck co:Nat) (keys:LN) (fs:List Fa) (cl:Cl) (a:Nat) (out:List vR) (w:World) (h:Wk c w F Ak ck keys Ao co fs) (qE:FG c As An cs m cn most nds w) (ha:keys.length=a) (fh:c.nx<=16) (rj:c.wm<=1000000)
 (AA:fs.length+out.length<=c.wm) (hd:(a+1=c.nx/\out=[(keys++[cl.key],cl.ag)])\/(a+1<c.nx/\∃d,IJ c As An cs m cn most nds (a+1) d/\CW (nds.map az) d cl.child/\out=nU (nds.map az) d cl.child (keys++[cl.key]))) :
 Calls Tryz.prog 132 #[.pointer (some ⟨c.gb,0,none⟩),.int .i64 (a:Nat),.agg (bQ cl)] w (CP c F keys fs out w):=by
 obtain ⟨i0,cG,cI,cH,cJ⟩:=info_parts vV;have HQ:=kp (show ∀ (xh:OA) (xi:Nat) (qC:OA) (qD:Nat) (sn:List Fa) w',sn.map pl=fs.map pl++out->Wk c w' (more F w w') xh xi keys qC qD sn->bK F w w'->CP c F keys fs out w (.returned (.tuple #[])) w' from fun xh xi qC qD sn w' h1 h2 h3=>⟨rfl,xh,xi,qC,qD,sn,h1,h2,h3⟩);generalize hQ:CP c F keys fs out w=Q at *;clear hQ;have Hh:=kp h;have GU:=kp qE;have HF:=kp h.dV;have tt:=kp h.ge;have Ha:=kp ha;have au:=(aq w.heap.size w).alloc (ah _) (.cells (bQ cl) 98);have Ce:=kp (aa.new w 98 (bQ cl));have cQ:=kp (h.box.under au);have ay:=kp au;have adv:=kp (show w.ownsRow c.B 3 1 (.slice Ak a ck) a (aP keys) by have:=h.sw;rw [ha] at this;exact this);have adw:=kp (show (Value.slice Ak a ck).ownBlock≠some c.gb from fun e=>(h.Fk c.gb (by rw [ha];exact e)).2 rfl);have a3o:=kp (show ∀j,(Value.slice Ak a ck).ownBlock=some j->j<w.heap.size from fun j hj=>(h.sw.lt j (by rw [ha];exact hj)).2);have jB:c.gb<w.heap.size:=h.box.lt;have aX:(keys++[cl.key]).length=a+1:=by rw [aS,ha];rfl
 have lz:=kp aX;have adx:a+1<=16:=by rcases hd with h1 | h1<;>omega
 have Hd:=kp hd;have OI:=kp AA;unfold J0 at cQ;rw [ha] at cQ;clear h qE au ha aX hd AA;obtain ⟨key,child,⟨ac,s0,n0,x0,s1,n1,x1,s2,n2,x2⟩⟩:=cl;dsimp only [bQ] at Ce ay cQ lz Hd ⊢;generalize dj:w.alloc (.cells #[.int .i64 (key:Nat),.int .i64 (child:Nat),.int .i64 ac,.int .i64 s0,.int .i64 n0,.int .i64 x0,.int .i64 s1,.int .i64 n1,.int .i64 x1,.int .i64 s2,.int .i64 n2,.int .i64 x2] 98)=W0 at *;obtain ⟨⟨b0,b1,b2,b3,b4,b5⟩,bf⟩:=aa.AX cQ.o;have OJ:=bf 2;clear bf;go_enter Tryz.func132,Tryz.ntmps132;go_upto_region 1 with fail
 clear dj;obtain ⟨z0,z1,z2,z3,z4,z5,z6,z7,z8,z9,iX,iY⟩:=(aa.fQ Ce.o).1;have HCd:=kp (show aa W0.drew w.heap.size 98 _ from Ce.o);have wV:c.gb<W0.drew.heap.size:=cQ.o.lt;have UG:w.heap.size<W0.drew.heap.size:=Ce.o.lt;have qF:=kp (ay.o.drew);have a3p:=kp (eV adv.o qF.o);have JN:=kp (show c.B<=W0.drew.heap.size from aT tt.o ay.o.size);have cz:a<1048576*64:=by omega
 refine wp_region_noPanic ?_;refine IX (t:=11) (S:=(fun w'=>(w'.cell? ⟨c.gb,2,none⟩=some (.slice Ak a ck)/\w'.frozen? ⟨c.gb,2,none⟩=false)/\w'.cell? ⟨w.heap.size,0,none⟩=some (.int .i64 (key:Nat)))) (by kernel_rfl) ⟨⟨b2,OJ⟩,z0⟩ (fun ad => ?_);generalize W0.drew=Wd at *;refine tu 0 ad ?_;refine tu 1 ad ?_;refine tu 2 ad ?_;refine tu 3 ad ?_;refine tu 4 ad ?_;refine tu 5 ad ?_;refine tu 6 ad ?_;refine oU 7 fun K hK=>?_
 go_simp
 refine oK hK ?_ fun af=>?_
 .exact ⟨⟨aL ((aq _ _).alloc (ah _) _) ad.1.1,by rw [lU ((aq _ _).alloc (ah Wd.heap.size) _) _ _ wV];exact ad.1.2⟩,aL ((aq _ _).alloc (ah _) _) ad.2⟩
 replace ad:=af;clear hK K af;refine oU 8 fun K hK=>?_
 refine xB rfl (.tmp 10) (.tmp 13) 27 rfl c.B 3 i0 (.int .i64 0) 8 Tryz.underlying27 cG cI cH cJ rfl Wd (.int .i64 (key:Nat)) rfl (.slice Ak a ck) a (aP keys) rfl a3p.o rfl cz (by decide) JN.out ?_;intro v5 w5 aY bV;obtain ⟨A5,c5,h5⟩:=eM aY;subst h5;have cP:=kp aY;have iU:=kp bV;clear aY bV
 go_simp
 refine oK hK ?_ fun af=>?_
 .have e1:=(iU.o.de wV adw.o).trans (Below.heap_alloc Wd (.cells #[.int .i64 (key:Nat)] 3) _ wV).symm;have e2:=(iU.o.de UG (fun e=>by have:=a3o.o _ e;omega)).trans (Below.heap_alloc Wd (.cells #[.int .i64 (key:Nat)] 3) _ UG).symm;exact ⟨⟨(cZ (a:=⟨c.gb,2,none⟩) e1).trans ad.1.1,by have h:=ad.1.2;unfold World.frozen? at h ⊢;rw [e1];exact h⟩,(cZ (a:=⟨w.heap.size,0,none⟩) e2).trans ad.2⟩
 replace ad:=af;clear hK K af;refine tu 9 ad ?_;refine tu 10 ad ?_;refine Rq (o := ?or11) (by kernel_rfl) ?ar11 ⟨by kernel_rfl,by kernel_rfl⟩ (fun K hK => ?br11)
 case ar11=>(simp only [getElem?_toArray,getElem?_cons_succ,getElem?_cons_zero];exact rfl)
 obtain ⟨⟨ic,oX⟩,_⟩:=ad;have ad:=ic
 go_simp
 refine hK.out _ _ ?_;clear hK K ad;refine NoPanic.normal ?_
 try simp only [Act.put,setIfInBounds_toArray,set_cons_zero,set_cons_succ]
 have UH:=Hh.o.push (wc:=Wd) (w5:=w5) (A5:=A5) (c5:=c5) (key:=key) qF.o (by rw [Ha.o];exact cP.o) (by rw [Ha.o];exact iU.o);rw [Ha.o] at UH;have HM:=kp UH;have ady:c.gb≠w.heap.size:=by omega
 have HC6:=kp (show aa (w5.setCell ⟨c.gb,2,none⟩ (.slice A5 (a+1) c5)) w.heap.size 98 _ from (show aa w5 w.heap.size 98 _ from (iU.o.de UG (fun e=>by have:=a3o.o _ e;omega)).trans HCd.o).bX (p:=⟨c.gb,2,none⟩) (Ne.symm ady) _);have adz:=kp (HM.o.under (fun k hk=>(HF.o k hk).1) tt.o);have adA:=kp (GU.o.below adz.o);clear UH z0 z1 z2 z3 z4 z5 z6 z7 z8 z9 iX iY b0 b1 b2 b3 b4 b5 OJ Ce cQ cP iU a3p HCd qF ay;generalize w5.setCell ⟨c.gb,2,none⟩ (.slice A5 (a+1) c5)=W6 at *;generalize (fun k=>F k\/(Value.slice A5 (a+1) c5).ownBlock=some k)=F1 at *;obtain ⟨z0,z1,z2,z3,z4,z5,z6,z7,z8,z9,iX,iY⟩:=(aa.fQ HC6.o).1;obtain ⟨⟨b0,b1,b2,b3,b4,b5⟩,bf⟩:=aa.AX HM.o.wk.box;clear bf b0 b2 b3 b4 b5;have aX:=lz.o;have Hlr:=kp (show (keys++[key]).length<=1000 by omega);rcases Hd.o with ⟨iT,mZ⟩ | ⟨iT,d,hN,hT,mZ⟩
 .have q1:((a:Int) == (c.nx:Int)-1)=true:=by simp;omega
  have HFa:=kp (a7R c F1 A5 Ao c5 co (keys++[key]) fs ⟨ac,s0,n0,x0,s1,n1,x1,s2,n2,x2⟩ W6 HM.o.wk (by have:=OI.o;rw [mZ] at this;simp only [length_cons,length_nil] at this;omega) rj Hlr.o);clear aX;go_wp2_with fail;refine HFa.o.mono ?_;rintro e w7 ⟨rfl,UI,UJ,f7,KT,Cf,ka⟩
  .have aX:=lz.o;obtain ⟨GV,adB⟩:∃x,x=c5:=⟨_,rfl⟩
   subst adB;have UK:=kp (show (fs++[f7]).map pl=fs.map pl++out by rw [mZ,map_append,map_cons,map_nil,KT]);have HX:=kp (show Mt c F1 W6 w7 _ _ _ _ _ _ _ from ⟨Cf,ka,fun k hk=>hk⟩);clear KT Cf ka b1 HFa z0 z1 z2 z3 z4 z5 z6 z7 z8 z9 iX iY q1;have vv:=kp (HM.o.trans (HX.o));obtain ⟨⟨b0,b1,b2,b3,b4,b5⟩,bf⟩:=aa.AX vv.o.wk.box;have OJ:=bf 2;clear bf;rw [aX] at b2;have uC:a<=GV:=by
    have h1:=Yj vv.o.wk.sw;rw [aX] at h1;omega
   have GK:(0:Int)<=(a:Int):=by omega
   have GL:(a:Int)<=(GV:Int):=by omega
   have Ee:=vv.o.wk.pop;rw [Ha.o] at Ee;have rk:=kp (vv.o.trans Ee);have UL:=kp (rk.o.uL HF.o tt.o);have bN:=kp (HQ.o _ _ _ _ _ _ UK.o UL.o rk.o.bU);clear Ee uC;go_wp2_with fail
   go_end0
   exact bN.o
 .have q1:((a:Int) == (c.nx:Int)-1)=false:=by simp;omega
  have AB:IntKind.i64.wrap ((a:Int)+1)=((a+1:Nat):Int):=by rw [IntWalk.i64_in _ (by omega)];rfl
  have JA:=kp (hN F1 A5 Ao c5 co (keys++[key]) fs child W6 HM.o.wk adA.o lz.o hT (by rw [<-mZ];exact OI.o));rw [<-mZ] at JA;clear aX;go_wp2_with fail;refine JA.o.mono ?_;rintro e w7 ⟨rfl,A7,GV,UI,UJ,fs7,KT,Cf,ka⟩
  .have aX:=lz.o;have UK:=kp KT;have HX:=kp (show Mt c F1 W6 w7 _ _ _ _ _ _ _ from ⟨Cf,ka,fun k hk=>hk⟩);clear KT Cf ka b1 JA z0 z1 z2 z3 z4 z5 z6 z7 z8 z9 iX iY q1 AB;have vv:=kp (HM.o.trans (HX.o));obtain ⟨⟨b0,b1,b2,b3,b4,b5⟩,bf⟩:=aa.AX vv.o.wk.box;have OJ:=bf 2;clear bf;rw [aX] at b2;have uC:a<=GV:=by
    have h1:=Yj vv.o.wk.sw;rw [aX] at h1;omega
   have GK:(0:Int)<=(a:Int):=by omega
   have GL:(a:Int)<=(GV:Int):=by omega
   have Ee:=vv.o.wk.pop;rw [Ha.o] at Ee;have rk:=kp (vv.o.trans Ee);have UL:=kp (rk.o.uL HF.o tt.o);have bN:=kp (HQ.o _ _ _ _ _ _ UK.o UL.o rk.o.bU);clear Ee uC;go_wp2_with fail
   go_end0
   exact bN.o
theorem a7m (c:Wc) (As An:OA) (cs m cn most:Nat) (nds:List Nd) (a d i:Nat) (keys:LN) (ha:keys.length=a) (fh:c.nx<=16) (rj:c.wm<=1000000) (mF:a+d+1=c.nx) (E7:d=0\/∃d',d=d'+1/\IJ c As An cs m cn most nds (a+1) d') (hT:CW (nds.map az) d i) :
 ∃g:Cl->List vR,nU (nds.map az) d i keys=(yR (nds.map az) i).flatMap g/\(∃n,(nds.map az)[i]? = some n/\n.lists≠[])/\∀cl∈yR (nds.map az) i,∀ (F:Nat->Prop) (Ak Ao:OA) (ck co:Nat) (fs:List Fa) (w:World),Wk c w F Ak ck keys Ao co fs->FG c As An cs m cn most nds w ->
  fs.length+(g cl).length<=c.wm->Calls Tryz.prog 132 #[.pointer (some ⟨c.gb,0,none⟩),.int .i64 (a:Nat),.agg (bQ cl)] w (CP c F keys fs (g cl) w):=by
 rcases E7 with h0 | ⟨d',h0,hN⟩
 .subst h0;refine ⟨AN none keys,rfl,hT,fun cl iS F Ak Ao ck co fs w h qE hr => ?_⟩;exact a0w c As An cs m cn most nds F Ak Ao ck co keys fs cl a (AN none keys cl) w h qE ha fh rj hr (.inl ⟨by omega,rfl⟩)
 .subst h0;obtain ⟨n,h1,h2,h3⟩:=hT;refine ⟨AN (some (nU (nds.map az) d')) keys,rfl,⟨n,h1,h2⟩,fun cl iS F Ak Ao ck co fs w h qE hr => ?_⟩;exact a0w c As An cs m cn most nds F Ak Ao ck co keys fs cl a (AN (some (nU (nds.map az) d')) keys cl) w h qE ha fh rj hr (.inr ⟨by omega,d',hN,h3 cl iS,rfl⟩)
theorem Y2 (c:Wc) (As An:OA) (cs m cn most:Nat) (nds:List Nd) (hx:1<=c.nx) (fh:c.nx<=16) (rj:c.wm<=1000000) (eE:nds.length<=1000000) (gH:∀n∈nds,za n) (hl:∀n∈nds,∀l∈n.ls,l.cs.length<=1000) (a d:Nat) (mF:a+d+1=c.nx)
 (E7:d=0\/∃d',d=d'+1/\IJ c As An cs m cn most nds (a+1) d'):IJ c As An cs m cn most nds a d:=by
 intro F Ak Ao ck co keys fs i w h qE ha hT AA;have HQ:=kp (show ∀ (xh:OA) (xi:Nat) (qC:OA) (qD:Nat) (sn:List Fa) w',sn.map pl=fs.map pl++nU (nds.map az) d i keys->Wk c w' (more F w w') xh xi keys qC qD sn->bK F w w'->CP c F keys fs (nU (nds.map az) d i keys) w (.returned (.tuple #[])) w' from fun xh xi qC qD sn w' h1 h2 h3=>⟨rfl,xh,xi,qC,qD,sn,h1,h2,h3⟩);obtain ⟨g,hg,⟨pn,iZ,av⟩,nZ⟩:=a7m c As An cs m cn most nds a d i keys ha fh rj mF E7 hT;generalize hQ:CP c F keys fs (nU (nds.map az) d i keys) w=Q at *;clear hQ E7;rw [hg] at AA HQ;have hi:i<nds.length:=by have:=(bS iZ).1;rw [lM] at this;exact this
 have KA:az (nds[i]'hi)=pn:=by rw [getElem?_map,gE hi] at iZ;injection iZ
 have oV:yR (nds.map az) i=(pn.lists[0]?).getD []:=by unfold yR;rw [iZ];rfl
 have HF:=kp h.dV;have tt:=kp h.ge;have HN:=kp (RH c.ga As An c.nx cs m cn most nds i hi w qE.box (qE.at_.more h.ge) hx eE (gH _ (gM hi)).n4 (gH _ (gM hi)).EV);have hlp:∀l∈pn.lists,l.length<=1000:=fun l ja=>by
  rw [<-KA] at ja;obtain ⟨x,hx',rfl⟩:=mem_map.1 ja;exact hl _ (gM hi) x hx'
 rw [KA] at HN;have Kj:=kp nZ;have OI:=kp AA;have G4:=kp oV;have nz:=kp av;have Hlp:=kp hlp;have Hh:=kp h;have GU:=kp qE;have Hwm:=kp rj;generalize yR (nds.map az) i=L at *;obtain ⟨⟨b0,b1,b2,b3,b4,b5⟩,bf⟩:=aa.AX h.box;clear bf b1 b2 b3 b4 b5 h qE nZ AA oV av hlp hg hT KA iZ rj ha gH hl;have adx:a<=16:=by omega
 go_enter Tryz.func94,Tryz.ntmps94;go_wp2_with fail;refine HN.o.mono ?_;rintro e w1 ⟨n',rfl,iZ,nC,a3q,ax⟩;obtain ⟨aj,nA,ls,nc,⟨key,child,⟨ac,s0,n0,x0,s1,n1,x1,s2,n2,x2⟩⟩⟩:=n';have fZ:ls.map Ll.cs=pn.lists:=by rw [<-iZ];rfl
 obtain ⟨l0,lr,rfl⟩:∃l0 lr,ls=l0::lr:=by
  cases ls with
  | nil=>exact absurd fZ.symm nz.o
  | cons x xs=>exact ⟨x,xs,rfl⟩
 have hL:l0.cs=L:=by rw [G4.o,<-fZ];rfl
 have a3r:l0.cs.length<=1000:=Hlp.o _ (by rw [<-fZ];exact mem_cons_self);obtain ⟨lA,lO,lc⟩:=l0;dsimp only at hL a3r;subst hL;have UM:=nC.each ⟨lA,lO,lc⟩ mem_cons_self;obtain ⟨bA,oA,hA,eQ,y0⟩:=Row.at_ nC.row (k:=0) (by simp);have UN:=a3q.1.2 ⟨lA,lO,lc⟩ mem_cons_self;dsimp only [bG] at hA UM UN y0 ⊢;have y0':w1.cell? ⟨bA,oA,none⟩=some (.slice lA lO.length lc):=y0;have sg:=kp UM;have Oz:=kp UN;have aM:=kp ax;have aH:=(aq w1.heap.size w1).alloc (ah _) (.cells #[.int .i64 (aj:Nat),.slice nA ((⟨lA,lO,lc⟩:Ll)::lr).length nc,.int .i64 (key:Nat),.int .i64 (child:Nat),.int .i64 ac,.int .i64 s0,.int .i64 n0,.int .i64 x0,.int .i64 s1,.int .i64 n1,.int .i64 x1,.int .i64 s2,.int .i64 n2,.int .i64 x2] 100);have iW:=kp (aa.new w1 100 #[.int .i64 (aj:Nat),.slice nA ((⟨lA,lO,lc⟩:Ll)::lr).length nc,.int .i64 (key:Nat),.int .i64 (child:Nat),.int .i64 ac,.int .i64 s0,.int .i64 n0,.int .i64 x0,.int .i64 s1,.int .i64 n1,.int .i64 x1,.int .i64 s2,.int .i64 n2,.int .i64 x2]);have aF:=kp aH;have y2:=aL aH y0';clear nC a3q fZ iZ y0 y0' UM UN ax aH HN;obtain ⟨ll,dR⟩:∃ll,((⟨lA,lO,lc⟩:Ll)::lr).length=ll:=⟨_,rfl⟩
 have aeW:(0:Int)<(ll:Int):=by rw [<-dR,length_cons];omega
 have aeX:0<ll:=by omega
 rw [dR] at iW y2 aF ⊢;clear dR;generalize dN:w1.alloc (.cells #[.int .i64 (aj:Nat),.slice nA ll nc,.int .i64 (key:Nat),.int .i64 (child:Nat),.int .i64 ac,.int .i64 s0,.int .i64 n0,.int .i64 x0,.int .i64 s1,.int .i64 n1,.int .i64 x1,.int .i64 s2,.int .i64 n2,.int .i64 x2] 100)=W2 at *;obtain ⟨d0,d1,Uz⟩:=(aa.cw iW.o).1;obtain ⟨q,hq⟩:∃q,lO.length=q:=⟨_,rfl⟩
 have Hq:=kp hq;rw [hq] at y2 a3r;rw [hA] at d1 dN;rw [hA];clear hq Uz d0 hA;go_wp2_with fail;clear dN d1 y2 b0;have adC:=kp (aM.o.trans (aF.o.mono aM.o.size));have tv:=kp ((Mt.start Hh.o).below adC.o);have DN:=kp ((sg.o.below aF.o).more aF.o.size)
 have adD:=kp (show ∀k,eo lA (lO.flatMap bT) k->¬F k from fun k ⟨av,off,e⟩ hf=>by
  have h1:=Oz.o k off e av;have h2:=(HF.o k hf).2
  omega)
 clear aM aF iW sg Oz
 go_loopw [33] (fun UO wr=>∃ (j:Nat) (xh:OA) (xi:Nat) (qC:OA) (qD:Nat) (sn:List Fa) (F':Nat->Prop),j<=q/\UO = .int .i64 (j:Nat)/\Mt c F w wr F' xh xi keys qC qD sn/\Row wr wr.heap.size lA (lO.flatMap bT)/\(∀k,eo lA (lO.flatMap bT) k->¬F' k)/\sn.map pl=fs.map pl++(lO.take j).flatMap g) (fun UO _=>q-(intOf UO).toNat)
 case atStart=>exact ⟨0,Ak,ck,Ao,co,fs,F,aZ _,rfl,tv.o,DN.o,adD.o,by simp⟩
 case round =>
  obtain ⟨j,Ak3,ck3,Ao3,co3,UP,F3,hj,rfl,hM3,Ky,a3s,a3t⟩:=hrel;have nP:=kp hM3;have a3u:=kp Ky;have adE:=kp a3s;have UQ:=kp a3t;clear hM3 Ky a3s a3t;by_cases lu:j<q
  .have fO:j<lO.length:=by rw [Hq.o];exact lu
   obtain ⟨bc,oc,zX,cU,e0,e1,e2,e3,e4,e5,e6,e7,e8,e9,Eb,Ec⟩:=rO a3u.o j fO;have NH:=Kj.o _ (gM fO);have yw:(lO.take (j+1)).flatMap g=(lO.take j).flatMap g++g (lO[j]'fO):=by rw [take_succ_eq_append_getElem fO,flatMap_append];simp
   have Ge:UP.length+(g (lO[j]'fO)).length<=c.wm:=by
    have h1:=congrArg length UQ.o;simp only [aS,lM] at h1;have h2:(lO.flatMap g).length=((lO.take (j+1)).flatMap g).length+((lO.drop (j+1)).flatMap g).length:=by
     rw [<-aS,<-flatMap_append,take_append_drop]
    rw [yw,aS] at h2;have:=OI.o;omega
   have ue:=kp yw;clear yw;generalize (lO[j]'fO)=cc at *;have sj:=(aq wr.heap.size wr).alloc (ah _) (.cells zC 98);have xg:=kp (aa.new wr 98 zC);have pI:=kp (eU (ah _) (bT cc) _ 0 sj);have iN:=kp (show aa (aK (wr.alloc (.cells zC 98)) wr.heap.size 0 (bT cc)) wr.heap.size 98 (bQ cc) from eO xg.o (bT cc) rfl);have AD:=kp (nP.o.below pI.o);have a3v:=kp ((a3u.o.below pI.o).more pI.o.size);have GW:=kp (GU.o.below (AD.o.under (fun k hk=>(HF.o k hk).1) tt.o));have ee:=kp (NH F3 Ak3 Ao3 ck3 co3 UP _ AD.o.wk GW.o Ge);generalize KR:g cc=gc at *;clear NH sj KR;obtain ⟨ck_,kD,⟨ca,zY,zZ,Ab,Ad,Ae,Ah,Ai,Aj,Aq⟩⟩:=cc;dsimp only [bQ,bT] at e0 e1 e2 e3 e4 e5 e6 e7 e8 e9 Eb Ec iN pI AD a3v GW ee;obtain ⟨rD,fD⟩:=aa.fQ xg.o;generalize nO:wr.alloc (.cells zC 98)=W8 at *;generalize yv:aK W8 wr.heap.size 0 _=W9 at *;simp only [aK,Nat.zero_add,Nat.reduceAdd] at yv;have zD:=(aa.fQ iN.o).1;obtain ⟨⟨b0,b1,b2,b3,b4,b5⟩,bf⟩:=aa.AX AD.o.wk.box;clear bf b0 b1 b2 b3 b4 nP xg;have j0:(0:Int)<=(j:Int):=by omega
   have j1:(j:Int)<(q:Int):=by omega
   have HAc:=kp zX;rw [zX];go_wp2_with fail;refine ee.o.mono ?_;rintro e yx ⟨rfl,A10,adF,adG,adH,a3w,a3x,a3y,a3z⟩;have HX:=kp (show Mt c F3 W9 yx _ _ _ _ _ _ _ from ⟨a3y,a3z,fun k hk=>hk⟩);have UR:=HX.o.row a3v.o adE.o;rw [HAc.o] at UR;have a3A:=kp UR;clear UR;have tw:=kp (AD.o.trans HX.o);have adI:=kp (show a3w.map pl=fs.map pl++(lO.take (j+1)).flatMap g by rw [a3x,UQ.o,ue.o,append_assoc]);clear a3x a3y a3z nO yv e0 e1 e2 e3 e4 e5 e6 e7 e8 e9 Eb Ec rD fD zD b5 Ge ee GW zX;go_wp2_with fail;exact ⟨⟨j+1,A10,adF,adG,adH,a3w,_,by omega,by go_num,tw.o,a3A.o.1,a3A.o.2,adI.o⟩,by simp [intOf];omega⟩
  .obtain rfl:j=q:=by omega
   have adJ:=kp (show UP.map pl=fs.map pl++lO.flatMap g by rw [UQ.o,take_of_length_le (by rw [Hq.o];exact ah _)]);have HW4:=kp (nP.o.uL HF.o tt.o);have bN:=kp (HQ.o _ _ _ _ _ _ adJ.o HW4.o nP.o.bU);go_wp2_with fail
   go_end0
   exact bN.o
section
attribute [local go_sem] EP a9b
theorem Xl (c:Wc) (As An:OA) (cs m cn most:Nat) (nds:List Nd) (hx:1<=c.nx) (fh:c.nx<=16) (rj:c.wm<=1000000) (eE:nds.length<=1000000) (gH:∀n∈nds,za n) (hl:∀n∈nds,∀l∈n.ls,l.cs.length<=1000) :
 ∀d a,a+d+1=c.nx->IJ c As An cs m cn most nds a d
 | 0,a,h=>Y2 c As An cs m cn most nds hx fh rj eE gH hl a 0 h (.inl rfl)
 | d+1,a,h=>Y2 c As An cs m cn most nds hx fh rj eE gH hl a (d+1) h (.inr ⟨d,rfl,Xl c As An cs m cn most nds hx fh rj eE gH hl d (a+1) (by omega)⟩)
def ID (out:List vR) (w:World) (e:Ending) (w':World):Prop:=∃ (A:OA) (co:Nat) (l:List Fa),e = .returned (.tuple #[.slice A l.length co,.int .i64 0])/\l.map pl=out/\cT w' w.heap.size (.slice A l.length co) l/\jK w.heap.size l/\Below w.heap.size w w'
def pM (nx:Nat) (P:List aI):List vR:=if P=[] then [] else nU P (nx-1) (P.length-1) []
theorem a9i (ga:Nat) (As An:OA) (cs m cn most wm:Nat) (xs:List Fa) (nds:List Nd) (w:World) (aJ:aa w ga 160 (im As xs.length cs m An nds.length cn most)) (hx:ep w w.heap.size As xs) (h:jH w w.heap.size An nds)
 (ej:1<=xs.length) (mw:xs.length<=16) (dg:1<=m) (hm:m<=3) (eE:nds.length<=1000000) (gH:∀n∈nds,za n) (hl:∀n∈nds,∀l∈n.ls,l.cs.length<=1000) (dv:∀x∈xs,x.keys.length<=1000)
 (hw:EZ xs.length (nds.map az)) (hT:nds≠[]->CW (nds.map az) (xs.length-1) (nds.length-1)) (rj:wm<=1000000) (AA:(pM xs.length (nds.map az)).length<=wm) :
 Calls Tryz.prog 45 #[.pointer (some ⟨ga,0,none⟩),.int .i64 (wm:Nat)] w (ID (pM xs.length (nds.map az)) w):=by
 have HQ:=kp (show ∀ (A:OA) (co:Nat) (l:List Fa) w',l.map pl=pM xs.length (nds.map az)->cT w' w.heap.size (.slice A l.length co) l->jK w.heap.size l->Below w.heap.size w w'->ID (pM xs.length (nds.map az)) w (.returned (.tuple #[.slice A l.length co,.int .i64 0])) w' from fun A co l w' h1 h2 h3 h4=>⟨A,co,l,rfl,h1,h2,h3,h4⟩);have Ea:=kp (fun W hW=>LR ga As An cs m nds.length cn most xs W (aJ.under hW) ((hx.below hW).more hW.size) ej mw (fun x hx'=>by have:=dv x hx';omega));have OB:=kp (fun W hW=>MM ga As An xs.length cs m nds.length cn most W (aJ.under hW) ej eE);have GX:=kp (fun W hW=>Q8 ga As An xs.length cs m nds.length cn most W (aJ.under hW) ej);have OK:=kp (fun W hW=>Zq ga As An xs.length cs m cn most nds W (aJ.under hW) ((h.below hW).more hW.size) ej mw eE gH hl hw)
 have HNd:=kp (fun (B gb:Nat) (GY:w.heap.size<=B) (av:nds≠[]) W (hW:Below B W W) (GZ:Below w.heap.size w W) (hk:Wk ⟨B,gb,ga,xs.length,wm⟩ W (fun k=>k=gb) none 0 [] none 0 []) =>
  Xl ⟨B,gb,ga,xs.length,wm⟩ As An cs m cn most nds ej mw rj eE gH hl (xs.length-1) 0 (by dsimp only;omega) (fun k=>k=gb) none none 0 0 [] [] (nds.length-1) W hk ⟨aJ.under GZ,dL aJ.lt GY,(h.below GZ).more GY⟩ rfl (hT av) (by
   have h1:=AA;unfold pM at h1;rw [if_neg (fun e=>av (map_eq_nil_iff.1 e)),lM] at h1
   simpa using h1))
 have hf0:nds=[]->pM xs.length (nds.map az)=[]:=fun e=>by rw [e];rfl
 have KU:nds≠[]->pM xs.length (nds.map az)=nU (nds.map az) (xs.length-1) (nds.length-1) []:=fun e=>by unfold pM;rw [if_neg (fun e'=>e (map_eq_nil_iff.1 e')),lM]
 have Hf0:=kp hf0;have OL:=kp KU;generalize hQ:ID (pM xs.length (nds.map az)) w=Q at *;generalize pM xs.length (nds.map az)=out at *;generalize nU (nds.map az) (xs.length-1) (nds.length-1) []=aeY at *;clear hQ aJ hx h gH hl dv hw hT AA hf0 KU;have q1:((m:Int) == 0)=false:=by simp;omega
 have G':=kp (Ea.o w (aq _ _));go_enter Tryz.func45,Tryz.ntmps45;go_wp2_with fail;refine G'.o.mono ?_;rintro e w1 ⟨A1,c1,y1,rfl,_,_,ax⟩;have aM:=kp ax;have tW:=kp (OK.o w1 ax);clear ax;go_wp2_with fail;refine tW.o.mono ?_;rintro e w2 ⟨rfl,aH⟩;have aF:=aR aM aH;have HL2:=kp (GX.o w2 aF.o);clear aH;go_wp2_with fail;refine HL2.o.mono ?_;rintro e w3 ⟨rfl,rfl⟩;by_cases av:nds=[]
 .have nK:nds.length=0:=by rw [av];rfl
  have q2:((nds.length:Int) == 0)=true:=by rw [nK];rfl
  have bN:=kp (HQ.o none 0 [] w3 (Hf0.o av).symm ⟨gL _ _ _ _,fun f hf=>by cases hf⟩ (fun f hf=>by cases hf) aF.o);clear av nK;go_wp2_with fail;exact bN.o
 .have sU:0<nds.length:=length_pos_iff.2 av;have q2:((nds.length:Int) == 0)=false:=by simp;exact av
  have KV:=kp (Ea.o w3 aF.o);have nz:=kp av;clear av;go_wp2_with fail;refine KV.o.mono ?_;rintro e w4 ⟨A4,c4,y4,rfl,_,Cg,cq⟩;have bH:=aR aF cq;have Ef:y4.length=xs.length:=by have:=congrArg length Cg;rw [lM,lM] at this;exact this
  rw [Ef];clear cq Cg Ef;have Kv:IntKind.i64.wrap ((xs.length:Int)-1)=(xs.length:Int)-1:=IntWalk.i64_in _ (by omega);have cV:=(aq w4.heap.size w4).alloc (ah _) (.cells #[.pointer (some ⟨ga,0,none⟩),.int .i64 ((xs.length:Int)-1),.slice none 0 0,.int .i64 (wm:Nat),.slice none 0 0,.int .i64 0] 192);have eg:=kp (aa.new w4 192 #[.pointer (some ⟨ga,0,none⟩),.int .i64 ((xs.length:Int)-1),.slice none 0 0,.int .i64 (wm:Nat),.slice none 0 0,.int .i64 0]);have bZ:=aR bH cV
  have US:=kp (show Wk ⟨w4.heap.size,w4.heap.size,ga,xs.length,wm⟩ (w4.alloc (.cells #[.pointer (some ⟨ga,0,none⟩),.int .i64 ((xs.length:Int)-1),.slice none 0 0,.int .i64 (wm:Nat),.slice none 0 0,.int .i64 0] 192)) (fun k=>k=w4.heap.size) none 0 [] none 0 [] from
   ⟨ah _,eg.o,gL _ _ _ _,⟨gL _ _ _ _,fun f hf=>by cases hf⟩,(fun f hf=>by cases hf),rfl,(fun k hk=>by cases hk),(fun k hk=>by cases hk),(fun f hf=>by cases hf),fun k hk=>by rw [hk];exact ⟨ah _,eg.o.lt⟩⟩)
  generalize yo:w4.alloc (.cells #[.pointer (some ⟨ga,0,none⟩),.int .i64 ((xs.length:Int)-1),.slice none 0 0,.int .i64 (wm:Nat),.slice none 0 0,.int .i64 0] 192)=W5 at *;have Ur:=kp (OB.o W5 bZ.o);have HN5:=kp (HNd.o w4.heap.size w4.heap.size bH.o.size nz.o W5 (aq _ _) bZ.o US.o);have OD:((nds.length-1:Nat):Int)=(nds.length:Int)-1:=by omega
  rw [OD] at HN5;clear OD cV;go_wp2_with fail;clear yo;refine Ur.o.mono ?_;rintro e w6 ⟨rfl,rfl⟩;go_wp2_with fail;refine HN5.o.mono ?_;rintro e w7 ⟨rfl,A7,GV,UI,UJ,fs7,a3B,Cf,ka⟩;have adK:=kp a3B;have UT:=kp Cf;have fE:=kp (bZ.o.trans ((ka.toBelow (B:=w4.heap.size) (fun k hk=>Nat.le_of_eq hk.symm) (Nat.le_of_lt eg.o.lt)).mono bH.o.size));clear a3B Cf ka;obtain ⟨⟨b0,b1,b2,b3,b4,b5⟩,bf⟩:=aa.AX UT.o.box;clear bf b0 b1 b2 b3;have bN:=kp (HQ.o UI UJ fs7 w7 (by rw [OL.o nz.o];exact adK.o) (UT.o.out.base bH.o.size) (fun f hf b off e av=>aT bH.o.size (UT.o.CK f hf b off e av)) fE.o);go_wp2_with fail;exact bN.o
end
def PY (s:aW) (keys:LN) (ps:List Pos) (d:Nat):Bool:=match s.ak[d]?,ps[d]?,keys[d]? with
 | some dd,some p,some k=>decide (p.dm<0)||(((iQ dd p.dm.toNat k:Nat):Int) == p.key)
 | _,_,_=>true
def a0P (s:aW) (keys:LN) (ps:List Pos) (j:Nat):Bool:=(range j).all (PY s keys ps)
def Z' (s:aW) (fs:List (LN×Ag)) (ps:List Pos) (i:Nat):Bool:=a0P s ((fs[i]?).getD ([],aO)).1 ps ps.length
def ET (s:aW) (fs:List (LN×Ag)) (ps:List Pos) (n:Nat):LN:=(range n).filter (Z' s fs ps)
structure xN (s:aW) (keys:LN):Prop where
 len:keys.length=s.ak.length
 each:∀ (d:Nat) (hd:d<s.ak.length) (hk:d<keys.length) (h0:0<(s.ak[d]'hd).aw.length),keys[d]<((s.ak[d]'hd).aw[0]'h0).aQ.length
structure mK (k:Nat) (a:Ag):Prop where
 c0:0<=a.c
 c1:a.c<=(k:Int)*1000000000
 s0 : -((k:Int)*1000000000000)<=a.s0/\a.s0<=(k:Int)*1000000000000
 s1 : -((k:Int)*1000000000000)<=a.s1/\a.s1<=(k:Int)*1000000000000
 s2 : -((k:Int)*1000000000000)<=a.s2/\a.s2<=(k:Int)*1000000000000
 fit:eX a
theorem LS:mK 0 aO:=by
 refine ⟨?_,?_,?_,?_,?_,Fe⟩<;>simp [aO]
theorem MH {j k:Nat} {a:Ag} (h:mK j a) (hk:j<=k):mK k a:=by
 obtain ⟨h0,h1,⟨h2,h3⟩,⟨h4,h5⟩,⟨h6,h7⟩,h8⟩:=h;have e:(j:Int)<=(k:Int):=by omega
 have e1:(j:Int)*1000000000<=(k:Int)*1000000000:=Int.mul_le_mul_of_nonneg_right e (by decide);have e2:(j:Int)*1000000000000<=(k:Int)*1000000000000:=Int.mul_le_mul_of_nonneg_right e (by decide);exact ⟨h0,by omega,⟨by omega,by omega⟩,⟨by omega,by omega⟩,⟨by omega,by omega⟩,h8⟩
theorem abz (A:OA) (l:List Fa) (c most:Nat) (w:World) (h:dG w w.heap.size A l) (hn:l.length<=1000000) (hm:most<=1000000) (hk:∀f∈l,f.keys.length<=1000000):Calls Tryz.prog 19 #[.slice A l.length c,.int .i64 (most:Nat)] w (eW (fun _=>True) w):=by
 have HR:=kp (fun r w' hb=>eW.mono (P:=fun _=>True) (w:=w) (r:=r) (w':=w') trivial hb);have H:=kp h;have Hk:=kp hk;generalize eW (fun _=>True) w=Q at *;clear h hk;obtain ⟨n,iM⟩:∃n,l.length=n:=⟨_,rfl⟩
 have Hn:=kp iM;rw [iM] at hn ⊢;clear iM;go_enter Tryz.func19,Tryz.ntmps19;go_wp2_with fail
 go_loopw [5,6] (fun v5 v6 wr=>∃ (k:Nat) (x:Int),k<=n/\v5 = .int .i64 x/\v6 = .int .i64 (k:Nat)/\wr=w) (fun _ v6 _=>n-(intOf v6).toNat)
 case atStart=>exact ⟨0,0,aZ _,rfl,rfl,rfl⟩
 case round =>
  obtain ⟨k,x,hk,rfl,rfl,rfl⟩:=hrel;by_cases ae:k<n
  .have aA:k<l.length:=by rw [Hn.o];exact ae
   obtain ⟨b,off,hA,hb,c0,adL⟩:=dG.cells H.o k aA;have qf:=Hk.o _ (gM aA);clear adL;generalize (l[k]'aA).keys.length=kl at *;generalize (l[k]'aA).A=kA at *;generalize (l[k]'aA).c=kc at *;have dz:(0:Int)<=(k:Int):=by omega
   have df:(k:Int)<(n:Int):=by omega
   have q1:decide ((k:Int)<(n:Int))=true:=decide_eq_true df;rw [hA];by_cases KW:k<=most
   .have q2:(k:Int)<=(most:Int):=by omega
    have kz:decide ((k:Int)<=(most:Int))=true:=decide_eq_true q2;have zH:decide (k<=most)=true:=decide_eq_true KW;go_wp2_with fail
    all_goals exact ⟨⟨k+1,_,by omega,rfl,by go_num,trivial⟩,by simp [intOf];omega⟩
   .have q2:¬ (k:Int)<=(most:Int):=by omega
    have kz:decide ((k:Int)<=(most:Int))=false:=decide_eq_false q2;have zH:decide (k<=most)=false:=decide_eq_false KW;go_wp2_with fail
    all_goals exact HR.o _ _ (aq _ _)
  .obtain rfl:k=n:=by omega
   go_wp2_with fail
   all_goals exact HR.o _ _ (aq _ _)
def sD (a:Ag):Prop:=a.c<=1000000000/\∀i,i<3 -> -1000000000000<=ps a i/\ps a i<=1000000000000
theorem a9k (A:OA) (l:List Fa) (c:Nat) (w:World) (h:dG w w.heap.size A l) (hn:l.length<=1000000) (hk:∀f∈l,f.keys.length<=1000000):Calls Tryz.prog 5 #[.slice A l.length c] w (eW (fun r=>r=true->∀f∈l,sD f.ag) w):=by
 have HR:=kp (fun r w' h hb=>eW.mono (P:=fun r=>r=true->∀f∈l,sD f.ag) (w:=w) (r:=r) (w':=w') h hb);have H:=kp h;have HFw:=kp (fun W (hW:Below w.heap.size w W)=>abz A l c 1000 W ((h.below hW).more hW.size) hn (by omega) hk);generalize eW (fun r=>r=true->∀f∈l,sD f.ag) w=Q at *;clear h hk;obtain ⟨n,iM⟩:∃n,l.length=n:=⟨_,rfl⟩
 have Hn:=kp iM;rw [iM] at hn HFw ⊢;clear iM;go_enter Tryz.func5,Tryz.ntmps5;go_wp2_with fail
 go_loopw [8] (fun v8 wr=>∃ (k:Nat),k<=n/\v8 = .int .i64 (k:Nat)/\(∀ (i:Nat) (hi:i<l.length),i<k->sD l[i].ag)/\Below w.heap.size w wr) (fun v8 _=>n-(intOf v8).toNat)
 case atStart=>exact ⟨0,aZ _,rfl,fun i hi h=>by omega,aq _ _⟩
 case round =>
  obtain ⟨k,hk,rfl,hwd,aC⟩:=hrel;have Hwd:=kp hwd;have ai:=kp aC;clear hwd aC;by_cases ae:k<n
  .have aA:k<l.length:=by rw [Hn.o];exact ae
   obtain ⟨b,off,hA,hb,c0,c1,c2,c3,c4,c5,c6,c7,c8,c9,iw⟩:=dG.cells ((H.o.below ai.o).more ai.o.size) k aA
   have dw:=kp (show sD (l[k]'aA).ag->∀ (i:Nat) (hi:i<l.length),i<k+1->sD l[i].ag from fun hw i hi oR=>by
    rcases Nat.lt_succ_iff_lt_or_eq.1 oR with h1 | rfl
    .exact Hwd.o i hi h1
    .exact hw)
   generalize (l[k]'aA)=f at *;obtain ⟨fA,OM,fc,ag⟩:=f;have aN:=(aq wr.heap.size wr).alloc (ah _) (.cells (eB ⟨fA,OM,fc,ag⟩) 56);have bM:=kp (aa.new wr 56 (eB ⟨fA,OM,fc,ag⟩));have bC:=aR ai aN;clear aN;dsimp only [eB] at bM bC c0 c1 c2 c3 c4 c5 c6 c7 c8 c9 iw dw;have dz:(0:Int)<=(k:Int):=by omega
   have df:(k:Int)<(n:Int):=by omega
   have HP:=kp (show ∀i,i<3->∃x,x=ps ag i/\(wr.alloc (.cells #[.slice fA OM.length fc,.int .i64 ag.c,.int .i64 ag.s0,.int .i64 ag.n0,.int .i64 ag.x0,.int .i64 ag.s1,.int .i64 ag.n1,.int .i64 ag.x1,.int .i64 ag.s2,.int .i64 ag.n2,.int .i64 ag.x2] 56)).cell? ⟨wr.heap.size,2+i*3,none⟩=some (.int .i64 x) from fun i hi=>by
    match i,hi with
    | 0,_=>exact ⟨_,rfl,bM.o.cell 2⟩
    | 1,_=>exact ⟨_,rfl,bM.o.cell 5⟩
    | 2,_=>exact ⟨_,rfl,bM.o.cell 8⟩)
   generalize dH:wr.alloc (.cells #[.slice fA OM.length fc,.int .i64 ag.c,.int .i64 ag.s0,.int .i64 ag.n0,.int .i64 ag.x0,.int .i64 ag.s1,.int .i64 ag.n1,.int .i64 ag.x1,.int .i64 ag.s2,.int .i64 ag.n2,.int .i64 ag.x2] 56)=W3 at *;have y1:W3.cell? ⟨wr.heap.size,1,none⟩=some (.int .i64 ag.c):=bM.o.cell 1;rw [hA];by_cases UU:1000000000<ag.c
   .have q1:decide (1000000000<ag.c)=true:=decide_eq_true UU;go_wp2_with fail;exact HR.o false _ (fun h=>by cases h) bC.o
   .have q1:decide (1000000000<ag.c)=false:=decide_eq_false UU;have Hc9:=kp (show ag.c<=1000000000 by omega);clear UU;go_wp2_with fail;clear dH c0 c1 c2 c3 c4 c5 c6 c7 c8 c9 iw
    go_loopw [16] (fun DL wj=>∃ (j:Nat),j<=3/\DL = .int .i64 (j:Nat)/\(∀i,i<j -> -1000000000000<=ps ag i/\ps ag i<=1000000000000)/\wj=W3) (fun DL _=>3-(intOf DL).toNat)
    case atStart=>exact ⟨0,aZ _,rfl,fun i hi=>by omega,rfl⟩
    case round =>
     obtain ⟨j,hj,rfl,E5,rfl⟩:=hrel;have Hps:=kp E5;clear E5;by_cases hj3:j<3
     .obtain ⟨x,hx,Eg⟩:=HP.o j hj3
      have ux:=kp (show (-1000000000000<=x/\x<=1000000000000)->∀i,i<j+1 -> -1000000000000<=ps ag i/\ps ag i<=1000000000000 from fun h i hi=>by
       rcases Nat.lt_succ_iff_lt_or_eq.1 hi with h1 | rfl
       .exact Hps.o i h1
       .rw [<-hx];exact h)
      clear hx;have j0:(0:Int)<=(j:Int):=by omega
      have j1:(j:Int)<3:=by omega
      by_cases sd:1000000000000<x
      .have q2:decide (1000000000000<x)=true:=decide_eq_true sd;go_wp2_with fail;exact HR.o false _ (fun h=>by cases h) bC.o
      .have q2:decide (1000000000000<x)=false:=decide_eq_false sd;by_cases tf:x < -1000000000000
       .have q3:decide (x < -1000000000000)=true:=decide_eq_true tf;go_wp2_with fail;exact HR.o false _ (fun h=>by cases h) bC.o
       .have q3:decide (x < -1000000000000)=false:=decide_eq_false tf;have adM:=kp (ux.o ⟨by omega,by omega⟩);clear sd tf;go_wp2_with fail;exact ⟨⟨j+1,by omega,by go_num,adM.o,trivial⟩,by simp [intOf];omega⟩
     .obtain rfl:j=3:=by omega
      have Di:=kp (dw.o ⟨Hc9.o,Hps.o⟩);go_wp2_with fail;exact ⟨⟨k+1,by omega,by go_num,Di.o,bC.o⟩,by simp [intOf];omega⟩
  .obtain rfl:k=n:=by omega
   have Eh:=kp (HFw.o wr ai.o)
   have qX:=kp (show ∀f∈l,sD f.ag from fun f hf=>by
    obtain ⟨i,hi,rfl⟩:=getElem_of_mem hf
    exact Hwd.o i hi (by have:=Hn.o;omega))
   by_cases a3C:k<=1000
   .have q1:(k:Int)<=1000:=by omega
    have jg:decide ((k:Int)<=1000)=true:=decide_eq_true q1;have DU:decide (k<=1000)=true:=decide_eq_true a3C;go_wp2_with fail;refine Eh.o.mono ?_;rintro e w2 ⟨r,rfl,_,aH⟩;have Hf:=kp (HR.o r w2 (fun _=>qX.o) (ai.o.trans (aH.mono ai.o.size)));go_wp2_with fail;exact Hf.o
   .have q1:¬ (k:Int)<=1000:=by omega
    have jg:decide ((k:Int)<=1000)=false:=decide_eq_false q1;have DU:decide (k<=1000)=false:=decide_eq_false a3C;have Hf:=kp (HR.o false wr (fun h=>by cases h) ai.o);go_wp2_with fail;exact Hf.o
theorem a6H (s:aW) (A:OA) (rows:List Rw) (c ak most:Nat) (w:World) (h:gW w w.heap.size s) (hr:j6 w w.heap.size A rows) (hd:ak<=1000000) (hm:most<=1000000) :
 Calls Tryz.prog 4 #[.agg (cj s),.slice A rows.length c,.int .i64 (ak:Nat),.int .i64 (most:Nat)] w (eW (fun r=>r=true->qI s rows/\s.ak.length<=ak/\rows.length<=most) w):=by
 have HR:=kp (fun r w' h hb=>eW.mono (P:=fun r=>r=true->qI s rows/\s.ak.length<=ak/\rows.length<=most) (w:=w) (r:=r) (w':=w') h hb);have hsn:=h.n;have vc:=hr.n;have au:=(aq w.heap.size w).alloc (ah _) (.cells (cj s) 25);have HB:=kp (aa.new w 25 (cj s));have H1:=kp (fun W (hW:Below w.heap.size w W)=>a9z s W ((h.below hW).more hW.size));have H2:=kp (fun W (hW:Below w.heap.size w W)=>aaZ A rows c W ((hr.below hW).more hW.size));have H3:=kp (fun W (hW:Below w.heap.size w W)=>a5V s A rows c W ((h.below hW).more hW.size) ((hr.below hW).more hW.size));have ay:=kp au;generalize eW (fun r=>r=true->qI s rows/\s.ak.length<=ak/\rows.length<=most) w=Q at *;unfold maxLen at hsn vc;clear h hr au;obtain ⟨nd,da⟩:∃nd,s.ak.length=nd:=⟨_,rfl⟩
 obtain ⟨nr,Tq⟩:∃nr,rows.length=nr:=⟨_,rfl⟩
 unfold cj at HB H1 H3 ay ⊢;rw [da] at HB H1 H3 ay hsn HR ⊢;rw [Tq] at H2 H3 vc HR ⊢;clear da Tq;obtain ⟨z0,z1,_,_⟩:=HB.o.two;generalize dj:w.alloc (.cells #[.slice s.A nd s.c,.slice s.Am s.aU.length s.cm] 25)=W0 at *;by_cases h1:nd<=ak
 .have q1:(nd:Int)<=(ak:Int):=by omega
  have jg:decide ((nd:Int)<=(ak:Int))=true:=decide_eq_true q1;have DU:decide (nd<=ak)=true:=decide_eq_true h1;by_cases h2:nr<=most
  .have q2:(nr:Int)<=(most:Int):=by omega
   have kz:decide ((nr:Int)<=(most:Int))=true:=decide_eq_true q2;have zH:decide (nr<=most)=true:=decide_eq_true h2;have HH1:=kp (H1.o W0 ay.o);go_enter Tryz.func4,Tryz.ntmps4;go_wp2_with fail;refine HH1.o.mono ?_;clear dj z0 z1;rintro e w1 ⟨r1,rfl,_,ax⟩;have aM:=aR ay ax;have bL:=bu HB ax;have UW:=kp (H2.o w1 aM.o);obtain ⟨z0,z1,_,_⟩:=bL.o.two;cases r1 with
   | false =>
    have Hf:=kp (HR.o false w1 (fun h=>by cases h) aM.o);go_wp2_with fail;exact Hf.o
   | true =>
    go_wp2_with fail;refine UW.o.mono ?_;rintro e w2 ⟨r2,rfl,_,aH⟩;have aF:=aR aM aH;have aV:=bu bL aH;have UX:=kp (H3.o w2 aF.o);clear z0 z1;obtain ⟨z0,z1,_,_⟩:=aV.o.two;cases r2 with
    | false =>
     have Hf:=kp (HR.o false w2 (fun h=>by cases h) aF.o);go_wp2_with fail;exact Hf.o
    | true =>
     go_wp2_with fail;refine UX.o.mono ?_;rintro e w3 ⟨r3,rfl,uZ,aN⟩;obtain ⟨b3,a3D⟩:∃b3,(r3 == (0:Int))=b3:=⟨_,rfl⟩
     have Hf:=kp (HR.o b3 w3 (fun h=>⟨uZ (by rw [h] at a3D;simpa using a3D),h1,h2⟩) (aF.o.trans (aN.mono aF.o.size)));clear uZ;go_wp2_with fail;exact Hf.o
  .have q2:¬ (nr:Int)<=(most:Int):=by omega
   have kz:decide ((nr:Int)<=(most:Int))=false:=decide_eq_false q2;have zH:decide (nr<=most)=false:=decide_eq_false h2;have Hf:=kp (HR.o false W0 (fun h=>by cases h) ay.o);go_enter Tryz.func4,Tryz.ntmps4;go_wp2_with fail;exact Hf.o
 .have q1:¬ (nd:Int)<=(ak:Int):=by omega
  have jg:decide ((nd:Int)<=(ak:Int))=false:=decide_eq_false q1;have DU:decide (nd<=ak)=false:=decide_eq_false h1;have Hf:=kp (HR.o false W0 (fun h=>by cases h) ay.o);go_enter Tryz.func4,Tryz.ntmps4;go_wp2_with fail;exact Hf.o
def Ma (d:cR) (p:Pos):Prop:=(p.dm = -1/\p.key=0)\/∃ (t q:Nat) (ht:t<d.aw.length),p.dm=(t:Int)/\p.key=(q:Int)/\q<(d.aw[t]'ht).aQ.length
def Qa (s:aW) (ps:List Pos):Prop:=∀ (i:Nat) (d:cR) (p:Pos),s.ak[i]? = some d->ps[i]? = some p->Ma d p
end Go.Proofs.YtjopcamkclndlaaGreat.Tc
