/- Parts of a proof. -/
import Derived.Test.YtjopcamkclndlaaGreatH008
set_option linter.unusedVariables false
set_option linter.unusedSimpArgs false
set_option maxRecDepth 100000
set_option maxHeartbeats 8000000
namespace Go.Proofs.YtjopcamkclndlaaGreat.Base
open List Go.RowKit
structure Over (B:Nat) (w w':World):Prop where
 size:w.heap.size<=w'.heap.size
 block:∀k,B<=k->k<w.heap.size->w'.heap[k]? = w.heap[k]?
theorem Over.trans {B:Nat} {a b c:World} (h:Over B a b) (k:Over B b c):Over B a c :=
 ⟨Nat.le_trans h.size k.size,fun i h1 h2=>(k.block i h1 (Nat.lt_of_lt_of_le h2 h.size)).trans (h.block i h1 h2)⟩
theorem Over.under {B:Nat} {a b:World} (h:Below a.heap.size a b):Over B a b:=⟨h.size,fun i _ h2=>h.block i h2⟩
end Go.Proofs.YtjopcamkclndlaaGreat.Base
namespace Go.Proofs.YtjopcamkclndlaaGreat.Tc
open List Go.RowKit Base
def uT (w:World) (v:Value) (n:Nd):Prop:=Ap w v n.A (n.ls.map fi)/\∀l∈n.ls,Ap w v l.A (l.cs.flatMap bT)
theorem uT.app {wr w':World} {v v':Value} {n:Nd} (h:uT wr v n) (ha:App wr w' v v'):uT w' v' n:=⟨h.1.app ha,fun l hl=>(h.2 l hl).app ha⟩
theorem uT.below {w w':World} {v:Value} {n:Nd} (h:uT w v n) (hb:Below w.heap.size w w'):uT w' v n:=⟨h.1.below hb,fun l hl=>(h.2 l hl).below hb⟩
theorem PO {w:World} {v:Value} {A:OA} {vs:LV} {B:Nat} (hr:Row w w.heap.size A vs) (hf:kh B A vs) (hv:∀k,v.ownBlock=some k->k<B):Ap w v A vs :=
 ⟨hr,fun b off e av hh=>by have h1:=hv b hh;have h2:=hf b off e av;omega⟩
theorem uT.new {w:World} {v:Value} {n:Nd} {B:Nat} (h:dp w w.heap.size n) (hf:kb B n) (hv:∀k,v.ownBlock=some k->k<B):uT w v n:=⟨PO h.row hf.1 hv,fun l hl=>PO (h.each l hl) (hf.2 l hl) hv⟩
theorem kb.less {B B':Nat} {n:Nd} (h:kb B n) (hB:B'<=B):kb B' n:=⟨h.1.less hB,fun l hl=>(h.2 l hl).less hB⟩
def iR (w:World) (B:Nat) (v:Value) (nds:List Nd):Prop:=w.ownsRow B 100 14 v nds.length (nds.flatMap dJ)/\∀n∈nds,uT w v n/\kb B n
theorem iR.nil (w:World) (B:Nat):iR w B (.slice none 0 0) []:=⟨gL _ _ _ _,fun x hx=>by cases hx⟩
theorem Zp {w w':World} {B:Nat} {e:TypeId} {sz n:Nat} {v:Value} {xs:LV} (h:w.ownsRow B e sz v n xs) (ho:Over B w w'):w'.ownsRow B e sz v n xs:=by
 obtain ⟨h1,h2⟩:=h;refine ⟨h1,?_⟩;rcases h2 with h2 | ⟨g,cap,cur,e,hB,hh,r⟩
 .exact .inl h2
 .exact .inr ⟨g,cap,cur,e,hB,(ho.block g hB (Array.getElem?_eq_some_iff.1 hh).1).trans hh,r⟩
theorem Zl {w w':World} {B:Nat} {v:Value} {A:OA} {vs:LV} (h:Ap w v A vs) (hf:kh B A vs) (ho:Over B w w'):Ap w' v A vs:=by
 refine ⟨(yJ h.1 (fun b off e av=>ho.block b (hf b off e av) ?_)).more ho.size,h.2⟩;rcases h.1 with h0 | ⟨b',jy,e',hb,_⟩
 .exact absurd h0 av
 .rw [e] at e';injection e' with e'
  injection e' with e1 _ _
  omega
theorem iR.yS {w w':World} {B:Nat} {v:Value} {nds:List Nd} (h:iR w B v nds) (ho:Over B w w'):iR w' B v nds :=
 ⟨Zp h.1 ho,fun n hn=>⟨⟨Zl (h.2 n hn).1.1 (h.2 n hn).2.1 ho,fun l hl=>Zl ((h.2 n hn).1.2 l hl) ((h.2 n hn).2.2 l hl) ho⟩,(h.2 n hn).2⟩⟩
theorem iR.below {w w':World} {B:Nat} {v:Value} {nds:List Nd} (h:iR w B v nds) (hb:Below w.heap.size w w'):iR w' B v nds:=⟨eV h.1 hb,fun n hn=>⟨(h.2 n hn).1.below hb,(h.2 n hn).2⟩⟩
theorem iR.app {w w':World} {B n c n' c':Nat} {A A':OA} {nds:List Nd} {x:Nd} (h:iR w B (.slice A n c) nds) (hx:uT w (.slice A n c) x) (hf:kb B x)
 (ho:w'.ownsRow B 100 14 (.slice A' n' c') (n+1) (nds.flatMap dJ++dJ x)) (ha:App w w' (.slice A n c) (.slice A' n' c')) (hn:nds.length=n):iR w' B (.slice A' n' c') (nds++[x]):=by
 refine ⟨?_,fun y hy => ?_⟩
 .rw [aS,hn,flatMap_append,flatMap_cons,flatMap_nil,append_nil];exact ho
 .rcases mem_append.1 hy with hy | hy
  .exact ⟨(h.2 y hy).1.app ha,(h.2 y hy).2⟩
  .rw [mem_singleton.1 hy];exact ⟨hx.app ha,hf⟩
theorem iR.at_ {w:World} {B n c:Nat} {A:OA} {nds:List Nd} (h:iR w B (.slice A n c) nds):jH w w.heap.size A nds:=by
 obtain ⟨A',c',e⟩:=eM h.1;injection e with e1 e2 e3
 subst e1 e2 e3;exact ⟨gV h.1,fun x hx=>⟨(h.2 x hx).1.1.1,fun l hl=>((h.2 x hx).1.2 l hl).1⟩⟩
abbrev im (As:OA) (nx cs m:Nat) (An:OA) (nn cn most:Nat):AV:=#[.slice As nx cs,.int .i64 (m:Nat),.slice An nn cn,.int .i64 (most:Nat)]
theorem Fy (ga:Nat) (As An:OA) (nx cs m nn cn most:Nat) (w:World) (h:aa w ga 160 (im As nx cs m An nn cn most)) (hx:1<=nx) :
 Calls Tryz.prog 79 #[.pointer (some ⟨ga,0,none⟩)] w fun e w'=>e = .returned (.bool true)/\w=w':=by
 obtain ⟨⟨a0,a1,a2,a3⟩,_⟩:=aa.four h;have q1:(0:Int)<(nx:Int):=by omega
 have jg:decide ((0:Int)<(nx:Int))=true:=decide_eq_true q1;have DU:decide (0<nx)=true:=decide_eq_true (by omega);clear h;go_enter Tryz.func79,Tryz.ntmps79;go_wp2_with fail;go_ret;exact ⟨rfl,rfl⟩
theorem aaH (ga gp gn:Nat) (As An:OA) (nx cs m nn cn most aj:Nat) (nv:AV) (x:Cl) (b off d1:Nat) (w:World) (h:aa w ga 160 (im As nx cs m An nn cn most))
 (hp:w.cell? ⟨gp,0,none⟩=some (.pointer (some ⟨ga,0,none⟩))) (nK:w.cell? ⟨gn,0,none⟩=some (.int .i64 (aj:Nat))) (hA:An=some ⟨b,off,none⟩) (hc:x.child<nn) (hn:nn<=1000000) (hd:aj<=1000000) (uu:w.cell? ⟨b,off+x.child*14,none⟩=some (.int .i64 ((aj+1:Nat):Int))) :
 Calls Tryz.prog 154 #[.agg (bQ x),.pointer (some ⟨gp,0,none⟩),.pointer (some ⟨gn,0,none⟩)] w fun e w'=>e = .returned (.bool true)/\Below w.heap.size w w':=by
 obtain ⟨key,child,ag⟩:=x;dsimp only at hc uu;subst hA;have au:=(aq w.heap.size w).alloc (ah _) (.cells (bQ ⟨key,child,ag⟩) 98);have HB:=kp (aa.new w 98 (bQ ⟨key,child,ag⟩));have a2:=((aa.four (h.under au)).1).2.2.1;have p0:=aL au hp;have n0:=aL au nK;have c0:=aL au uu;have ay:=kp au;have y1:=HB.o.cell 1;change _=some (Value.int .i64 ((child:Nat):Int)) at y1;clear hp nK uu au h;have q1:(child:Int)<(nn:Int):=by omega
 have jg:decide ((child:Int)<(nn:Int))=true:=decide_eq_true q1;have q2:(0:Int)<=(child:Int):=by omega
 have hw:IntKind.i64.wrap ((aj:Int)+1)=(aj:Int)+1:=IntWalk.i64_in _ (by omega);have q4:(((aj:Int)+1) == (aj:Int)+1)=true:=by simp
 go_enter Tryz.func154,Tryz.ntmps154;go_upto_region 1 with fail
 generalize w.alloc (.cells (bQ ⟨key,child,ag⟩) 98)=W0 at *;refine wp_region_noPanic ?_;refine dt (t:=99) (S:=(fun w'=>w'.cell? ⟨w.heap.size,1,none⟩=some (.int .i64 (child:Nat))/\w'.cell? ⟨gp,0,none⟩=some (.pointer (some ⟨ga,0,none⟩))/\w'.cell? ⟨ga,2,none⟩=some (.slice (some ⟨b,off,none⟩) nn cn)/\w'.cell? ⟨b,off+child*14,none⟩=some (.int .i64 ((aj+1:Nat):Int))/\w'.cell? ⟨gn,0,none⟩=some (.int .i64 (aj:Nat)))) (by kernel_rfl) ⟨y1,p0,a2,c0,n0⟩ (fun ad => ?_);refine tD 0 1 2 3 ad ?_;refine tD 4 5 6 7 ad ?_;refine tD 8 9 10 11 ad ?_;refine tD 12 13 14 15 ad ?_;refine tD 16 17 18 19 ad ?_;refine tD 20 21 22 23 ad ?_;refine dY (by kernel_rfl) ?_ _
 try clear ad
 refine NoPanic.normal ?_;go_wp2_with fail;go_ret;exact ⟨rfl,ay.o.drew⟩
def Bf (n:Nd):List Cl:=n.ls.flatMap Ll.cs++[n.all]
def ZJ (nds:List Nd) (n:Nd):Prop:=∀c∈Bf n,∃x,nds[c.child]? = some x/\x.aj=n.aj+1
theorem a7e (ga:Nat) (As An:OA) (nx cs m cn most:Nat) (nds:List Nd) (n:Nd) (w:World) (h:aa w ga 160 (im As nx cs m An nds.length cn most)) (hr:Row w w.heap.size An (nds.flatMap dJ)) (da:dp w w.heap.size n)
 (sd:1<=nx) (tf:nx<=16) (hd:n.aj<=1000000) (eE:nds.length<=1000000) (fw:n.ls.length<=4) (hl:∀l∈n.ls,l.cs.length<=1000) (ho:n.aj+1=nx\/ZJ nds n) :
 Calls Tryz.prog 123 #[.pointer (some ⟨ga,0,none⟩),.agg (bG n)] w fun e w'=>e = .returned (.bool true)/\Below w.heap.size w w':=by
 obtain ⟨aj,nA,ls,nc,key,child,ac,s0,n0,x0,s1,n1,x1,s2,n2,x2⟩:=n;have HE:=kp (fun w h=>J3 ⟨aj,nA,ls,nc,key,child,ac,s0,n0,x0,s1,n1,x1,s2,n2,x2⟩ w h fw hl)
 have lz:=kp (show (Bf ⟨aj,nA,ls,nc,key,child,ac,s0,n0,x0,s1,n1,x1,s2,n2,x2⟩).length<=5001 by
  have h1:=count_le hl ls.length;dsimp only at h1 fw;rw [take_of_length_le (ah _)] at h1;unfold Bf;rw [aS,R7];simp only [length_cons,length_nil]
  omega)
 have a2s:=kp (show aj+1=nx\/∀c∈Bf ⟨aj,nA,ls,nc,key,child,ac,s0,n0,x0,s1,n1,x1,s2,n2,x2⟩,∃x,nds[c.child]? = some x/\x.aj=aj+1 from ho);have Gh:=kp (show ∀w,dp w w.heap.size ⟨aj,nA,ls,nc,key,child,ac,s0,n0,x0,s1,n1,x1,s2,n2,x2⟩->Calls Tryz.prog 81 #[.agg (bG ⟨aj,nA,ls,nc,key,child,ac,s0,n0,x0,s1,n1,x1,s2,n2,x2⟩)] w (xG (Bf ⟨aj,nA,ls,nc,key,child,ac,s0,n0,x0,s1,n1,x1,s2,n2,x2⟩) w) from HE.o);clear HE ho hl;generalize Bf ⟨aj,nA,ls,nc,key,child,ac,s0,n0,x0,s1,n1,x1,s2,n2,x2⟩=cl at *;have HL:=kp (fun w=>AR As nx cs m aj w (by omega) (by omega) hd);have HAh:=kp aaH;generalize hQ:(fun (e:Ending) w'=>e = .returned (.bool true)/\Below w.heap.size w w')=Q;have HQ:=kp (show ∀w',Below w.heap.size w w'->Q (.returned (.bool true)) w' from fun w' hb=>by rw [<-hQ];exact ⟨rfl,hb⟩);clear hQ;dsimp only at hd;dsimp only [bG] at Gh ⊢;obtain ⟨lx,dr⟩:∃lx,ls.length=lx:=⟨_,rfl⟩
 rw [dr] at Gh ⊢;clear dr fw;obtain ⟨nn,zM⟩:∃nn,nds.length=nn:=⟨_,rfl⟩
 have vq:=kp zM;rw [zM] at eE h;clear zM;have ax:=(aq w.heap.size w).alloc (ah _) (.cells #[.pointer (some ⟨ga,0,none⟩)] 36);have lD:=aa.new w 36 #[.pointer (some ⟨ga,0,none⟩)];have gv:(w.alloc (.cells #[.pointer (some ⟨ga,0,none⟩)] 36)).heap.size=w.heap.size+1:=by simp
 have aH:=ax.alloc ax.size (.cells #[.int .i64 (aj:Nat),.slice nA lx nc,.int .i64 (key:Nat),.int .i64 (child:Nat),.int .i64 ac,.int .i64 s0,.int .i64 n0,.int .i64 x0,.int .i64 s1,.int .i64 n1,.int .i64 x1,.int .i64 s2,.int .i64 n2,.int .i64 x2] 100);have a2t:=lD.alloc (.cells #[.int .i64 (aj:Nat),.slice nA lx nc,.int .i64 (key:Nat),.int .i64 (child:Nat),.int .i64 ac,.int .i64 s0,.int .i64 n0,.int .i64 x0,.int .i64 s1,.int .i64 n1,.int .i64 x1,.int .i64 s2,.int .i64 n2,.int .i64 x2] 100);have qW:=aa.lay (w:=w.alloc (.cells #[.pointer (some ⟨ga,0,none⟩)] 36)) (t:=100) (cs:=#[.int .i64 (aj:Nat),.slice nA lx nc,.int .i64 (key:Nat),.int .i64 (child:Nat),.int .i64 ac,.int .i64 s0,.int .i64 n0,.int .i64 x0,.int .i64 s1,.int .i64 n1,.int .i64 x1,.int .i64 s2,.int .i64 n2,.int .i64 x2]) gv;generalize dj:(w.alloc (.cells #[.pointer (some ⟨ga,0,none⟩)] 36)).alloc (.cells #[.int .i64 (aj:Nat),.slice nA lx nc,.int .i64 (key:Nat),.int .i64 (child:Nat),.int .i64 ac,.int .i64 s0,.int .i64 n0,.int .i64 x0,.int .i64 s1,.int .i64 n1,.int .i64 x1,.int .i64 s2,.int .i64 n2,.int .i64 x2] 100)=W0 at *;have re:=kp a2t;have iW:=kp qW;have ay:=kp aH;have oD:=kp (h.under (aH.mono (ah _)));have sg:=kp ((hr.below aH).more aH.size);have ym:=kp ((da.below aH).more aH.size);have pw:ga<W0.heap.size:=oD.o.lt;clear ax lD gv aH a2t qW h hr da;obtain ⟨⟨a0,a1,a2,a3⟩,_⟩:=aa.four oD.o;obtain ⟨p0,_⟩:=re.o.one;obtain ⟨d0,d1,d2,d3,d4,d5,d6,d7,d8,d9,dB,dC,gB,iF⟩:=(aa.cw iW.o).1;go_enter Tryz.func123,Tryz.ntmps123;go_upto_region 1 with fail
 clear dj;have zO:w.heap.size<W0.heap.size:=re.o.lt;have Tz:w.heap.size+1<W0.heap.size:=iW.o.lt;refine wp_region_noPanic ?_;refine dt (t:=99) (S:=(fun w'=>w'.cell? ⟨w.heap.size,0,none⟩=some (.pointer (some ⟨ga,0,none⟩))/\w'.cell? ⟨ga,0,none⟩=some (.slice As nx cs)/\w'.cell? ⟨ga,1,none⟩=some (.int .i64 (m:Nat))/\w'.cell? ⟨w.heap.size+1,0,none⟩=some (.int .i64 (aj:Nat)))) (by kernel_rfl) ⟨p0,a0,a1,d0⟩ (fun ad => ?_);refine tD 0 1 2 3 ad ?_;refine tB 4 5 ad ?_;refine oT 6 fun K hK=>?_
 go_simp
 refine (HL.o W0.drew).mono ?_;rintro e wc ⟨rfl,cU⟩;have bh:=kp (show Below W0.heap.size W0 wc from (aq _ _).drew.trans cU);clear cU;refine oK hK ?_ fun af=>?_
 .exact ⟨aL bh.o p0,aL bh.o a0,aL bh.o a1,aL bh.o d0⟩
 replace ad:=af;clear hK K af;refine dY (by kernel_rfl) ?_ _
 try clear ad
 refine NoPanic.normal ?_;have iI:=kp (ay.o.trans (bh.o.mono ay.o.size));have acP:=kp (re.o.under bh.o);have a2u:=kp (iW.o.under bh.o);have TA:=kp (oD.o.under bh.o);have acQ:=kp ((sg.o.below bh.o).more bh.o.size);have acR:=kp ((ym.o.below bh.o).more bh.o.size);clear p0 a0 a1 a2 a3 d0 d1 d2 d3 d4 d5 d6 d7 d8 d9 dB dC gB iF re iW oD sg ym bh zO Tz pw;by_cases kU:aj+1=nx
 .rw [decide_eq_true kU];have Hf:=kp (HQ.o _ iI.o);go_wp2_with fail;exact Hf.o
 .have ug:=kp (a2s.o.resolve_left kU);rw [decide_eq_false kU];clear a2s;obtain ⟨d0,d1,d2,d3,d4,d5,d6,d7,d8,d9,dB,dC,gB,iF⟩:=(aa.cw a2u.o).1;have Kx:=kp (Gh.o wc acR.o);go_wp2_with fail;refine Kx.o.mono ?_;rintro e w2 ⟨v2,rfl,gz,aH⟩;obtain ⟨A2,c2,rfl⟩:=eM gz;have fK:=kp (gV gz);have aF:=aR iI aH;have acS:=bu acP aH;have DV:=bu a2u aH;have BJ:=bu TA aH;have DN:=kp ((acQ.o.below aH).more aH.size);have Tj:=lz.o;obtain ⟨k0,td⟩:∃k0,cl.length=k0:=⟨_,rfl⟩
  have yi:=kp td;rw [td] at Tj ⊢;clear td gz aH d0 d1 d2 d3 d4 d5 d6 d7 d8 d9 dB dC gB iF;go_wp2_with fail
  go_loopw [19] (fun DW wr=>∃k:Nat,k<=k0/\DW = .int .i64 k/\Below w2.heap.size w2 wr) (fun DW _=>k0-(intOf DW).toNat)
  case atStart=>exact ⟨0,aZ _,rfl,aq _ _⟩
  case round =>
   obtain ⟨k,hk,rfl,aC⟩:=hrel;have ai:=kp aC;clear aC;by_cases ae:k<k0
   .have aA:k<cl.length:=by rw [yi.o];exact ae
    obtain ⟨b,off,hA,hb,c0,c1,BS,c3,c4,c5,c6,c7,c8,c9,iw,rb⟩:=rO ((fK.o.below ai.o).more ai.o.size) k aA;subst hA;obtain ⟨x,hx,hxd⟩:=ug.o _ (gM aA);have rR:=kp fK.o;clear fK;generalize (cl[k]'aA)=y at *;have cS:=(aq wr.heap.size wr).alloc (ah _) (.cells (bQ y) 98);have iH:=kp (aa.new wr 98 (bQ y));have bC:=aR ai cS;have se:=(bS hx).1;have Ky:=(DN.o.below bC.o).more bC.o.size;obtain ⟨bn,on,hAn,ov,e0,zP⟩:=yL Ky y.child se;clear zP;rw [(bS hx).2,hxd] at e0;have Nq:=kp (BJ.o.under bC.o);have BU:=kp ((acS.o.under bC.o).cell 0);have HN3:=kp ((DV.o.under bC.o).cell 0);have Dg:=kp (HAh.o ga w.heap.size (w.heap.size+1) As An nx cs m nn cn most aj #[] y bn on 0 (wr.alloc (.cells (bQ y) 98)) Nq.o BU.o HN3.o hAn (by rw [<-vq.o];exact se) eE hd e0);clear cS Ky e0 se hx;have i0:(0:Int)<=(k:Int):=by omega
    have i1:(k:Int)<(k0:Int):=by omega
    go_upto_region 7 with fail
    clear c0 c1 BS c3 c4 c5 c6 c7 c8 c9 iw rb;generalize wr.alloc (.cells (bQ y) 98)=W3 at *;generalize wr.heap.size=gC at *;obtain ⟨a0,a1,a2,a3,a4,a5,a6,a7,a8,a9,dS,iK⟩:=(aa.fQ iH.o).1;go_wp2_with fail;refine Dg.o.mono ?_;rintro e w4 ⟨rfl,cq⟩;have bH:=aR bC cq;clear cq a0 a1 a2 a3 a4 a5 a6 a7 a8 a9 dS iK;go_wp2_with fail;exact ⟨⟨k+1,by omega,by go_num,bH.o⟩,by simp [intOf];omega⟩
   .obtain rfl:k=k0:=by omega
    have Hf:=kp (HQ.o _ (aF.o.trans (ai.o.mono aF.o.size)));go_wp2_with fail;exact Hf.o
theorem Me {w w':World} {g:Nat} {v0 v1 v2 v3 v4 v5 v6 v7 v8 v9 nD pr kq oE:Value} (hb:w'.heap[g]? = w.heap[g]?) (h:w.cell? ⟨g,0,none⟩=some v0/\w.cell? ⟨g,1,none⟩=some v1/\w.cell? ⟨g,2,none⟩=some v2/\w.cell? ⟨g,3,none⟩=some v3/\w.cell? ⟨g,4,none⟩=some v4/\w.cell? ⟨g,5,none⟩=some v5/\w.cell? ⟨g,6,none⟩=some v6/\w.cell? ⟨g,7,none⟩=some v7/\w.cell? ⟨g,8,none⟩=some v8/\w.cell? ⟨g,9,none⟩=some v9/\w.cell? ⟨g,10,none⟩=some nD/\w.cell? ⟨g,11,none⟩=some pr/\w.cell? ⟨g,12,none⟩=some kq/\w.cell? ⟨g,13,none⟩=some oE):w'.cell? ⟨g,0,none⟩=some v0/\w'.cell? ⟨g,1,none⟩=some v1/\w'.cell? ⟨g,2,none⟩=some v2/\w'.cell? ⟨g,3,none⟩=some v3/\w'.cell? ⟨g,4,none⟩=some v4/\w'.cell? ⟨g,5,none⟩=some v5/\w'.cell? ⟨g,6,none⟩=some v6/\w'.cell? ⟨g,7,none⟩=some v7/\w'.cell? ⟨g,8,none⟩=some v8/\w'.cell? ⟨g,9,none⟩=some v9/\w'.cell? ⟨g,10,none⟩=some nD/\w'.cell? ⟨g,11,none⟩=some pr/\w'.cell? ⟨g,12,none⟩=some kq/\w'.cell? ⟨g,13,none⟩=some oE:=by
 have hD:=h;have e:∀i,w'.cell? ⟨g,i,none⟩=w.cell? ⟨g,i,none⟩:=fun i=>cZ (a:=⟨g,i,none⟩) hb
 simp only [e];exact hD
def isRow (v:Value) (k:Nat):Prop:=v.ownBlock=some k
def Iz (B ga:Nat) (As:OA) (nx cs m:Nat) (An:OA) (cn most:Nat) (nds:List Nd) (p:aI) (w:World) (e:Ending) (w':World):Prop :=
 (nds.length<most->∃ (cX:OA) (cY:Nat) (n':Nd),e = .returned (.tuple #[.int .i64 nds.length,.int .i64 0])/\az n'=p/\iR w' B (.slice cX (nds.length+1) cY) (nds++[n'])/\aa w' ga 160 (im As nx cs m cX (nds.length+1) cY most) /\
   ((Value.slice cX (nds.length+1) cY).ownBlock=(Value.slice An nds.length cn).ownBlock\/∃k,(Value.slice cX (nds.length+1) cY).ownBlock=some k/\w.heap.size<=k)/\kb w.heap.size n'/\bK (fun k=>k=ga\/isRow (.slice An nds.length cn) k) w w') /\
 (¬nds.length<most->e = .returned (.tuple #[.int .i64 0,.int .i64 7])/\Below w.heap.size w w')
theorem a04 (B ga:Nat) (As An:OA) (xs:List Fa) (cs m cn most:Nat) (nds:List Nd) (n:Nd) (w:World) (hgB:ga<B) (O9:B<=w.heap.size) (h:aa w ga 160 (im As xs.length cs m An nds.length cn most)) (hx:ep w w.heap.size As xs) (aE:iR w B (.slice An nds.length cn) nds) (da:dp w w.heap.size n)
 (eZ:xs.length<=16) (dg:1<=m) (hm:m<=3) (eE:nds.length<=1000000) (acT:most<=1000000) (eH:n.aj<xs.length) (ho:yK (decide (n.aj+1=xs.length)) (xs[n.aj]'eH).keys m (az n)) (hl:∀l∈n.ls,l.cs.length<=1000) (a2v:n.aj+1=xs.length\/ZJ nds n) :
 Calls Tryz.prog 78 #[.pointer (some ⟨ga,0,none⟩),.agg (bG n)] w (Iz B ga As xs.length cs m An cn most nds (az n) w):=by
 obtain ⟨i0,cG,cI,cH,cJ⟩:=info_parts a1h;have fw:n.ls.length<=4:=by have:=ho.n4;unfold az at this;rw [lM] at this;exact this
 have HT:=kp (fun w h=>Fy ga As An xs.length cs m nds.length cn most w h (by omega));have HC:=kp (fun w h1 h2=>XC As cs m xs n w h1 h2 eZ dg hm eH ho);have HL:=kp (fun w h1 h2 h3=>a7e ga As An xs.length cs m cn most nds n w h1 h2 h3 (by omega) eZ (by omega) eE fw hl a2v);have HN:=kp (fun w h=>Q6 n w h fw (fun l ja=>aT (hl l ja) (by omega)));obtain ⟨aj,nA,ls,nc,key,child,ac,s0,n0,x0,s1,n1,x1,s2,n2,x2⟩:=n
 have gQ:=kp (show ∀ (cX:OA) (cY:Nat) (n':Nd) (w':World),nds.length<most->az n'=az ⟨aj,nA,ls,nc,key,child,ac,s0,n0,x0,s1,n1,x1,s2,n2,x2⟩->iR w' B (.slice cX (nds.length+1) cY) (nds++[n'])->aa w' ga 160 (im As xs.length cs m cX (nds.length+1) cY most) ->
  ((Value.slice cX (nds.length+1) cY).ownBlock=(Value.slice An nds.length cn).ownBlock\/∃k,(Value.slice cX (nds.length+1) cY).ownBlock=some k/\w.heap.size<=k)->kb w.heap.size n'->bK (fun k=>k=ga\/isRow (.slice An nds.length cn) k) w w' ->
  Iz B ga As xs.length cs m An cn most nds (az ⟨aj,nA,ls,nc,key,child,ac,s0,n0,x0,s1,n1,x1,s2,n2,x2⟩) w (.returned (.tuple #[.int .i64 nds.length,.int .i64 0])) w' from
  fun cX cY n' w' h0 h1 h2 h3 h4 h5 h6=>⟨fun _=>⟨cX,cY,n',rfl,h1,h2,h3,h4,h5,h6⟩,fun h=>absurd h0 h⟩)
 have ub:=kp (show ∀w',¬nds.length<most->Below w.heap.size w w'->Iz B ga As xs.length cs m An cn most nds (az ⟨aj,nA,ls,nc,key,child,ac,s0,n0,x0,s1,n1,x1,s2,n2,x2⟩) w (.returned (.tuple #[.int .i64 0,.int .i64 7])) w' from fun w' h0 h1=>⟨fun h=>absurd h h0,fun _=>⟨rfl,h1⟩⟩);generalize az ⟨aj,nA,ls,nc,key,child,ac,s0,n0,x0,s1,n1,x1,s2,n2,x2⟩=pn at *;generalize hQ:Iz B ga As xs.length cs m An cn most nds pn w=Q at *;clear hQ ho a2v hl;dsimp only at eH fw;have hxx:=kp hx;clear hx;obtain ⟨nx,fh⟩:∃nx,xs.length=nx:=⟨_,rfl⟩
 obtain ⟨nn,zM⟩:∃nn,nds.length=nn:=⟨_,rfl⟩
 have vq:=kp zM;have bF:=kp aE;have a2w:=kp (show ∀j,(Value.slice An nds.length cn).ownBlock=some j->j<w.heap.size from fun j hj=>(aE.1.lt j hj).2);obtain ⟨lx,dr⟩:∃lx,ls.length=lx:=⟨_,rfl⟩
 dsimp only [bG] at HC HL HN ⊢;rw [fh] at HT HC HL gQ h eZ eH;rw [zM] at HT HL gQ ub h eE bF a2w;rw [dr] at HC HL HN fw ⊢;clear fh zM dr aE eZ dg hm fw;have ax:=(aq w.heap.size w).alloc (ah _) (.cells #[.int .i64 (aj:Nat),.slice nA lx nc,.int .i64 (key:Nat),.int .i64 (child:Nat),.int .i64 ac,.int .i64 s0,.int .i64 n0,.int .i64 x0,.int .i64 s1,.int .i64 n1,.int .i64 x1,.int .i64 s2,.int .i64 n2,.int .i64 x2] 100);have lD:=aa.new w 100 #[.int .i64 (aj:Nat),.slice nA lx nc,.int .i64 (key:Nat),.int .i64 (child:Nat),.int .i64 ac,.int .i64 s0,.int .i64 n0,.int .i64 x0,.int .i64 s1,.int .i64 n1,.int .i64 x1,.int .i64 s2,.int .i64 n2,.int .i64 x2];generalize dj:w.alloc (.cells #[.int .i64 (aj:Nat),.slice nA lx nc,.int .i64 (key:Nat),.int .i64 (child:Nat),.int .i64 ac,.int .i64 s0,.int .i64 n0,.int .i64 x0,.int .i64 s1,.int .i64 n1,.int .i64 x1,.int .i64 s2,.int .i64 n2,.int .i64 x2] 100)=W0 at *;have iW:=kp lD;have oD:=kp (h.under ax);have a2x:=kp (bF.o.below ax);have TC:=kp ((da.below ax).more ax.size);have a2y:=kp ((hxx.out.below ax).more ax.size);have ay:=kp ax;have pw:ga<w.heap.size:=h.lt;clear ax lD h da hxx;have a2z:=kp hgB;have Kz:=kp (HT.o W0 oD.o);go_enter Tryz.func78,Tryz.ntmps78;go_wp2_with fail;refine Kz.o.mono ?_;rintro e w1 ⟨rfl,rfl⟩;clear dj;have wV:ga<W0.heap.size:=oD.o.lt;obtain ⟨⟨a0,a1,a2,a3⟩,_⟩:=aa.four oD.o;obtain ⟨d0,d1,d2,d3,d4,d5,d6,d7,d8,d9,dB,dC,gB,iF⟩:=(aa.cw iW.o).1;go_upto_region 3 with fail
 refine wp_region_noPanic ?_;refine dt (t:=99) (S:=(fun w'=>(w'.cell? ⟨ga,0,none⟩=some (.slice As nx cs)/\w'.cell? ⟨ga,1,none⟩=some (.int .i64 (m:Nat)))/\(w'.cell? ⟨w.heap.size,0,none⟩=some (.int .i64 (aj:Nat))/\w'.cell? ⟨w.heap.size,1,none⟩=some (.slice nA lx nc)/\w'.cell? ⟨w.heap.size,2,none⟩=some (.int .i64 (key:Nat))/\w'.cell? ⟨w.heap.size,3,none⟩=some (.int .i64 (child:Nat))/\w'.cell? ⟨w.heap.size,4,none⟩=some (.int .i64 ac)/\w'.cell? ⟨w.heap.size,5,none⟩=some (.int .i64 s0)/\w'.cell? ⟨w.heap.size,6,none⟩=some (.int .i64 n0)/\w'.cell? ⟨w.heap.size,7,none⟩=some (.int .i64 x0)/\w'.cell? ⟨w.heap.size,8,none⟩=some (.int .i64 s1)/\w'.cell? ⟨w.heap.size,9,none⟩=some (.int .i64 n1)/\w'.cell? ⟨w.heap.size,10,none⟩=some (.int .i64 x1)/\w'.cell? ⟨w.heap.size,11,none⟩=some (.int .i64 s2)/\w'.cell? ⟨w.heap.size,12,none⟩=some (.int .i64 n2)/\w'.cell? ⟨w.heap.size,13,none⟩=some (.int .i64 x2)))) (by kernel_rfl) ⟨⟨a0,a1⟩,⟨d0,d1,d2,d3,d4,d5,d6,d7,d8,d9,dB,dC,gB,iF⟩⟩ (fun ad => ?_);refine tD 0 1 2 3 ad ?_;refine tk 4 ad ?_;refine oT 5 fun K hK=>?_
 go_simp
 refine (HC.o W0.drew (a2y.o.below (aq _ _).drew) (TC.o.below (aq _ _).drew)).mono ?_;rintro e wc ⟨rfl,cU⟩;have bh:=kp (show Below W0.heap.size W0 wc from (aq _ _).drew.trans cU);clear cU;refine oK hK ?_ fun af=>?_
 .exact ⟨⟨aL bh.o a0,aL bh.o a1⟩,aL bh.o d0,aL bh.o d1,aL bh.o d2,aL bh.o d3,aL bh.o d4,aL bh.o d5,aL bh.o d6,aL bh.o d7,aL bh.o d8,aL bh.o d9,aL bh.o dB,aL bh.o dC,aL bh.o gB,aL bh.o iF⟩
 replace ad:=af;clear hK K af;refine tk 6 ad ?_;refine dY (by kernel_rfl) ?_ _
 try clear ad
 refine NoPanic.normal ?_;have yj:=kp (iW.o.under bh.o);have TD:=kp (oD.o.under bh.o);have fI:=kp (a2x.o.below bh.o);have TE:=kp ((TC.o.below bh.o).more bh.o.size);have aM:=kp (ay.o.trans (bh.o.mono ay.o.size));clear a0 a1 a2 a3 d0 d1 d2 d3 d4 d5 d6 d7 d8 d9 dB dC gB iF iW oD a2x TC ay bh Kz a2y wV;obtain ⟨d0,d1,d2,d3,d4,d5,d6,d7,d8,d9,dB,dC,gB,iF⟩:=(aa.cw yj.o).1;have uo:=kp (HL.o wc TD.o fI.o.at_.row TE.o);go_wp2_with fail;refine uo.o.mono ?_;rintro e w2 ⟨rfl,aH⟩;have DV:=bu yj aH;have BJ:=bu TD aH;have fK:=kp (fI.o.below aH);have acU:=kp ((TE.o.below aH).more aH.size);have aF:=aR aM aH;clear aH d0 d1 d2 d3 d4 d5 d6 d7 d8 d9 dB dC gB iF yj TD fI TE aM uo;obtain ⟨⟨a0,a1,a2,a3⟩,_⟩:=aa.four BJ.o;have Db:decide ((most:Int)<=(nn:Int))=decide (most<=nn):=by rw [Bool.eq_iff_iff];simp
 go_upto_region 8 with fail
 refine wp_region_noPanic ?_;refine dt (t:=99) (S:=(fun w'=>w'.cell? ⟨ga,2,none⟩=some (.slice An nn cn)/\w'.cell? ⟨ga,3,none⟩=some (.int .i64 (most:Nat)))) (by kernel_rfl) ⟨a2,a3⟩ (fun ad => ?_);refine tD 0 1 2 3 ad ?_;refine tD 4 5 6 7 ad ?_;refine tB 8 9 ad ?_;refine dY (by kernel_rfl) ?_ _
 try clear ad
 refine NoPanic.normal ?_;clear a0 a1 a2 a3;by_cases wW:nn<most
 .have q1:¬ (most:Int)<=(nn:Int):=by omega
  have jg:decide ((most:Int)<=(nn:Int))=false:=decide_eq_false q1;have DU:decide (most<=nn)=false:=decide_eq_false (by omega);go_upto_region 10 with fail
  obtain ⟨⟨a0,a1,a2,a3⟩,⟨_,_,f2,_⟩⟩:=aa.four BJ.o;obtain ⟨d0,d1,d2,d3,d4,d5,d6,d7,d8,d9,dB,dC,gB,iF⟩:=(aa.cw DV.o).1;have a2A:ga<w2.heap.size:=BJ.o.lt;have acV:w.heap.size<w2.heap.size:=DV.o.lt;refine wp_region_noPanic ?_;refine IX (t:=11) (S:=(fun w'=>(w'.cell? ⟨ga,2,none⟩=some (.slice An nn cn)/\w'.frozen? ⟨ga,2,none⟩=false)/\(w'.cell? ⟨w.heap.size,0,none⟩=some (.int .i64 (aj:Nat))/\w'.cell? ⟨w.heap.size,1,none⟩=some (.slice nA lx nc)/\w'.cell? ⟨w.heap.size,2,none⟩=some (.int .i64 (key:Nat))/\w'.cell? ⟨w.heap.size,3,none⟩=some (.int .i64 (child:Nat))/\w'.cell? ⟨w.heap.size,4,none⟩=some (.int .i64 ac)/\w'.cell? ⟨w.heap.size,5,none⟩=some (.int .i64 s0)/\w'.cell? ⟨w.heap.size,6,none⟩=some (.int .i64 n0)/\w'.cell? ⟨w.heap.size,7,none⟩=some (.int .i64 x0)/\w'.cell? ⟨w.heap.size,8,none⟩=some (.int .i64 s1)/\w'.cell? ⟨w.heap.size,9,none⟩=some (.int .i64 n1)/\w'.cell? ⟨w.heap.size,10,none⟩=some (.int .i64 x1)/\w'.cell? ⟨w.heap.size,11,none⟩=some (.int .i64 s2)/\w'.cell? ⟨w.heap.size,12,none⟩=some (.int .i64 n2)/\w'.cell? ⟨w.heap.size,13,none⟩=some (.int .i64 x2)))) (by kernel_rfl) ⟨⟨a2,f2⟩,⟨d0,d1,d2,d3,d4,d5,d6,d7,d8,d9,dB,dC,gB,iF⟩⟩ (fun ad => ?_);refine tu 0 ad ?_;refine tu 1 ad ?_;refine tu 2 ad ?_;refine tu 3 ad ?_;refine tu 4 ad ?_;refine tu 5 ad ?_;refine oU 6 fun K hK=>?_
  go_simp
  refine (HN.o w2.drew.drew (acU.o.below ((aq _ _).drew.drew))).mono ?_;rintro e wc ⟨n',rfl,cM,a2B,a2C,cU,_⟩;have bh:=kp (show Below w2.heap.size w2 wc from (aq _ _).drew.drew.trans cU);have fJ:=kp cM;have acW:=kp a2B;have TF:=kp (show kb w2.heap.size n' from a2C);clear cU cM a2B a2C;refine oK hK ?_ fun af=>?_
  .exact ⟨⟨aL bh.o a2,by rw [lU bh.o _ _ a2A];exact f2⟩,⟨(aL bh.o) d0,(aL bh.o) d1,(aL bh.o) d2,(aL bh.o) d3,(aL bh.o) d4,(aL bh.o) d5,(aL bh.o) d6,(aL bh.o) d7,(aL bh.o) d8,(aL bh.o) d9,(aL bh.o) dB,(aL bh.o) dC,(aL bh.o) gB,(aL bh.o) iF⟩⟩
  replace ad:=af;clear hK K af;have Oa:ga<wc.heap.size:=dL a2A bh.o.size;have TG:w.heap.size<wc.heap.size:=dL acV bh.o.size;have ou:=kp (fK.o.below bh.o);have TA:=kp (BJ.o.under bh.o);have iI:=kp (aF.o.trans (bh.o.mono aF.o.size));have HNp:=kp (uT.new (v := .slice An nn cn) acW.o TF.o (fun j hj=>(fK.o.1.lt j hj).2));have sV:=kp (show wc.ownsRow B 100 14 (.slice An nn cn) nn (nds.flatMap dJ) by have:=ou.o.1;rw [vq.o] at this;exact this);have TH:=kp (show B<=wc.heap.size from aT O9 iI.o.size);have Ob:=kp (show (Value.slice An nn cn).ownBlock≠some ga from fun hh=>by have h1:=(sV.o.lt ga hh).1;have h2:=a2z.out;omega);have acX:=kp (show (Value.slice An nn cn).ownBlock≠some w.heap.size from fun hh=>by have:=a2w.o _ hh;omega);have cz:nn+1<1048576*64:=by omega
  refine oU 7 fun K hK=>?_
  go_simp
  refine oK hK ?_ fun af=>?_
  .exact ⟨⟨aL ((aq _ _).alloc (ah _) _) ad.1.1,by rw [lU ((aq _ _).alloc (ah wc.heap.size) _) _ _ Oa];exact ad.1.2⟩,Me (Below.heap_alloc _ _ _ TG) ad.2⟩
  replace ad:=af;clear hK K af;refine oU 8 fun K hK=>?_
  refine M9 rfl (.tmp 37) (.tmp 40) 92 rfl B 100 i0 _ 14 128 Tryz.underlying92 cG cI cH cJ rfl (by decide) wc (bG n') rfl (YD n') (.slice An nn cn) nn (nds.flatMap dJ) rfl sV.o rfl cz (by decide) TH.out ?_;intro v5 w5 aY bV;obtain ⟨A5,c5,h5⟩:=eM aY;subst h5;have cP:=kp aY;have iU:=kp bV;clear aY bV
  go_simp
  refine oK hK ?_ fun af=>?_
  .have e1:=(iU.o.de Oa Ob.o).trans (Below.heap_alloc wc (.cells (bG n') 100) _ Oa).symm;have e2:=(iU.o.de TG acX.o).trans (Below.heap_alloc wc (.cells (bG n') 100) _ TG).symm;exact ⟨⟨(cZ (a:=⟨ga,2,none⟩) e1).trans ad.1.1,by have h:=ad.1.2;unfold World.frozen? at h ⊢;rw [e1];exact h⟩,Me e2 ad.2⟩
  replace ad:=af;clear hK K af;refine tu 9 ad ?_;refine tu 10 ad ?_;refine Rq (o := ?or11) (by kernel_rfl) ?ar11 ⟨by kernel_rfl,by kernel_rfl⟩ (fun K hK => ?br11)
  case ar11=>(simp only [getElem?_toArray,getElem?_cons_succ,getElem?_cons_zero];exact rfl)
  obtain ⟨⟨x1,x2⟩,_⟩:=ad;have ad:=x1
  go_simp
  refine hK.out _ _ ?_;clear hK K ad;refine NoPanic.normal ?_
  try simp only [Act.put,setIfInBounds_toArray,set_cons_zero,set_cons_succ]
  have HF:=kp (iR.app (x:=n') ou.o HNp.o (TF.o.less (aT O9 aF.o.size)) cP.o iU.o vq.o);have acY:=kp (show aa w5 ga 160 (im As nx cs m An nn cn most) from (iU.o.de Oa Ob.o).trans TA.o);have a2D:=kp (show aa (w5.setCell ⟨ga,2,none⟩ (.slice A5 (nn+1) c5)) ga 160 (im As nx cs m A5 (nn+1) c5 most) from acY.o.set 2 _);have Od:=kp (show iR (w5.setCell ⟨ga,2,none⟩ (.slice A5 (nn+1) c5)) B (.slice A5 (nn+1) c5) (nds++[n']) from HF.o.yS ⟨by simp,fun k hk _=>Below.heap_setCell w5 ⟨ga,2,none⟩ _ k (by have:=a2z.out;dsimp only;omega)⟩)
  have rZ:=kp (show (Value.slice A5 (nn+1) c5).ownBlock=(Value.slice An nn cn).ownBlock\/∃k,(Value.slice A5 (nn+1) c5).ownBlock=some k/\w.heap.size<=k from by
   rcases iU.o.qH with h | ⟨k,h,hk⟩
   .exact .inl h
   .exact .inr ⟨k,h,aT iI.o.size hk⟩)
  have HT6:=kp (show bK (fun k=>k=ga\/isRow (.slice An nn cn) k) w (w5.setCell ⟨ga,2,none⟩ (.slice A5 (nn+1) c5)) from ((bK.below iI.o).trans ⟨iU.o.grown.os,iU.o.grown.tape,iU.o.grown.output,iU.o.grown.size,fun k hk hp=>iU.o.de hk (fun e=>hp (.inr e))⟩).trans (bK.set _ _ _ (.inl rfl)));have bN:=kp (gQ.o A5 c5 n' _ wW fJ.o Od.o a2D.o rZ.o (TF.o.less aF.o.size) HT6.o);obtain ⟨⟨b0,b1,b2,b3⟩,_⟩:=aa.four a2D.o;have hw:IntKind.i64.wrap ((nn:Int)+1-1)=(nn:Int):=by rw [Int.add_sub_cancel];exact IntWalk.i64_in _ (by omega)
  go_wp2_with fail;exact bN.o
 .have q1:(most:Int)<=(nn:Int):=by omega
  have jg:decide ((most:Int)<=(nn:Int))=true:=decide_eq_true q1;have DU:decide (most<=nn)=true:=decide_eq_true (by omega);have Hf:=kp (ub.o _ wW aF.o.drew);go_wp2_with fail;exact Hf.o
structure St where
 nodes:List aI
 parts:List (Nat×LN)
abbrev Rec:=LN->St->Option (St×Nat)
def sC (ps:List (LN×Ag)) (at_ i:Nat):Nat:=((((ps[i]?).getD ([],aO)).1)[at_]?).getD 0
def fP (ps:List (LN×Ag)) (lift:LN) (at_ i:Nat):Nat:=(lift[sC ps at_ i]?).getD 0
def il (ps:List (LN×Ag)) (f:Option Rec) (key:Nat) (part:LN) (st:St):Option (St×Cl) :=
 match f with
 | none=>some (st,⟨key,0,(tG ps part).getD aO⟩)
 | some g=>(g part st).map fun r=>(r.1,⟨key,r.2,aO⟩)
def iA (ps:List (LN×Ag)) (f:Option Rec):List (Nat×LN)->St×List Cl->Option (St×List Cl)
 | [],s=>some s
 | g::gs,s=>(il ps f g.1 g.2 s.1).bind fun r=>iA ps f gs (r.1,s.2++[r.2])
def iP (ps:List (LN×Ag)) (f:Option Rec) (at_:Nat) (part:LN):List LN->St×List (List Cl)->Option (St×List (List Cl))
 | [],s=>some s
 | l::ls,s=>(iA ps f (eu (fP ps l at_) part) (s.1,[])).bind fun r=>iP ps f at_ part ls (r.1,s.2++[r.2])
def jw (at_:Nat) (part:LN) (parts:List (Nat×LN)):Option Nat:=parts.findIdx? fun x=>x == (at_,part)
def fR (ps:List (LN×Ag)) (lifts:List (List LN)) (most:Nat) (f:Option Rec) (at_:Nat) (part:LN) (st:St):Option (St×Nat) :=
 match jw at_ part st.parts with
 | some i=>some (st,i)
 | none=>(iP ps f at_ part ((lifts[at_]?).getD []) (st,[])).bind fun r=>(il ps f 0 part r.1).bind fun q =>
  if q.1.nodes.length<most then some (⟨q.1.nodes++[⟨at_,r.2,q.2⟩],q.1.parts++[(at_,part)]⟩,q.1.nodes.length) else none
def visit (ps:List (LN×Ag)) (lifts:List (List LN)) (most nd:Nat):Nat->Rec
 | 0=>fR ps lifts most none (nd-1)
 | d+1=>fR ps lifts most (some (visit ps lifts most nd d)) (nd-1-(d+1))
def dI {α β:Type} (R:α->β->Prop) (l:List α) (m:List β):Prop:=l.length=m.length/\∀ (i:Nat) (a:α) (b:β),l[i]? = some a->m[i]? = some b->R a b
theorem dI.nil {α β:Type} (R:α->β->Prop):dI R [] []:=⟨rfl,fun i a b h=>by cases h⟩
theorem dI.snoc {α β:Type} {R:α->β->Prop} {l:List α} {m:List β} (h:dI R l m) {a:α} {b:β} (vp:R a b):dI R (l++[a]) (m++[b]):=by
 refine ⟨by rw [aS,aS,h.1];rfl,fun i x y hx hy => ?_⟩;by_cases hi:i<l.length
 .rw [getElem?_append_left hi] at hx;rw [getElem?_append_left (by rw [<-h.1];exact hi)] at hy;exact h.2 i x y hx hy
 .rw [getElem?_append_right (by omega)] at hx;rw [getElem?_append_right (by rw [<-h.1];omega)] at hy;rw [<-h.1] at hy;have h0:i-l.length=0:=by
   have:=(bS hx).1;simp at this;omega
  rw [h0] at hx hy;injection hx with hx
  injection hy with hy
  rw [<-hx,<-hy];exact vp
theorem dI.imp {α β:Type} {R R':α->β->Prop} {l:List α} {m:List β} (h:dI R l m) (hi:∀a b,R a b->R' a b):dI R' l m:=⟨h.1,fun i a b h1 h2=>hi a b (h.2 i a b h1 h2)⟩
def rL (ps:List (LN×Ag)) (last:Bool) (st:St) (at_ key:Nat) (part:LN) (c:Cl):Prop :=
 c.key=key/\if last=true then c.child=0/\c.ag=(tG ps part).getD aO else c.ag=aO/\st.parts[c.child]? = some (at_+1,part)
def yQ (ps:List (LN×Ag)) (last:Bool) (st:St) (at_:Nat) (gs:List (Nat×LN)) (l:List Cl):Prop:=dI (fun g c=>rL ps last st at_ g.1 g.2 c) gs l
def xF (ps:List (LN×Ag)) (last:Bool) (st:St) (at_:Nat) (part:LN) (lifts:List LN) (ls:List (List Cl)):Prop:=dI (fun lift l=>yQ ps last st at_ (eu (fP ps lift at_) part) l) lifts ls
structure xt (ps:List (LN×Ag)) (lifts:List (List LN)) (nd:Nat) (st:St) (at_:Nat) (part:LN) (n:aI):Prop where
 aj:n.aj=at_
 lists:xF ps (decide (at_+1=nd)) st at_ part ((lifts[at_]?).getD []) n.lists
 all:rL ps (decide (at_+1=nd)) st at_ 0 part n.all
def Ext (st dT:St):Prop:=∃ns qs,dT.nodes=st.nodes++ns/\dT.parts=st.parts++qs
theorem Ext.refl (st:St):Ext st st:=⟨[],[],by simp,by simp⟩
theorem Ext.trans {a b c:St} (h:Ext a b) (k:Ext b c):Ext a c:=by
 obtain ⟨ns,qs,h1,h2⟩:=h;obtain ⟨yn,qs',k1,k2⟩:=k;exact ⟨ns++yn,qs++qs',by rw [k1,h1,append_assoc],by rw [k2,h2,append_assoc]⟩
theorem Ext.part {a b:St} (h:Ext a b) {i:Nat} {p:Nat×LN} (hp:a.parts[i]? = some p):b.parts[i]? = some p:=by
 obtain ⟨ns,qs,h1,h2⟩:=h;rw [h2,getElem?_append_left (bS hp).1];exact hp
theorem Ext.node {a b:St} (h:Ext a b) {i:Nat} {n:aI} (hn:a.nodes[i]? = some n):b.nodes[i]? = some n:=by
 obtain ⟨ns,qs,h1,h2⟩:=h;rw [h1,getElem?_append_left (bS hn).1];exact hn
theorem Ext.len {a b:St} (h:Ext a b):a.nodes.length<=b.nodes.length:=by
 obtain ⟨ns,qs,h1,h2⟩:=h;rw [h1,aS];omega
theorem rL.ext {ps:List (LN×Ag)} {last:Bool} {st dT:St} {at_ key:Nat} {part:LN} {c:Cl} (h:rL ps last st at_ key part c) (he:Ext st dT):rL ps last dT at_ key part c:=by
 refine ⟨h.1,?_⟩;have h2:=h.2;split
 .rename_i hl;rw [if_pos hl] at h2;exact h2
 .rename_i hl;rw [if_neg hl] at h2;exact ⟨h2.1,he.part h2.2⟩
theorem yQ.ext {ps:List (LN×Ag)} {last:Bool} {st dT:St} {at_:Nat} {gs:List (Nat×LN)} {l:List Cl} (h:yQ ps last st at_ gs l) (he:Ext st dT):yQ ps last dT at_ gs l:=dI.imp h fun _ _ hc=>hc.ext he
theorem xF.ext {ps:List (LN×Ag)} {last:Bool} {st dT:St} {at_:Nat} {part:LN} {lifts:List LN} {ls:List (List Cl)} (h:xF ps last st at_ part lifts ls) (he:Ext st dT):xF ps last dT at_ part lifts ls:=dI.imp h fun _ _ hc=>yQ.ext hc he
theorem xt.ext {ps:List (LN×Ag)} {lifts:List (List LN)} {nd:Nat} {st dT:St} {at_:Nat} {part:LN} {n:aI} (h:xt ps lifts nd st at_ part n) (he:Ext st dT):xt ps lifts nd dT at_ part n:=⟨h.aj,h.lists.ext he,h.all.ext he⟩
structure kV (ps:List (LN×Ag)) (part:LN):Prop where
 ne:part≠[]
 lt:∀i∈part,i<ps.length
 nd:part.Nodup
theorem kV.group {ps:List (LN×Ag)} {part:LN} (h:kV ps part) {key:Nat->Nat} {g:Nat×LN} (hg:g∈eu key part):kV ps g.2:=by
 obtain ⟨h1,h2,h3⟩:=uO.1 hg;refine ⟨h3,fun i hi=>h.lt i ?_,?_⟩
 .rw [h2] at hi;exact (mem_filter.1 hi).1
 .rw [h2];exact List.Pairwise.filter _ h.nd
def di (n:aI):List Cl:=n.lists.flatten++[n.all]
structure Good (ps:List (LN×Ag)) (lifts:List (List LN)) (nd:Nat) (st:St):Prop where
 len:st.parts.length=st.nodes.length
 rep:∀ (i:Nat) (n:aI) (p:Nat×LN),st.nodes[i]? = some n->st.parts[i]? = some p->xt ps lifts nd st p.1 p.2 n
 part:∀ (i:Nat) (p:Nat×LN),st.parts[i]? = some p->p.1<nd/\kV ps p.2
 back:∀ (i:Nat) (n:aI),st.nodes[i]? = some n->n.aj+1≠nd->∀c∈di n,c.child<i
theorem Good.nil (ps:List (LN×Ag)) (lifts:List (List LN)) (nd:Nat):Good ps lifts nd ⟨[],[]⟩:=⟨rfl,(fun i n p h=>by cases h),(fun i p h=>by cases h),(fun i n h=>by cases h)⟩
def Rv (ps:List (LN×Ag)) (lifts:List (List LN)) (nd at_:Nat) (f:Rec):Prop:=∀part st r,f part st=some r->Good ps lifts nd st->kV ps part->Good ps lifts nd r.1/\Ext st r.1/\r.1.parts[r.2]? = some (at_,part)
section
variable {ps:List (LN×Ag)} {lifts:List (List LN)} {nd at_:Nat} {f:Option Rec}
def CI (ps:List (LN×Ag)) (lifts:List (List LN)) (nd at_:Nat) (f:Option Rec):Prop:=match f with
 | none=>at_+1=nd
 | some g=>at_+1<nd/\Rv ps lifts nd (at_+1) g
theorem LY (hf:CI ps lifts nd at_ f) {key:Nat} {part:LN} {st:St} {r:St×Cl} (h:il ps f key part st=some r) (hg:Good ps lifts nd st) (hp:kV ps part) :
 Good ps lifts nd r.1/\Ext st r.1/\rL ps (decide (at_+1=nd)) r.1 at_ key part r.2:=by
 unfold il at h;unfold CI at hf;split at h
 .injection h with h
  subst h;refine ⟨hg,Ext.refl _,rfl,?_⟩;dsimp only at hf;rw [decide_eq_true hf];exact ⟨rfl,rfl⟩
 .rename_i g;dsimp only at hf;obtain ⟨q,hq,rfl⟩:=Option.map_eq_some_iff.1 h;obtain ⟨h1,h2,h3⟩:=hf.2 part st q hq hg hp;refine ⟨h1,h2,rfl,?_⟩;have:decide (at_+1=nd)=false:=decide_eq_false (by omega);rw [this];exact ⟨rfl,h3⟩
theorem Yr (hf:CI ps lifts nd at_ f):∀ (gs pre:List (Nat×LN)) (s r:St×List Cl),iA ps f gs s=some r->Good ps lifts nd s.1->(∀g∈gs,kV ps g.2)->yQ ps (decide (at_+1=nd)) s.1 at_ pre s.2 ->
 Good ps lifts nd r.1/\Ext s.1 r.1/\yQ ps (decide (at_+1=nd)) r.1 at_ (pre++gs) r.2
 | [],pre,s,r,h,hg,_,hr=>by
  injection h with h
  subst h;rw [append_nil];exact ⟨hg,Ext.refl _,hr⟩
 | g::gs,pre,s,r,h,hg,hp,hr=>by
  unfold iA at h;obtain ⟨q,hq,h⟩:=Option.bind_eq_some_iff.1 h;obtain ⟨h1,h2,h3⟩:=LY hf hq hg (hp g mem_cons_self);obtain ⟨k1,k2,k3⟩:=Yr hf gs (pre++[g]) (q.1,s.2++[q.2]) r h h1 (fun x hx=>hp x (mem_cons_of_mem _ hx)) (dI.snoc (yQ.ext hr h2) h3);refine ⟨k1,h2.trans k2,?_⟩;rw [append_assoc] at k3;exact k3
theorem QG (hf:CI ps lifts nd at_ f) {part:LN} (hp:kV ps part):∀ (ls pre:List LN) (s r:St×List (List Cl)),iP ps f at_ part ls s=some r->Good ps lifts nd s.1->xF ps (decide (at_+1=nd)) s.1 at_ part pre s.2 ->
 Good ps lifts nd r.1/\Ext s.1 r.1/\xF ps (decide (at_+1=nd)) r.1 at_ part (pre++ls) r.2
 | [],pre,s,r,h,hg,hr=>by
  injection h with h
  subst h;rw [append_nil];exact ⟨hg,Ext.refl _,hr⟩
 | l::ls,pre,s,r,h,hg,hr=>by
  unfold iP at h;obtain ⟨q,hq,h⟩:=Option.bind_eq_some_iff.1 h;obtain ⟨h1,h2,h3⟩:=Yr hf _ [] _ _ hq hg (fun g hg'=>hp.group hg') (dI.nil _);obtain ⟨k1,k2,k3⟩:=QG hf hp ls (pre++[l]) (q.1,s.2++[q.2]) r h h1 (dI.snoc (xF.ext hr h2) h3);refine ⟨k1,h2.trans k2,?_⟩;rw [append_assoc] at k3;exact k3
theorem Xr {part:LN} {parts:List (Nat×LN)} {i:Nat} (h:jw at_ part parts=some i):parts[i]? = some (at_,part):=by
 unfold jw at h;obtain ⟨hi,h1,_⟩:=findIdx?_eq_some_iff_getElem.1 h;rw [gE hi]
 congr 1
 simpa using h1
theorem QI {ls:List (List Cl)} {c:Cl} (h:c∈ls.flatten):∃ (k:Nat) (l:List Cl) (i:Nat),ls[k]? = some l/\l[i]? = some c:=by
 obtain ⟨l,hl,hc⟩:=mem_flatten.1 h;obtain ⟨k,hk,rfl⟩:=getElem_of_mem hl;obtain ⟨i,hi,rfl⟩:=getElem_of_mem hc;exact ⟨k,_,i,gE hk,gE hi⟩
theorem dI.left {α β:Type} {R:α->β->Prop} {l:List α} {m:List β} (h:dI R l m) {i:Nat} {b:β} (hb:m[i]? = some b):∃a,l[i]? = some a/\R a b:=by
 have hi:i<l.length:=by rw [h.1];exact (bS hb).1
 exact ⟨l[i],gE hi,h.2 i _ b (gE hi) hb⟩
theorem dI.right {α β:Type} {R:α->β->Prop} {l:List α} {m:List β} (h:dI R l m) {i:Nat} {a:α} (ha:l[i]? = some a):∃b,m[i]? = some b/\R a b:=by
 have hi:i<m.length:=by rw [<-h.1];exact (bS ha).1
 exact ⟨m[i],gE hi,h.2 i a _ ha (gE hi)⟩
theorem xt.lead {st:St} {part:LN} {n:aI} (h:xt ps lifts nd st at_ part n) (hl:at_+1≠nd) {c:Cl} (hc:c∈di n):∃q,st.parts[c.child]? = some (at_+1,q):=by
 have hd:decide (at_+1=nd)=false:=decide_eq_false hl;rcases mem_append.1 hc with hc | hc
 .obtain ⟨k,l,i,h1,h2⟩:=QI hc;have h3:=h.lists;rw [hd] at h3;obtain ⟨lift,_,hr⟩:=dI.left h3 h1;obtain ⟨g,_,hr⟩:=dI.left hr h2;exact ⟨g.2,hr.2.2⟩
 .rw [mem_singleton.1 hc];have h3:=h.all;rw [hd] at h3;exact ⟨part,h3.2.2⟩
theorem XW {most:Nat} (hf:CI ps lifts nd at_ f):Rv ps lifts nd at_ (fR ps lifts most f at_):=by
 intro part st r h hg hp;have br:at_<nd:=by
  unfold CI at hf;split at hf<;>omega
 unfold fR at h;split at h
 .rename_i i hi;injection h with h
  subst h;exact ⟨hg,Ext.refl _,Xr hi⟩
 .obtain ⟨q,hq,h⟩:=Option.bind_eq_some_iff.1 h;obtain ⟨x,hx,h⟩:=Option.bind_eq_some_iff.1 h;split at h
  .injection h with h
   subst h;obtain ⟨h1,h2,h3⟩:=QG hf hp _ [] _ _ hq hg (dI.nil _);obtain ⟨k1,k2,k3⟩:=LY hf hx h1 hp;have hE:Ext x.1 ⟨x.1.nodes++[⟨at_,q.2,x.2⟩],x.1.parts++[(at_,part)]⟩:=⟨_,_,rfl,rfl⟩
   have hN:xt ps lifts nd x.1 at_ part ⟨at_,q.2,x.2⟩:=⟨rfl,h3.ext k2,k3⟩
   refine ⟨⟨by simp [k1.len],fun i n p hn mh => ?_,fun i p mh => ?_,fun i n hn hl => ?_⟩,h2.trans (k2.trans hE),?_⟩
   .dsimp only at hn mh;by_cases hi:i<x.1.nodes.length
    .rw [getElem?_append_left hi] at hn;rw [getElem?_append_left (by rw [k1.len];exact hi)] at mh;exact (k1.rep i n p hn mh).ext hE
    .rw [getElem?_append_right (by omega)] at hn;rw [getElem?_append_right (by rw [k1.len];omega),k1.len] at mh;have h0:i-x.1.nodes.length=0:=by
      have:=(bS hn).1;simp at this;omega
     rw [h0] at hn mh;injection hn with hn
     injection mh with mh
     subst hn mh;exact hN.ext hE
   .dsimp only at mh;by_cases hi:i<x.1.parts.length
    .rw [getElem?_append_left hi] at mh;exact k1.part i p mh
    .rw [getElem?_append_right (by omega)] at mh;have h0:i-x.1.parts.length=0:=by
      have:=(bS mh).1;simp at this;omega
     rw [h0] at mh;injection mh with mh
     subst mh;exact ⟨br,hp⟩
   .dsimp only at hn;by_cases hi:i<x.1.nodes.length
    .rw [getElem?_append_left hi] at hn;exact k1.back i n hn hl
    .rw [getElem?_append_right (by omega)] at hn;have h0:i-x.1.nodes.length=0:=by
      have:=(bS hn).1;simp at this;omega
     rw [h0] at hn;injection hn with hn
     subst hn;intro c hc;obtain ⟨q',wi⟩:=hN.lead hl hc;have:=(bS wi).1;rw [k1.len] at this;omega
   .dsimp only;rw [<-k1.len,getElem?_append_right (ah _)];simp
  .cases h
end
theorem Mz {ps:List (LN×Ag)} {lifts:List (List LN)} {most nd:Nat}:∀ {d:Nat},d<nd->Rv ps lifts nd (nd-1-d) (visit ps lifts most nd d)
 | 0,h=>XW (f:=none) (show nd-1+1=nd by omega)
 | d+1,h=>by
  refine XW (f:=some (visit ps lifts most nd d)) ⟨by omega,?_⟩;have e:nd-1-(d+1)+1=nd-1-d:=by omega
  rw [e];exact Mz (by omega)
theorem Be:∀ (l' l:LN),l'.Nodup->(∀x∈l',x∈l)->l'.length<=l.length
 | [],l,_,_=>aZ _
 | x::l',l,h,hs=>by
  have hx:=hs x mem_cons_self;have h1:=(nodup_cons.1 h).1
  have:=Be l' (l.erase x) (nodup_cons.1 h).2 (fun y hy=>by
   refine (mem_erase_of_ne (fun e => ?_)).2 (hs y (mem_cons_of_mem _ hy));rw [e] at hy
   exact h1 hy)
  rw [length_erase_of_mem hx] at this;have sU:0<l.length:=length_pos_of_mem hx;rw [length_cons];omega
theorem Qs (key:Nat->Nat) (part:LN):((eu key part).map Prod.fst).Nodup:=by
 rw [nodup_iff_pairwise_ne,pairwise_map];exact (IP key part).imp fun h e=>by omega
theorem ZG {key:Nat->Nat} {part:LN} {i:Nat} (hi:i∈part) (hk:key i<200):(key i,ia key part (key i))∈eu key part:=by
 refine uO.2 ⟨hk,rfl,fun h => ?_⟩;have:i∈ia key part (key i):=mem_filter.2 ⟨hi,by simp⟩;have h':ia key part (key i)=[]:=h;rw [h'] at this;cases this
theorem Xf {key:Nat->Nat} {part:LN} {g:Nat×LN} (hg:g∈eu key part):∃i∈part,key i=g.1:=by
 obtain ⟨h1,h2,h3⟩:=uO.1 hg;obtain ⟨i,hi⟩:=exists_mem_of_ne_nil _ h3;rw [h2] at hi;obtain ⟨h4,h5⟩:=mem_filter.1 hi;exact ⟨i,h4,by simpa using h5⟩
theorem a9R {key wX:Nat->Nat} {part:LN} (ae:∀i∈part,key i<200) (hf:∀i∈part,∀j∈part,key i=key j->wX i=wX j):(eu wX part).length<=(eu key part).length:=by
 classical
 have h:=Be ((eu wX part).map Prod.fst) (((eu key part).map Prod.fst).map fun y=>if h:∃i∈part,key i=y then wX h.choose else 0) (Qs wX part) (fun x hx=>by
  obtain ⟨g,hg,rfl⟩:=mem_map.1 hx;obtain ⟨i,hi,e⟩:=Xf hg;refine mem_map.2 ⟨key i,mem_map.2 ⟨_,ZG hi (ae i hi),rfl⟩,?_⟩;have JD:∃j∈part,key j=key i:=⟨i,hi,rfl⟩
  rw [dif_pos JD,<-e]
  exact hf _ JD.choose_spec.1 i hi JD.choose_spec.2)
 simpa using h
structure xE (ps:List (LN×Ag)) (lifts:List (List LN)) (X:List LN) (m:Nat):Prop where
 n1:1<=X.length
 n16:X.length<=16
 len:lifts.length=X.length
 m1:1<=m
 m3:m<=3
 J5:ps.length<=1000
 aw:∀ (a:Nat) (ls:List LN) (x:LN),lifts[a]? = some ls->X[a]? = some x->ls.length=x.length/\1<=x.length/\x.length<=4
 small:∀ (a:Nat) (x:LN),X[a]? = some x->∀y∈x,y<=200
 lift:∀ (a:Nat) (ls:List LN) (x:LN) (k:Nat) (l:LN) (y y0:Nat),lifts[a]? = some ls->X[a]? = some x->ls[k]? = some l->x[k]? = some y->x[0]? = some y0->l.length<=1000/\∀q,q<y0->∃z,l[q]? = some z/\z<y
 keys:∀ (i:Nat) (p:LN×Ag),ps[i]? = some p->p.1.length=X.length/\∀ (a q:Nat) (x:LN),p.1[a]? = some q->X[a]? = some x->∃y0,x[0]? = some y0/\q<y0
 FA:∀ (a:Nat) (ls:List LN) (k:Nat) (l l':LN) (q q' z:Nat),lifts[a]? = some ls->ls[k]? = some l->ls[k+1]? = some l'->l[q]? = some z->l[q']? = some z->l'[q]? = l'[q']?
 IU:∀part,kV ps part->∃r,tG ps part=some r/\lP m r
section
variable {ps:List (LN×Ag)} {lifts:List (List LN)} {X:List LN} {m:Nat}
theorem xE.aj (h:xE ps lifts X m) {a:Nat} (ha:a<X.length):∃ls x,lifts[a]? = some ls/\X[a]? = some x :=
 ⟨_,_,gE (by rw [h.len];exact ha),gE ha⟩
theorem xE.key (h:xE ps lifts X m) {a i k:Nat} {ls:List LN} {x l:LN} {y:Nat} (hi:i<ps.length) (h1:lifts[a]? = some ls) (h2:X[a]? = some x) (h3:ls[k]? = some l) (h4:x[k]? = some y) :
 ∃p q z,ps[i]? = some p/\p.1[a]? = some q/\sC ps a i=q/\l[q]? = some z/\fP ps l a i=z/\z<y:=by
 have hp:=gE hi;obtain ⟨k1,k2⟩:=h.keys i _ hp;have ha:=(bS h2).1;have hq:ps[i].1[a]? = some (ps[i].1[a]'(by omega)):=gE (by omega);obtain ⟨y0,h5,h6⟩:=k2 a _ x hq h2;obtain ⟨z,h7,h8⟩:=(h.lift a ls x k l y y0 h1 h2 h3 h4 h5).2 _ h6;have e1:sC ps a i=ps[i].1[a]'(by omega):=by
  unfold sC;rw [hp];simp only [Option.getD_some];rw [hq];rfl
 refine ⟨_,_,z,hp,hq,e1,h7,?_,h8⟩;unfold fP;rw [e1,h7];rfl
theorem xE.dm (h:xE ps lifts X m) {a k:Nat} {ls:List LN} {x l:LN} (h1:lifts[a]? = some ls) (h2:X[a]? = some x) (h3:ls[k]? = some l):∃y,x[k]? = some y/\y<=200:=by
 have hk:k<x.length:=by
  have h4:=(bS h3).1;have h5:=(h.aw a ls x h1 h2).1;omega
 exact ⟨x[k],gE hk,h.small a x h2 _ (gM hk)⟩
theorem XD (h:xE ps lifts X m) {a:Nat} {part:LN} {ls:List LN} {x:LN} (h1:lifts[a]? = some ls) (h2:X[a]? = some x) (hp:kV ps part) {st:St} (fM:st.parts.length<=1000000) {ll:List (List Cl)} {all:Cl}
 (hl:xF ps (decide (a+1=X.length)) st a part ls ll) (ha:rL ps (decide (a+1=X.length)) st a 0 part all):yK (decide (a+1=X.length)) x m ⟨a,ll,all⟩/\∀l∈ll,l.length<=200:=by
 obtain ⟨t1,t2,t3⟩:=h.aw a ls x h1 h2;have dR:ll.length=x.length:=by rw [<-hl.1];exact t1
 have iS:∀ {key:Nat} {pt:LN} {c:Cl},kV ps pt->rL ps (decide (a+1=X.length)) st a key pt c->AW (decide (a+1=X.length)) m c/\c.child<=2000000:=by
  intro key pt c jR hc;have h3:=hc.2;unfold AW;split at h3
  .rename_i hd;rw [if_pos hd];obtain ⟨r,hr,db⟩:=h.IU pt jR;rw [hr] at h3;refine ⟨⟨h3.1,by rw [h3.2];exact db⟩,by rw [h3.1];omega⟩
  .rename_i hd;rw [if_neg hd];have:=(bS h3.2).1;exact ⟨h3.1,by omega⟩
 have ae:∀ {k:Nat} {l:LN},ls[k]? = some l->∀i∈part,fP ps l a i<200:=by
  intro k l hk i hi;obtain ⟨y,hy,vX⟩:=h.dm h1 h2 hk;obtain ⟨p,q,z,_,_,_,_,e,hz⟩:=h.key (hp.lt i hi) h1 h2 hk hy;omega
 have aX:∀ {k:Nat} {l:LN} {c:List Cl},ls[k]? = some l->ll[k]? = some c->c.length=(eu (fP ps l a) part).length:=fun hk hc=>(hl.2 _ _ _ hk hc).1.symm
 have Bj:∀key:Nat->Nat,(eu key part).length<=200:=by
  intro key
  have:=Be _ (range 200) (Qs key part) (fun x hx=>by
   obtain ⟨g,hg,rfl⟩:=mem_map.1 hx
   exact mem_range.2 (uO.1 hg).1)
  simpa using this
 have a2E:∀l∈ll,l.length<=200:=by
  intro l ja;obtain ⟨k,hk,rfl⟩:=getElem_of_mem ja;obtain ⟨lift,h5,h6⟩:=dI.left hl (gE hk);rw [aX h5 (gE hk)];exact Bj _
 refine ⟨⟨dR,by dsimp only;omega,by dsimp only;omega,fun l ja=>by have:=a2E l ja;omega,fun y hy=>by have:=h.small a x h2 y hy;omega,fun k l y hk hy => ?_,fun k l l' hk jF => ?_,ha.1,(iS hp ha).2,(iS hp ha).1⟩,a2E⟩
 .dsimp only at hk;obtain ⟨lift,h5,h6⟩:=dI.left hl hk;have hg:∀ (i:Nat) (c:Cl),l[i]? = some c->∃g,(eu (fP ps lift a) part)[i]? = some g/\rL ps (decide (a+1=X.length)) st a g.1 g.2 c:=fun i c hc=>dI.left h6 hc
  refine ⟨?_,fun c hc => ?_,fun c hc => ?_,fun c hc => ?_,fun i hi => ?_⟩
  .obtain ⟨i,hi⟩:=exists_mem_of_ne_nil _ hp.ne;have:=length_pos_of_mem (ZG hi (ae h5 i hi));rw [aX h5 hk];exact this
  .obtain ⟨i,hi,rfl⟩:=getElem_of_mem hc;obtain ⟨g,sY,j'⟩:=hg i _ (gE hi);obtain ⟨j,hj,e⟩:=Xf (mem_of_getElem? sY);obtain ⟨p,q,z,_,_,_,_,e2,hz⟩:=h.key (hp.lt j hj) h1 h2 h5 hy;rw [j'.1,<-e,e2];exact hz
  .obtain ⟨i,hi,rfl⟩:=getElem_of_mem hc;obtain ⟨g,sY,j'⟩:=hg i _ (gE hi);exact (iS (hp.group (mem_of_getElem? sY)) j').2
  .obtain ⟨i,hi,rfl⟩:=getElem_of_mem hc;obtain ⟨g,sY,j'⟩:=hg i _ (gE hi);exact (iS (hp.group (mem_of_getElem? sY)) j').1
  .obtain ⟨g,sY,j'⟩:=hg i _ (gE (by omega));obtain ⟨g',a2F,acZ⟩:=hg (i+1) _ (gE hi);rw [j'.1,acZ.1];have hr:=pairwise_iff_getElem.1 (IP (fP ps lift a) part) i (i+1) (bS sY).1 (bS a2F).1 (by omega);rw [(bS sY).2,(bS a2F).2] at hr;exact hr
 .dsimp only at hk jF;obtain ⟨lift,h5,_⟩:=dI.left hl hk;obtain ⟨ad0,Gi,_⟩:=dI.left hl jF;rw [aX h5 hk,aX Gi jF];refine a9R (ae h5) (fun i hi j hj e => ?_);obtain ⟨y,hy,_⟩:=h.dm h1 h2 h5;obtain ⟨_,q,z,_,_,e1,e2,e3,_⟩:=h.key (hp.lt i hi) h1 h2 h5 hy;obtain ⟨_,q',z',_,_,TI,FV,TJ,_⟩:=h.key (hp.lt j hj) h1 h2 h5 hy;rw [e3,TJ] at e;subst e;unfold fP;rw [e1,TI,h.FA a ls k lift ad0 q q' z h1 h5 Gi e2 FV]
end
end Go.Proofs.YtjopcamkclndlaaGreat.Tc
namespace Go.Proofs.YtjopcamkclndlaaGreat.Tc
open List Go.RowKit Base Go.Maps Go.WideMaps
def Fq (p:Nat×LN):Prop:=p.1<256/\∀i∈p.2,i<65536
theorem a9x {a b:Nat} (ha:a<256) (hb:b<256) (h:UInt8.ofNat a=UInt8.ofNat b):a=b:=by
 have:=congrArg UInt8.toNat h;simp at this;omega
theorem a8q {a b:Nat} (ha:a<65536) (hb:b<65536) (h1:UInt8.ofNat (a / 256)=UInt8.ofNat (b / 256)) (h2:UInt8.ofNat a=UInt8.ofNat b):a=b:=by
 have e1:=congrArg UInt8.toNat h1;have e2:=congrArg UInt8.toNat h2;simp at e1 e2;omega
theorem ZA:∀ {x y:LN},(∀i∈x,i<65536)->(∀i∈y,i<65536)->(x.flatMap fun i=>[UInt8.ofNat (i / 256),UInt8.ofNat i])=(y.flatMap fun i=>[UInt8.ofNat (i / 256),UInt8.ofNat i])->x=y
 | [],[],_,_,_=>rfl
 | [],b::y,_,_,h=>by rw [flatMap_nil,flatMap_cons] at h;cases h
 | a::x,[],_,_,h=>by rw [flatMap_nil,flatMap_cons] at h;cases h
 | a::x,b::y,hx,hy,h=>by
  rw [flatMap_cons,flatMap_cons] at h;injection h with h1 h
  injection h with h2 h
  have e:=a8q (hx a mem_cons_self) (hy b mem_cons_self) h1 h2;have e2:=ZA (fun i hi=>hx i (mem_cons_of_mem _ hi)) (fun i hi=>hy i (mem_cons_of_mem _ hi)) h;rw [e,e2]
theorem Za {p q:Nat×LN} (hp:Fq p) (hq:Fq q) (h:mW p.1 p.2=mW q.1 q.2):p=q:=by
 unfold mW at h;injection h with h1 h2
 exact Prod.ext (a9x hp.1 hq.1 h1) (ZA hp.2 hq.2 h2)
abbrev IG (p:Nat×LN):Lit := .string (mW p.1 p.2)
structure CO (D:DataW Unit) (parts:List (Nat×LN)):Prop where
 map:IsMap D
 at_:∀p,Fq p->D.atKey (IG p) (.lit (.int .i64 0)) = .lit (.int .i64 (((jw p.1 p.2 parts).getD 0:Nat):Int))
 has:∀p,Fq p->Maps.has D (IG p)=(jw p.1 p.2 parts).isSome
theorem CO.nil:CO (.map []:DataW Unit) []:=⟨isMap_empty,fun p _=>rfl,fun p _=>rfl⟩
theorem a0s {parts:List (Nat×LN)} {p:Nat×LN} (h:jw p.1 p.2 parts=none):jw p.1 p.2 (parts++[p])=some parts.length:=by
 unfold jw at *;rw [findIdx?_append,h];simp
theorem Yw {parts:List (Nat×LN)} {p q:Nat×LN} (h:q≠p):jw q.1 q.2 (parts++[p])=jw q.1 q.2 parts:=by
 unfold jw;rw [findIdx?_append];have:([p].findIdx? fun x=>x == (q.1,q.2))=none:=by
  have:(p == q)=false:=by simp;exact fun e=>h e.symm
  simp [findIdx?_cons,this]
 rw [this];simp
theorem CO.put {D:DataW Unit} {parts:List (Nat×LN)} (h:CO D parts) {p:Nat×LN} (hp:Fq p) (hn:jw p.1 p.2 parts=none):CO (D.put (IG p) (.lit (.int .i64 ((parts.length:Nat):Int)))) (parts++[p]):=by
 have hk:WideAt.IsKeyLit (IG p):=trivial;refine ⟨h.map.put _ _,fun q hq => ?_,fun q hq => ?_⟩
 .by_cases e:q=p
  .subst e;rw [atKey_put_same h.map hk,a0s hn];rfl
  .rw [atKey_put_other (fun hh=>e (Za hq hp (by injection hh))),Yw e];exact h.at_ q hq
 .by_cases e:q=p
  .subst e;rw [has_put_same h.map hk,a0s hn];rfl
  .rw [has_put_other (fun hh=>e (Za hq hp (by injection hh))),Yw e];exact h.has q hq
def yX (w:World) (g:Nat) (parts:List (Nat×LN)):Prop:=∃D:DataW Unit,w.ownsMap Tryz.prog 9 (plainElem Tryz.prog 3) g parts.length D/\CO D parts
theorem yX.lt {w:World} {g:Nat} {parts:List (Nat×LN)} (h:yX w g parts):g<w.heap.size:=by
 obtain ⟨D,h1,_⟩:=h;exact h1.lt
theorem yX.same {w w':World} {g:Nat} {parts:List (Nat×LN)} (h:yX w g parts) (hs:w'.heap[g]? = w.heap[g]?):yX w' g parts:=by
 obtain ⟨D,⟨es,cl,h1,h2⟩,h3⟩:=h;exact ⟨D,⟨es,cl,hs.trans h1,h2⟩,h3⟩
structure Bc where
 B:Nat
 gb:Nat
 ga:Nat
 gm:Nat
 Af:OA
 fs:List Fa
 cf:Nat
 Al:OA
 rs:List Rn
 cl:Nat
 As:OA
 xs:List Fa
 cs:Nat
 m:Nat
 most:Nat
def Bc.ps (b:Bc):List (LN×Ag):=aG b.fs
def Bc.lifts (b:Bc):List (List LN):=b.rs.map fun r=>r.fs.map Fa.keys
def Bc.X (b:Bc):List LN:=b.xs.map Fa.keys
structure Bc.Ok (b:Bc):Prop where
 cfg:xE b.ps b.lifts b.X b.m
 fit:∀f∈b.fs,eX f.ag
 most:b.most<=1000000
 bB:b.gb<b.B
 aB:b.ga<b.B
 mB:b.gm<b.B
 ba:b.gb≠b.ga
 bm:b.gb≠b.gm
 am:b.ga≠b.gm
def Bc.own (b:Bc) (k:Nat):Prop:=k=b.gb\/k=b.ga\/k=b.gm
structure Bc.Ro (b:Bc) (w:World):Prop where
 facts:dG w b.B b.Af b.fs
 lifts:sI w b.B b.Al b.rs
 shape:ep w b.B b.As b.xs
 ff:∀k,ir b.Af b.fs k->¬b.own k
 fl:∀k,N8 b.Al b.rs k->¬b.own k
 fx:∀k,ir b.As b.xs k->¬b.own k
theorem Bc.Ro.same {b:Bc} {w w':World} (h:b.Ro w) (hs:∀k,k<b.B->¬b.own k->w'.heap[k]? = w.heap[k]?):b.Ro w' :=
 ⟨h.facts.same (fun k hk=>hs k (h.facts.cW hk) (h.ff k hk)),h.lifts.same (fun k hk=>hs k (h.lifts.cW hk) (h.fl k hk)),h.shape.same (fun k hk=>hs k (h.shape.cW hk) (h.fx k hk)),h.ff,h.fl,h.fx⟩
def eo (A:OA) (vs:LV) (k:Nat):Prop:=vs≠[]/\∃off,A=some ⟨k,off,none⟩
def pQ (n:Nd) (k:Nat):Prop:=eo n.A (n.ls.map fi) k\/∃l∈n.ls,eo l.A (l.cs.flatMap bT) k
structure Bc.Dy (b:Bc) (w:World) (F:Nat->Prop) (An:OA) (cn:Nat) (nds:List Nd) (st:St) (bI:Nat):Prop where
 line:b.B<=w.heap.size
 fF:∀k,F k->b.B<=k\/b.own k
 fo:∀k,b.own k->F k
 dV:∀k,F k->k<w.heap.size
 kG:aa w b.gb 84 #[.slice b.Af b.fs.length b.cf,.slice b.Al b.rs.length b.cl,.pointer (some ⟨b.ga,0,none⟩),.map (some b.gm),.int .i64 (bI:Nat)]
 CE:aa w b.ga 160 (im b.As b.xs.length b.cs b.m An nds.length cn b.most)
 nodes:iR w b.B (.slice An nds.length cn) nds
 kY:∀k,(Value.slice An nds.length cn).ownBlock=some k->F k
 kJ:∀n∈nds,∀k,pQ n k->F k
 plain:nds.map az=st.nodes
 most:nds.length<=b.most
 len:st.parts.length=st.nodes.length
 met:yX w b.gm st.parts
def more (F:Nat->Prop) (w w':World) (k:Nat):Prop:=F k\/(w.heap.size<=k/\k<w'.heap.size)
structure Kept (F:Nat->Prop) (w w':World):Prop where
 size:w.heap.size<=w'.heap.size
 block:∀k,F k->k<w.heap.size->w'.heap[k]? = w.heap[k]?
theorem Kept.trans {F:Nat->Prop} {a b c:World} (h:Kept F a b) (k:Kept F b c):Kept F a c:=⟨aT h.size k.size,fun i hi hl=>(k.block i hi (dL hl h.size)).trans (h.block i hi hl)⟩
theorem Kept.below {F:Nat->Prop} {w w':World} (hb:Below w.heap.size w w'):Kept F w w':=⟨hb.size,fun k _ hk=>hb.block k hk⟩
theorem Kept.set {F:Nat->Prop} (w:World) (p:Addr) (u:Value) (hp:¬F p.block):Kept F w (w.setCell p u):=⟨by simp,fun k hk _=>Below.heap_setCell w p u k (fun e=>hp (e▸hk))⟩
theorem Kept.app {F:Nat->Prop} {w w':World} {v v':Value} (h:App w w' v v') (hv:∀k,v.ownBlock=some k->¬F k):Kept F w w':=⟨h.grown.size,fun k hk hl=>h.de hl (fun e=>hv k e hk)⟩
theorem pL {w w':World} {B:Nat} {A:OA} {vs:LV} (h:Row w B A vs) (hs:∀k,eo A vs k->w'.heap[k]? = w.heap[k]?):Row w' B A vs:=yJ h (fun k off e av=>hs k ⟨av,off,e⟩)
theorem Row.cW {w:World} {B:Nat} {A:OA} {vs:LV} (h:Row w B A vs) {k:Nat} (hk:eo A vs k):k<B:=by
 obtain ⟨av,off,e⟩:=hk;rcases h with h0 | ⟨b',jy,e',hb,_⟩
 .exact absurd h0 av
 .rw [e] at e';injection e' with e'
  injection e' with e1 _ _
  omega
theorem oL {w w':World} {B:Nat} {e:TypeId} {sz n:Nat} {v:Value} {xs:LV} (h:w.ownsRow B e sz v n xs) (hs:∀k,v.ownBlock=some k->w'.heap[k]? = w.heap[k]?):w'.ownsRow B e sz v n xs:=by
 obtain ⟨h1,h2⟩:=h;refine ⟨h1,?_⟩;rcases h2 with h2 | ⟨g,cap,cur,e,hB,hh,r⟩
 .exact .inl h2
 .exact .inr ⟨g,cap,cur,e,hB,(hs g (by rw [e];rfl)).trans hh,r⟩
theorem zc {w w':World} {v:Value} {A:OA} {vs:LV} (h:Ap w v A vs) (hz:w.heap.size<=w'.heap.size) (hs:∀k,eo A vs k->w'.heap[k]? = w.heap[k]?):Ap w' v A vs:=⟨(pL h.1 hs).more hz,h.2⟩
theorem Bc.Dy.pO {b:Bc} {w w':World} {F:Nat->Prop} {An:OA} {cn:Nat} {nds:List Nd} {st:St} {bI:Nat} (h:b.Dy w F An cn nds st bI) (hk:Kept F w w'):b.Dy w' F An cn nds st bI where
 line:=aT h.line hk.size
 fF:=h.fF
 fo:=h.fo
 dV:=fun k hf=>dL (h.dV k hf) hk.size
 kG:=(hk.block b.gb (h.fo _ (.inl rfl)) h.kG.lt).trans h.kG
 CE:=(hk.block b.ga (h.fo _ (.inr (.inl rfl))) h.CE.lt).trans h.CE
 nodes:=⟨oL h.nodes.1 (fun k hv=>hk.block k (h.kY k hv) (h.nodes.1.lt k hv).2),fun n hn=>⟨⟨zc (h.nodes.2 n hn).1.1 hk.size (fun k hf=>hk.block k (h.kJ n hn k (.inl hf)) (h.dV k (h.kJ n hn k (.inl hf)))),
  fun l hl=>zc ((h.nodes.2 n hn).1.2 l hl) hk.size (fun k hf=>hk.block k (h.kJ n hn k (.inr ⟨l,hl,hf⟩)) (h.dV k (h.kJ n hn k (.inr ⟨l,hl,hf⟩))))⟩,(h.nodes.2 n hn).2⟩⟩
 kY:=h.kY
 kJ:=h.kJ
 plain:=h.plain
 most:=h.most
 len:=h.len
 met:=h.met.same (hk.block b.gm (h.fo _ (.inr (.inr rfl))) h.met.lt)
theorem Bc.Dy.wide {b:Bc} {w:World} {F F':Nat->Prop} {An:OA} {cn:Nat} {nds:List Nd} {st:St} {bI:Nat} (h:b.Dy w F An cn nds st bI) (hF:∀k,F k->F' k) (h1:∀k,F' k->b.B<=k\/b.own k) (h2:∀k,F' k->k<w.heap.size):b.Dy w F' An cn nds st bI :=
 ⟨h.line,h1,fun k hk=>hF k (h.fo k hk),h2,h.kG,h.CE,h.nodes,fun k hk=>hF k (h.kY k hk),fun n hn k hk=>hF k (h.kJ n hn k hk),h.plain,h.most,h.len,h.met⟩
end Go.Proofs.YtjopcamkclndlaaGreat.Tc
namespace Go.Proofs.YtjopcamkclndlaaGreat.Tc
open List Go.RowKit Base
theorem aai {p:Nat->Prop} {a b:World} (h:bK p a b) {q:Addr} (hq:a.heap.size<=q.block) (v:Value):bK p a (b.setCell q v) :=
 have k:=(aq 0 b).setCell (p:=q) (aZ _) v
 ⟨k.os.trans h.os,k.tape.trans h.tape,k.output.trans h.output,aT h.size k.size,fun i hi hp=>(Below.heap_setCell b q v i (by omega)).trans (h.block i hi hp)⟩
theorem IN {p:Nat->Prop} {a:World} {g:Nat} (hg:a.heap.size<=g):∀ (vs:LV) (b:World) (o:Nat),bK p a b->bK p a (aK b g o vs)
 | [],_,_,h=>h
 | v::vs,b,o,h=>IN hg vs _ _ (aai h (q:=⟨g,o,none⟩) hg v)
theorem Yf {p:Nat->Prop} {a b c:World} {v v':Value} (h:bK p a b) (k:App b c v v') (hv:∀j,v.ownBlock=some j->a.heap.size<=j):bK p a c :=
 ⟨k.grown.os.trans h.os,k.grown.tape.trans h.tape,k.grown.output.trans h.output,aT h.size k.grown.size,fun i hi hp=>(k.de (dL hi h.size) (fun e=>by have:=hv i e;omega)).trans (h.block i hi hp)⟩
theorem EF {F:Nat->Prop} {g:Nat} (hg:¬F g):∀ (vs:LV) (w:World) (o:Nat),Kept F w (aK w g o vs)
 | [],_,_=>⟨ah _,fun _ _ _=>rfl⟩
 | v::vs,w,o=>(Kept.set w ⟨g,o,none⟩ v hg).trans (EF hg vs _ _)
theorem Bc.Ro.bU {b:Bc} {w w':World} {F:Nat->Prop} (h:b.Ro w) (ht:bK F w w') (hB:b.B<=w.heap.size) (hF:∀k,F k->b.B<=k\/b.own k):b.Ro w' :=
 h.same fun k hk hn=>ht.block k (by omega) (fun hf=>(hF k hf).elim (fun h1=>by omega) (fun h1=>hn h1))
theorem sB {F:Nat->Prop} {w w1 w2 w':World} (h1:w.heap.size<=w1.heap.size) (h2:w2.heap.size<=w'.heap.size) {k:Nat} (h:more F w1 w2 k):more F w w' k:=by
 rcases h with h | ⟨h3,h4⟩
 .exact .inl h
 .exact .inr ⟨by omega,by omega⟩
structure uU (b:Bc) (F:Nat->Prop) (w w':World) (cX:OA) (cY:Nat) (fC:List Nd) (dT:St) (eJ:Nat):Prop where
 dy:b.Dy w' (more F w w') cX cY fC dT eJ
 bU:bK F w w'
def MN (b:Bc) (f:Rec) (F:Nat->Prop) (bI:Nat) (st:St) (part:LN) (w:World) (e:Ending) (w':World):Prop :=
 ∃ (i:Nat) (cX:OA) (cY:Nat) (fC:List Nd) (dT:St) (eJ:Nat),e = .returned (.int .i64 (i:Nat))/\uU b F w w' cX cY fC dT eJ /\
  (bI=0->∀r,f part st=some r->eJ=0/\dT=r.1/\i=r.2)/\(bI=0->f part st=none->eJ=7)/\(bI=7->eJ=7)/\(eJ=0\/eJ=7)
def ES (b:Bc) (f:Option Rec) (F:Nat->Prop) (bI key:Nat) (st:St) (part:LN) (w:World) (e:Ending) (w':World):Prop :=
 ∃ (c:Cl) (cX:OA) (cY:Nat) (fC:List Nd) (dT:St) (eJ:Nat),e = .returned (.agg (bQ c))/\uU b F w w' cX cY fC dT eJ /\
  (bI=0->∀r,il b.ps f key part st=some r->eJ=0/\dT=r.1/\c=r.2)/\(bI=0->il b.ps f key part st=none->eJ=7)/\(bI=7->eJ=7)/\(eJ=0\/eJ=7)
structure Start (b:Bc) (F:Nat->Prop) (An:OA) (cn:Nat) (nds:List Nd) (st:St) (bI:Nat) (Ap:OA) (part:LN) (w:World):Prop where
 ro:b.Ro w
 dy:b.Dy w F An cn nds st bI
 row:Row w w.heap.size Ap (aP part)
 off:∀k,eo Ap (aP part) k->¬F k
 pt:kV b.ps part
 er:bI=0\/bI=7
 kZ:bI=0->Good b.ps b.lifts b.X.length st
theorem Start.below {b:Bc} {F:Nat->Prop} {An:OA} {cn:Nat} {nds:List Nd} {st:St} {bI:Nat} {Ap:OA} {part:LN} {w w':World} (h:Start b F An cn nds st bI Ap part w) (hb:Below w.heap.size w w'):Start b F An cn nds st bI Ap part w' :=
 ⟨h.ro.same (fun k hk _=>hb.block k (by have:=h.dy.line;omega)),h.dy.pO (Kept.below hb),(h.row.below hb).more hb.size,h.off,h.pt,h.er,h.kZ⟩
def PS (b:Bc) (at_:Nat) (f:Rec):Prop:=∀F An cn nds st bI Ap cp part w,Start b F An cn nds st bI Ap part w ->
 Calls Tryz.prog 32 #[.pointer (some ⟨b.gb,0,none⟩),.int .i64 (at_:Nat),.slice Ap part.length cp] w (MN b f F bI st part w)
def Qj (b:Bc) (at_:Nat) (f:Option Rec):Prop:=∀F An cn nds st bI Ap cp key part w,Start b F An cn nds st bI Ap part w ->
 Calls Tryz.prog 77 #[.pointer (some ⟨b.gb,0,none⟩),.int .i64 (at_:Nat),.int .i64 (key:Nat),.slice Ap part.length cp] w (ES b f F bI key st part w)
theorem Zt {b:Bc} (hb:b.Ok) {part:LN} (h:kV b.ps part):part.length<=1000:=by
 have:=Be part (range b.ps.length) h.nd (fun i hi=>mem_range.2 (h.lt i hi));rw [length_range] at this;have:=hb.cfg.J5;omega
theorem PW {b:Bc}:b.ps.length=b.fs.length:=by unfold Bc.ps aG;rw [lM]
theorem Mk {b:Bc} (hb:b.Ok):b.rs.length=b.X.length:=by
 have:=hb.cfg.len;unfold Bc.lifts at this;rw [lM] at this;exact this
theorem abA (b:Bc) (hb:b.Ok) (at_:Nat) (br:at_+1=b.X.length):Qj b at_ none:=by
 intro F An cn nds st bI Ap cp key part w hs
 have HQ:=kp (show ∀ (c:Cl) w',uU b F w w' An cn nds st bI->c=⟨key,0,(tG b.ps part).getD aO⟩->ES b none F bI key st part w (.returned (.agg (bQ c))) w' from fun c w' h1 h2 =>
  ⟨c,An,cn,nds,st,bI,rfl,h1,fun h r hr=>by unfold il at hr;injection hr with hr;subst hr;exact ⟨h,rfl,h2⟩,fun h hr=>by (unfold il at hr;cases hr),fun h=>h,hs.er⟩)
 obtain ⟨r,hr,my⟩:=hb.cfg.IU part hs.pt;have cM:=Zt hb hs.pt;have oV:b.fs.length<=1000:=by have:=hb.cfg.J5;rw [PW] at this;exact this
 have lh:=hs.pt.lt;rw [PW] at lh;have HS:=kp (fun w h1 h2 h3=>a5u b.gb b.Af Ap b.fs b.cf cp (.slice b.Al b.rs.length b.cl) (.pointer (some ⟨b.ga,0,none⟩)) (.map (some b.gm)) (.int .i64 (bI:Nat)) part w h1 h2 h3 (by omega) (by omega) lh hb.fit r hr);have ku:=(aq w.heap.size w).alloc (ah _) (.cells zC 98);have HB:=kp (aa.new w 98 zC);have Hs:=kp hs;have iV:=kp (hs.below ku);have jT:=kp ku;have nw:=Mk hb;have Hr:=kp hr;have Oe:=hb.cfg.n16;clear hs ku hr;generalize hQ:ES b none F bI key st part w=Q at *;clear hQ;generalize dk:w.alloc (.cells zC 98)=W1 at *;obtain ⟨x0,x1,x4⟩:W1.cell? ⟨b.gb,0,none⟩=some (.slice b.Af b.fs.length b.cf)/\W1.cell? ⟨b.gb,1,none⟩=some (.slice b.Al b.rs.length b.cl)/\True:=⟨iV.o.dy.kG.cell 0,iV.o.dy.kG.cell 1,trivial⟩
 have jC:=kp (HS.o W1 iV.o.dy.kG ((iV.o.ro.facts.more iV.o.dy.line)) iV.o.row);have q1:((at_:Int) == (b.rs.length:Int)-1)=true:=by simp;omega
 have hw:IntKind.i64.wrap ((b.rs.length:Int)-1)=(b.rs.length:Int)-1:=IntWalk.i64_in _ (by omega);generalize b.rs.length=rl at *;clear nw Oe cM oV lh my hb br;go_enter Tryz.func77,Tryz.ntmps77;go_wp2_with fail;refine jC.o.mono ?_;rintro e w2 ⟨rfl,aH⟩;have aV:=bu HB aH;have aF:=kp aH;clear aH x0 x1 x4 dk jC;obtain ⟨rD,fD⟩:=aa.fQ aV.o;obtain ⟨Wf,bW⟩:∃Wf,aK w2 w.heap.size 0 [.int .i64 (key:Nat),.int .i64 0,.int .i64 r.c,.int .i64 r.s0,.int .i64 r.n0,.int .i64 r.x0,.int .i64 r.s1,.int .i64 r.n1,.int .i64 r.x1,.int .i64 r.s2,.int .i64 r.n2,.int .i64 r.x2]=Wf:=⟨_,rfl⟩
 have dW:=kp (show aa Wf w.heap.size 98 (bQ ⟨key,0,r⟩) by rw [<-bW];exact eO aV.o _ rfl)
 have pz:=kp (show uU b F w Wf An cn nds st bI by
  have Gj:¬F w.heap.size:=fun h=>by have:=Hs.o.dy.dV _ h;omega
  have hk:Kept F w Wf:=by rw [<-bW];exact (Kept.below (jT.o.trans (aF.o.mono jT.o.size))).trans (EF Gj _ _ _)
  have hd:=Hs.o.dy.pO hk;refine ⟨hd.wide (fun k h => .inl h) (fun k h => ?_) (fun k h => ?_),?_⟩
  .rcases h with h | ⟨h,_⟩
   .exact hd.fF k h
   .exact .inl (aT Hs.o.dy.line h)
  .rcases h with h | ⟨_,h⟩
   .exact hd.dV k h
   .exact h
  .rw [<-bW]
   exact IN (ah _) _ _ _ (bK.below (jT.o.trans (aF.o.mono jT.o.size))))
 simp only [aK,Nat.zero_add,Nat.reduceAdd] at bW;have bN:=kp (HQ.o ⟨key,0,r⟩ Wf pz.o (by rw [Hr.o];rfl));obtain ⟨z0,z1,z2,z3,z4,z5,z6,z7,z8,z9,iX,iY⟩:=(aa.fQ dW.o).1;clear dW pz HQ Hr HB aV Hs iV jT aF HS;go_wp2_with fail;refine bodyPost_ret (v := .agg (bQ ⟨key,0,r⟩)) ?_ rfl bN.o;simp [results,Tryz.results77,go_sem,z0,z1,z2,z3,z4,z5,z6,z7,z8,z9,iX,iY]
theorem uU.set {b:Bc} {F:Nat->Prop} {w w1 w2:World} {An:OA} {cn:Nat} {nds:List Nd} {st:St} {bI:Nat} (h:uU b F w1 w2 An cn nds st bI) (hb:Below w.heap.size w w1) (hB:b.B<=w.heap.size) (hF:∀k,F k->k<w.heap.size) {g:Nat} (hg:w.heap.size<=g) (sY:g<w1.heap.size) (o:Nat) (vs:LV):uU b F w (aK w2 g o vs) An cn nds st bI:=by
 have Gj:¬more F w1 w2 g:=fun hk=>by
  rcases hk with hk | ⟨hk,_⟩
  .have:=hF g hk;omega
  .omega
 have hk:Kept (more F w1 w2) w2 (aK w2 g o vs):=EF Gj _ _ _;have hd:=h.dy.pO hk;refine ⟨hd.wide (fun k h'=>sB hb.size hk.size h') (fun k h' => ?_) (fun k h' => ?_),IN hg _ _ _ ((bK.below hb).trans h.bU)⟩
 .rcases h' with h' | ⟨h',_⟩
  .exact hd.fF k (.inl h')
  .exact .inl (aT hB h')
 .rcases h' with h' | ⟨_,h'⟩
  .exact hd.dV k (.inl h')
  .exact h'
theorem a73 (b:Bc) (hb:b.Ok) (at_:Nat) (br:at_+1<b.X.length) (f:Rec) (hf:PS b (at_+1) f):Qj b at_ (some f):=by
 intro F An cn nds st bI Ap cp key part w hs
 have HQ:=kp (show ∀ (i:Nat) (cX:OA) (cY:Nat) (fC:List Nd) (dT:St) (eJ:Nat) w',uU b F w w' cX cY fC dT eJ ->
  ((bI=0->∀r,f part st=some r->eJ=0/\dT=r.1/\i=r.2)/\(bI=0->f part st=none->eJ=7)/\(bI=7->eJ=7)/\(eJ=0\/eJ=7))->ES b (some f) F bI key st part w (.returned (.agg (bQ ⟨key,i,aO⟩))) w' from fun i cX cY fC dT eJ w' h1 h2 =>
  ⟨⟨key,i,aO⟩,cX,cY,fC,dT,eJ,rfl,h1,fun h r hr=>by
   unfold il at hr;obtain ⟨q,hq,e⟩:=Option.map_eq_some_iff.1 hr;obtain ⟨k1,k2,k3⟩:=h2.1 h q hq;subst e;exact ⟨k1,k2,by rw [k3]⟩,fun h hr=>by
   unfold il at hr
   exact h2.2.1 h (Option.map_eq_none_iff.1 hr),h2.2.2.1,h2.2.2.2⟩)
 have ku:=(aq w.heap.size w).alloc (ah _) (.cells zC 98);have HB:=kp (aa.new w 98 zC);have gv:=hs.below ku;have jT:=kp ku;have jC:=kp (hf F An cn nds st bI Ap cp part _ gv);have bL:=kp gv.dy.kG;have Gk:=kp hs.dy.line;have a2G:=kp hs.dy.dV;have nw:=Mk hb;have Oe:=hb.cfg.n16;clear hs ku gv;generalize hQ:ES b (some f) F bI key st part w=Q at *;clear hQ;generalize dk:w.alloc (.cells zC 98)=W1 at *;have wV:w.heap.size<W1.heap.size:=HB.o.lt;have Hg:=kp wV;obtain ⟨x1,x4⟩:W1.cell? ⟨b.gb,1,none⟩=some (.slice b.Al b.rs.length b.cl)/\True:=⟨bL.o.cell 1,trivial⟩
 have q1:((at_:Int) == (b.rs.length:Int)-1)=false:=by simp;omega
 have hw:IntKind.i64.wrap ((b.rs.length:Int)-1)=(b.rs.length:Int)-1:=IntWalk.i64_in _ (by omega);have Tl:IntKind.i64.wrap ((at_:Int)+1)=((at_+1:Nat):Int):=by rw [IntWalk.i64_in _ (by omega)];omega
 generalize b.rs.length=rl at *;clear nw Oe hb br hf wV;go_enter Tryz.func77,Tryz.ntmps77;go_wp2_with fail;refine jC.o.mono ?_;rintro e w2 ⟨i,cX,cY,fC,dT,eJ,rfl,wY,eC,lZ,uZ,hr4⟩;have Hr:=kp (And.intro eC (And.intro lZ (And.intro uZ hr4)));have Hd2:=kp wY;have aV:=kp (show aa w2 w.heap.size 98 zC from (wY.bU.block w.heap.size Hg.o (fun h=>by have:=a2G.o _ h;omega)).trans HB.o);clear wY eC lZ uZ hr4 x1 x4 dk jC;obtain ⟨rD,fD⟩:=aa.fQ aV.o;obtain ⟨Wf,bW⟩:∃Wf,aK w2 w.heap.size 0 [.int .i64 (key:Nat),.int .i64 (i:Nat),.int .i64 0,.int .i64 0,.int .i64 0,.int .i64 0,.int .i64 0,.int .i64 0,.int .i64 0,.int .i64 0,.int .i64 0,.int .i64 0]=Wf:=⟨_,rfl⟩
 have dW:=kp (show aa Wf w.heap.size 98 (bQ ⟨key,i,aO⟩) by rw [<-bW];exact eO aV.o _ rfl)
 have pz:=kp (show uU b F w Wf cX cY fC dT eJ by
  rw [<-bW]
  exact Hd2.o.set jT.o Gk.o a2G.o (ah _) Hg.o _ _)
 simp only [aK,Nat.zero_add,Nat.reduceAdd] at bW;have bN:=kp (HQ.o i cX cY fC dT eJ Wf pz.o Hr.o);obtain ⟨z0,z1,z2,z3,z4,z5,z6,z7,z8,z9,iX,iY⟩:=(aa.fQ dW.o).1;clear dW pz HQ HB aV jT Hr Hd2;go_wp2_with fail;refine bodyPost_ret (v := .agg (bQ ⟨key,i,aO⟩)) ?_ rfl bN.o;simp [results,Tryz.results77,go_sem,z0,z1,z2,z3,z4,z5,z6,z7,z8,z9,iX,iY]
structure dZ (b:Bc) (F0:Nat->Prop) (w w':World) (F:Nat->Prop) (An:OA) (cn:Nat) (nds:List Nd) (st:St) (bI:Nat):Prop where
 dy:b.Dy w' F An cn nds st bI
 bU:bK F0 w w'
 sub:∀k,F k->more F0 w w' k
section
variable {b:Bc} {F0 F F1:Nat->Prop} {w w' w1 w2:World} {An pC:OA} {cn pE:Nat} {nds pF:List Nd} {st wZ:St} {bI BV:Nat}
theorem dZ.start (h:b.Dy w F An cn nds st bI):dZ b F w w F An cn nds st bI:=⟨h,bK.refl _ _,fun k hk => .inl hk⟩
theorem dZ.below (h:dZ b F0 w w' F An cn nds st bI) (hb:Below w'.heap.size w' w1):dZ b F0 w w1 F An cn nds st bI :=
 ⟨h.dy.pO (Kept.below hb),h.bU.trans (bK.below hb),fun k hk=>sB (ah _) hb.size (h.sub k hk)⟩
theorem dZ.trans (h:dZ b F0 w w' F An cn nds st bI) (k:dZ b F w' w1 F1 pC pE pF wZ BV):dZ b F0 w w1 F1 pC pE pF wZ BV :=
 ⟨k.dy,⟨k.bU.os.trans h.bU.os,k.bU.tape.trans h.bU.tape,k.bU.output.trans h.bU.output,aT h.bU.size k.bU.size,fun i hi hp=>(k.bU.block i (dL hi h.bU.size) (fun hf=>by
  rcases h.sub i hf with h1 | ⟨h1,_⟩
  .exact hp h1
  .omega)).trans (h.bU.block i hi hp)⟩,fun i hi=>by
  rcases k.sub i hi with h1 | ⟨h1,h2⟩
  .exact sB (ah _) k.bU.size (h.sub i h1)
  .exact .inr ⟨aT h.bU.size h1,h2⟩⟩
theorem uU.mN (h:uU b F w w1 An cn nds st bI):dZ b F w w1 (more F w w1) An cn nds st bI:=⟨h.dy,h.bU,fun k hk=>hk⟩
theorem dZ.uL (h:dZ b F0 w w' F An cn nds st bI) (h0:∀k,F0 k->F k) (hB:b.B<=w.heap.size):uU b F0 w w' An cn nds st bI:=by
 refine ⟨h.dy.wide h.sub (fun k hk => ?_) (fun k hk => ?_),h.bU⟩
 .rcases hk with hk | ⟨hk,_⟩
  .exact h.dy.fF k (h0 k hk)
  .exact .inl (aT hB hk)
 .rcases hk with hk | ⟨_,hk⟩
  .exact h.dy.dV k (h0 k hk)
  .exact hk
theorem dZ.app {v v':Value} (h:dZ b F0 w w' F An cn nds st bI) (ha:App w' w1 v v') (hv:∀k,v.ownBlock=some k->w.heap.size<=k/\¬F k):dZ b F0 w w1 F An cn nds st bI :=
 ⟨h.dy.pO (Kept.app ha (fun k hk=>(hv k hk).2)),Yf h.bU ha (fun k hk=>(hv k hk).1),fun k hk=>sB (ah _) ha.grown.size (h.sub k hk)⟩
theorem dZ.aK (h:dZ b F0 w w' F An cn nds st bI) {g:Nat} (hg:w.heap.size<=g) (hF:¬F g) (o:Nat) (vs:LV):dZ b F0 w (aK w' g o vs) F An cn nds st bI :=
 have k:Kept F w' (Tc.aK w' g o vs):=EF hF vs w' o
 ⟨h.dy.pO k,IN hg _ _ _ h.bU,fun i hi=>sB (ah _) k.size (h.sub i hi)⟩
theorem dZ.set (h:dZ b F0 w w' F An cn nds st bI) {g o:Nat} (hg:w.heap.size<=g) (hF:¬F g) (v:Value):dZ b F0 w (w'.setCell ⟨g,o,none⟩ v) F An cn nds st bI:=h.aK hg hF o [v]
theorem dZ.still (h:dZ b F0 w w' F An cn nds st bI) {k:Nat} (hk:k<w.heap.size) (hn:¬F0 k):w'.heap[k]? = w.heap[k]? := h.bU.block k hk hn
theorem dZ.off (h:dZ b F0 w w' F An cn nds st bI) {k:Nat} (hk:k<w.heap.size) (hn:¬F0 k):¬F k:=fun hf=>by
 rcases h.sub k hf with h1 | ⟨h1,_⟩
 .exact hn h1
 .omega
theorem dZ.row (h:dZ b F0 w w' F An cn nds st bI) {A:OA} {vs:LV} (hr:Row w w.heap.size A vs) (hn:∀k,eo A vs k->¬F0 k):Row w' w'.heap.size A vs/\∀k,eo A vs k->¬F k :=
 ⟨(pL hr (fun k hk=>h.still (Row.cW hr hk) (hn k hk))).more h.bU.size,fun k hk=>h.off (Row.cW hr hk) (hn k hk)⟩
theorem dZ.box (h:dZ b F0 w w' F An cn nds st bI) {g:Nat} {t:TypeId} {cs:AV} (hb:aa w g t cs) (hn:¬F0 g):aa w' g t cs/\¬F g:=⟨(h.still hb.lt hn).trans hb,h.off hb.lt hn⟩
theorem dZ.a1d (hm:dZ b F0 w w' F An cn nds st bI) (my:b.Ro w) (hl:b.B<=w.heap.size) (h0:∀k,F0 k->b.B<=k\/b.own k) {Ap:OA} {part:LN} (hr:Row w' w'.heap.size Ap (aP part)) (hf:∀k,eo Ap (aP part) k->¬F k) (hp:kV b.ps part) (he:bI=0\/bI=7) (hg:bI=0->Good b.ps b.lifts b.X.length st):Start b F An cn nds st bI Ap part w' :=
 ⟨my.bU hm.bU hl h0,hm.dy,hr,hf,hp,he,hg⟩
end
structure iB (w:World) (F:Nat->Prop) (B:Nat) (v:Value) (ls:List Ll):Prop where
 own:jI w B v ls
 off:∀k,v.ownBlock=some k->¬F k
 each:∀l∈ls,∀k,eo l.A (l.cs.flatMap bT) k->¬F k
theorem Ye {w:World} {v:Value} {A:OA} {vs:LV} (h:Ap w v A vs) {k:Nat} (hk:eo A vs k):k<w.heap.size:=Row.cW h.1 hk
theorem iB.same {w w':World} {F F':Nat->Prop} {B:Nat} {v:Value} {ls:List Ll} (h:iB w F B v ls) (hz:w.heap.size<=w'.heap.size) (hs:∀k,k<w.heap.size->¬F k->w'.heap[k]? = w.heap[k]?) (hF:∀k,k<w.heap.size->¬F k->¬F' k):iB w' F' B v ls :=
 ⟨⟨oL h.own.1 (fun k hk=>hs k (h.own.1.lt k hk).2 (h.off k hk)),fun l hl=>⟨zc (h.own.2 l hl).1 hz (fun k hk=>hs k (Ye (h.own.2 l hl).1 hk) (h.each l hl k hk)),(h.own.2 l hl).2⟩⟩,
  fun k hk=>hF k (h.own.1.lt k hk).2 (h.off k hk),fun l hl k hk=>hF k (Ye (h.own.2 l hl).1 hk) (h.each l hl k hk)⟩
theorem iB.mN {b:Bc} {w w':World} {F0 F:Nat->Prop} {An:OA} {cn:Nat} {nds:List Nd} {st:St} {bI:Nat} (hm:dZ b F0 w w' F An cn nds st bI) {B:Nat} {v:Value} {ls:List Ll} (h:iB w F0 B v ls):iB w' F B v ls :=
 h.same hm.bU.size (fun k hk hn=>hm.still hk hn) (fun k hk hn=>hm.off hk hn)
theorem iB.below {w w':World} {F:Nat->Prop} {B:Nat} {v:Value} {ls:List Ll} (h:iB w F B v ls) (hb:Below w.heap.size w w'):iB w' F B v ls:=h.same hb.size (fun k hk _=>hb.block k hk) (fun k _ hn=>hn)
structure jG (w:World) (F:Nat->Prop) (B:Nat) (v:Value) (cs:List Cl):Prop where
 own:w.ownsRow B 98 12 v cs.length (cs.flatMap bT)
 off:∀k,v.ownBlock=some k->¬F k
theorem jG.mN {b:Bc} {w w':World} {F0 F:Nat->Prop} {An:OA} {cn:Nat} {nds:List Nd} {st:St} {bI:Nat} (hm:dZ b F0 w w' F An cn nds st bI) {B:Nat} {v:Value} {cs:List Cl} (h:jG w F0 B v cs):jG w' F B v cs :=
 ⟨oL h.own (fun k hk=>hm.still (h.own.lt k hk).2 (h.off k hk)),fun k hk=>hm.off (h.own.lt k hk).2 (h.off k hk)⟩
theorem jG.below {w w':World} {F:Nat->Prop} {B:Nat} {v:Value} {cs:List Cl} (h:jG w F B v cs) (hb:Below w.heap.size w w'):jG w' F B v cs :=
 ⟨oL h.own (fun k hk=>hb.block k (h.own.lt k hk).2),h.off⟩
theorem jG.nil (w:World) (F:Nat->Prop) (B:Nat):jG w F B (.slice none 0 0) []:=⟨gL _ _ _ _,fun k hk=>by cases hk⟩
section
variable {ps:List (LN×Ag)} {f:Option Rec} {bI eJ:Nat} {st dT:St} {c:Cl}
theorem a8S {gs:List (Nat×LN)} {j:Nat} {g:Nat×LN} (hg:gs[j]? = some g) {cs:List Cl} {pR:Option (St×List Cl)} (h0:bI=0->iA ps f (gs.drop j) (st,cs)=pR) (h7:bI=7->pR=none) (he:bI=0\/bI=7)
 (c1:bI=0->∀r,il ps f g.1 g.2 st=some r->eJ=0/\dT=r.1/\c=r.2) (c2:bI=0->il ps f g.1 g.2 st=none->eJ=7) (c3:bI=7->eJ=7) :
 (eJ=0->bI=0/\il ps f g.1 g.2 st=some (dT,c)/\iA ps f (gs.drop (j+1)) (dT,cs++[c])=pR)/\(eJ=7->pR=none):=by
 have hd:gs.drop j=g::gs.drop (j+1):=by
  obtain ⟨hj,e⟩:=bS hg;rw [drop_eq_getElem_cons hj,e]
 rcases he with he | he
 .have pj:=h0 he;rw [hd] at pj;unfold iA at pj;rcases hc:il ps f g.1 g.2 st with _ | r
  .rw [hc] at pj;have:=c2 he hc;exact ⟨fun h=>by omega,fun _=>pj.symm⟩
  .obtain ⟨k1,k2,k3⟩:=c1 he r hc;rw [hc] at pj;subst k2 k3;exact ⟨fun _=>⟨he,rfl,pj⟩,fun h=>by omega⟩
 .exact ⟨fun h=>by have:=c3 he;omega,fun _=>h7 he⟩
theorem a6N {at_:Nat} {part:LN} {lifts:List LN} {k:Nat} {l:LN} (hl:lifts[k]? = some l) {ls:List (List Cl)} {zQ:Option (St×List (List Cl))} (h0:bI=0->iP ps f at_ part (lifts.drop k) (st,ls)=zQ) (h7:bI=7->zQ=none) (he:bI=0\/bI=7)
 {cs:List Cl} (c0:eJ=0->iA ps f [] (dT,cs)=if bI=0 then iA ps f (eu (fP ps l at_) part) (st,[]) else none) (c7:eJ=7->(if bI=0 then iA ps f (eu (fP ps l at_) part) (st,[]) else none)=none) :
 (eJ=0->iP ps f at_ part (lifts.drop (k+1)) (dT,ls++[cs])=zQ)/\(eJ=7->zQ=none):=by
 have hd:lifts.drop k=l::lifts.drop (k+1):=by
  obtain ⟨hj,e⟩:=bS hl;rw [drop_eq_getElem_cons hj,e]
 rcases he with he | he
 .have pj:=h0 he;rw [hd] at pj;unfold iP at pj;rw [if_pos he] at c0 c7;refine ⟨fun h => ?_,fun h => ?_⟩
  .rw [<-c0 h] at pj;exact pj
  .rw [c7 h] at pj;exact pj.symm
 .rw [if_neg (by omega)] at c0 c7;exact ⟨(fun h=>by have:=c0 h;cases this),fun _=>h7 he⟩
end
theorem abl {w:World} {B:Nat} {A:OA} {l:List Gr} (h:Row w B A (l.flatMap gI)) (k:Nat) (hk:k<l.length) :
 ∃b off,A=some ⟨b,off,none⟩/\b<B/\w.cell? ⟨b,off+k*2,none⟩=some (.int .i64 (l[k].key:Nat))/\w.cell? ⟨b,off+k*2+1,none⟩=some (.slice l[k].A l[k].part.length l[k].c):=by
 obtain ⟨b,off,e,hb,hc⟩:=Row.rec Fb h (by omega) k hk;exact ⟨b,off,e,hb,hc 0 _ rfl,hc 1 _ rfl⟩
theorem iB.app {w w':World} {F:Nat->Prop} {B B2 n c n' c':Nat} {A A':OA} {ls:List Ll} {l:Ll} (h:iB w F B (.slice A n c) ls) (hc:jG w F B2 (.slice l.A l.cs.length l.c) l.cs) (hB:B<=B2) (ae:∀k,(Value.slice A n c).ownBlock=some k->k<B2)
 (ho:w'.ownsRow B 164 1 (.slice A' n' c') (n+1) (ls.map fi++[fi l])) (ha:App w w' (.slice A n c) (.slice A' n' c')) (hn:ls.length=n) (hF:∀k,F k->k<w.heap.size):iB w' F B (.slice A' n' c') (ls++[l]):=by
 have fv:Ap w (.slice A n c) l.A (l.cs.flatMap bT):=PO (gV hc.own) (kh.own hc.own (ah _)) ae;refine ⟨h.own.app fv (kh.own hc.own hB) ho ha hn,fun k hk hf => ?_,fun x hx k hk => ?_⟩
 .rcases ha.qH with hl | ⟨j,hl,hj⟩
  .rw [hl] at hk;exact h.off k hk hf
  .rw [hl] at hk;injection hk with hk
   have:=hF k hf;omega
 .rcases mem_append.1 hx with hx | hx
  .exact h.each x hx k hk
  .rw [mem_singleton.1 hx] at hk;obtain ⟨av,off,e⟩:=hk;exact hc.off k (by rw [e];rfl)
theorem iB.bX {w:World} {F:Nat->Prop} {B:Nat} {v:Value} {ls:List Ll} (h:iB w F B v ls) {p:Addr} (hp:p.block<B) (u:Value):iB (w.setCell p u) F B v ls:=⟨h.own.bX hp u,h.off,h.each⟩
theorem jG.app {w w':World} {F:Nat->Prop} {B n c n' c':Nat} {A A':OA} {cs:List Cl} {x:Cl} (h:jG w F B (.slice A n c) cs)
 (ho:w'.ownsRow B 98 12 (.slice A' n' c') (n+1) (cs.flatMap bT++bT x)) (ha:App w w' (.slice A n c) (.slice A' n' c')) (hn:cs.length=n) (hF:∀k,F k->k<w.heap.size):jG w' F B (.slice A' n' c') (cs++[x]):=by
 refine ⟨by rw [aS,hn,flatMap_append,flatMap_cons,flatMap_nil,append_nil];exact ho,fun k hk hf => ?_⟩;rcases ha.qH with hl | ⟨j,hl,hj⟩
 .rw [hl] at hk;exact h.off k hk hf
 .rw [hl] at hk;injection hk with hk
  have:=hF k hf;omega
theorem a7a {b:Bc} {i:Nat} {p:LN×Ag} (h:b.ps[i]? = some p):∃f,b.fs[i]? = some f/\p=(f.keys,f.ag):=by
 unfold Bc.ps aG at h;rw [getElem?_map] at h;obtain ⟨f,hf,e⟩:=Option.map_eq_some_iff.1 h;exact ⟨f,hf,e.symm⟩
theorem aaC {b:Bc} {a:Nat} {ls:List LN} (h:b.lifts[a]? = some ls):∃r,b.rs[a]? = some r/\ls=r.fs.map Fa.keys:=by
 unfold Bc.lifts at h;rw [getElem?_map] at h;obtain ⟨f,hf,e⟩:=Option.map_eq_some_iff.1 h;exact ⟨f,hf,e.symm⟩
theorem a8' {b:Bc} (hb:b.Ok) {w:World} (my:b.Ro w) (hl:b.B<=w.heap.size) {at_ k:Nat} {r:Rn} {lf:Fa} (hr:b.rs[at_]? = some r) (hf:r.fs[k]? = some lf) {part:LN} (hp:kV b.ps part) :
 J1 w b.Af b.fs b.Al b.rs at_ k r lf part (fP b.ps lf.keys at_):=by
 have h1:b.lifts[at_]? = some (r.fs.map Fa.keys):=by unfold Bc.lifts;rw [getElem?_map,hr];rfl
 have br:at_<b.X.length:=by rw [<-hb.cfg.len];exact (bS h1).1
 have h2:=gE br;have h3:(r.fs.map Fa.keys)[k]? = some lf.keys:=by rw [getElem?_map,hf];rfl
 obtain ⟨y,hy,vX⟩:=hb.cfg.dm h1 h2 h3;have ht:=hb.cfg.aw at_ _ _ h1 h2;rw [lM] at ht;have BG:=gE (l:=b.X[at_]) (i:=0) (by omega);have dR:=(hb.cfg.lift at_ _ _ k _ y _ h1 h2 h3 hy BG).1;have hn:=hb.cfg.J5;rw [PW] at hn;have aeR:=Mk hb;have JB:=hb.cfg.n16;refine ⟨(my.facts).more hl,(my.lifts).more hl,hr,hf,fun i hi => ?_,by omega,by omega,by omega,by omega,fun f gZ => ?_⟩
 .obtain ⟨p,q,z,e1,e2,e3,e4,e5,e6⟩:=hb.cfg.key (hp.lt i hi) h1 h2 h3 hy;obtain ⟨f,gZ,rfl⟩:=a7a e1;exact ⟨f,q,z,gZ,e2,e4,e5,by omega⟩
 .obtain ⟨i,hi,rfl⟩:=getElem_of_mem gZ;have KA:b.ps[i]? = some (b.fs[i].keys,b.fs[i].ag):=by unfold Bc.ps aG;rw [getElem?_map,gE hi];rfl
  have:=(hb.cfg.keys i _ KA).1;dsimp only at this;omega
theorem a92 (key:Nat->Nat) (part:LN):(eu key part).length<=200:=by
 have:=Be _ (range 200) (Qs key part) (fun x hx=>by
  obtain ⟨g,hg,rfl⟩:=mem_map.1 hx
  exact mem_range.2 (uO.1 hg).1)
 simpa using this
def a8d (b:Bc) (f:Option Rec) (at_:Nat) (part:LN) (F0:Nat->Prop) (w:World) (gN:Nat) (lifts:List LN) (zQ:Option (St×List (List Cl))) (k:Nat) (wr:World):Prop :=
 ∃ (F:Nat->Prop) (An:OA) (cn:Nat) (nds:List Nd) (st:St) (bI:Nat) (A:OA) (c:Nat) (ls:List Ll),dZ b F0 w wr F An cn nds st bI/\(∀k,F0 k->F k)/\aa wr gN 100 #[.int .i64 (at_:Nat),.slice A k c,.int .i64 0,.int .i64 0,.int .i64 0,.int .i64 0,.int .i64 0,.int .i64 0,.int .i64 0,.int .i64 0,.int .i64 0,.int .i64 0,.int .i64 0,.int .i64 0]/\¬F gN /\
  iB wr F (gN+1) (.slice A k c) ls/\ls.length=k/\(bI=0\/bI=7)/\(bI=0->Good b.ps b.lifts b.X.length st)/\(bI=0->iP b.ps f at_ part (lifts.drop k) (st,ls.map Ll.cs)=zQ)/\(bI=7->zQ=none)
def a6I (b:Bc) (f:Option Rec) (F0:Nat->Prop) (w:World) (gs:List (Nat×LN)) (pR:Option (St×List Cl)) (j:Nat) (A:OA) (c:Nat) (wr:World):Prop :=
 ∃ (F:Nat->Prop) (An:OA) (cn:Nat) (nds:List Nd) (st:St) (bI:Nat) (cs:List Cl),dZ b F0 w wr F An cn nds st bI/\(∀k,F0 k->F k)/\jG wr F w.heap.size (.slice A j c) cs/\cs.length=j/\(bI=0\/bI=7)/\(bI=0->Good b.ps b.lifts b.X.length st)/\(bI=0->iA b.ps f (gs.drop j) (st,cs)=pR)/\(bI=7->pR=none)
theorem Zm {b:Bc} {f:Option Rec} {at_:Nat} {part:LN} {st:St} (hf:jw at_ part st.parts=none):fR b.ps b.lifts b.most f at_ part st=(iP b.ps f at_ part ((b.lifts[at_]?).getD []) (st,[])).bind fun r=>(il b.ps f 0 part r.1).bind fun q =>
 if q.1.nodes.length<b.most then some (⟨q.1.nodes++[⟨at_,r.2,q.2⟩],q.1.parts++[(at_,part)]⟩,q.1.nodes.length) else none:=by
 unfold fR;rw [hf]
theorem ZH {b:Bc} {f:Option Rec} {at_:Nat} {part:LN} {st:St} {i:Nat} (hf:jw at_ part st.parts=some i):fR b.ps b.lifts b.most f at_ part st=some (st,i):=by
 unfold fR;rw [hf]
end Go.Proofs.YtjopcamkclndlaaGreat.Tc
namespace Go.Proofs.YtjopcamkclndlaaGreat.Tc
open List Go.RowKit Base Go.Maps Go.WideMaps
def Deep (a:Nat) (st dT:St):Prop:=∃qs,dT.parts=st.parts++qs/\∀q∈qs,a<=q.1
theorem Deep.refl (a:Nat) (st:St):Deep a st st:=⟨[],by simp,by simp⟩
theorem Deep.trans {a:Nat} {x y z:St} (h:Deep a x y) (k:Deep a y z):Deep a x z:=by
 obtain ⟨q1,e1,h1⟩:=h;obtain ⟨q2,e2,h2⟩:=k;refine ⟨q1++q2,by rw [e2,e1,append_assoc],fun q hq => ?_⟩;rcases mem_append.1 hq with hq | hq
 .exact h1 q hq
 .exact h2 q hq
theorem Deep.less {a a':Nat} {x y:St} (h:Deep a x y) (ha:a'<=a):Deep a' x y:=by
 obtain ⟨q1,e1,h1⟩:=h;exact ⟨q1,e1,fun q hq=>aT ha (h1 q hq)⟩
def MI (a:Nat) (f:Rec):Prop:=∀part st r,f part st=some r->Deep a st r.1
def yV (a:Nat) (f:Option Rec):Prop:=match f with
 | none=>True
 | some g=>MI (a+1) g
section
variable {ps:List (LN×Ag)} {lifts:List (List LN)} {a:Nat} {f:Option Rec}
theorem Mo (hf:yV a f) {key:Nat} {part:LN} {st:St} {r:St×Cl} (h:il ps f key part st=some r):Deep (a+1) st r.1:=by
 unfold il at h;unfold yV at hf;split at h
 .injection h with h
  subst h;exact Deep.refl _ _
 .obtain ⟨q,hq,e⟩:=Option.map_eq_some_iff.1 h;subst e;exact hf _ _ _ hq
theorem YF (hf:yV a f):∀ (gs:List (Nat×LN)) (s r:St×List Cl),iA ps f gs s=some r->Deep (a+1) s.1 r.1
 | [],s,r,h=>by
  injection h with h
  subst h;exact Deep.refl _ _
 | g::gs,s,r,h=>by
  unfold iA at h;obtain ⟨q,hq,h⟩:=Option.bind_eq_some_iff.1 h;exact (Mo hf hq).trans (YF hf gs _ _ h)
theorem LJ (hf:yV a f) {part:LN}:∀ (ls:List LN) (s r:St×List (List Cl)),iP ps f a part ls s=some r->Deep (a+1) s.1 r.1
 | [],s,r,h=>by
  injection h with h
  subst h;exact Deep.refl _ _
 | l::ls,s,r,h=>by
  unfold iP at h;obtain ⟨q,hq,h⟩:=Option.bind_eq_some_iff.1 h;exact (YF hf _ _ _ hq).trans (LJ hf ls _ _ h)
theorem Z4 (hf:yV a f) (most:Nat):MI a (fR ps lifts most f a):=by
 intro part st r h;unfold fR at h;split at h
 .injection h with h
  subst h;exact Deep.refl _ _
 .obtain ⟨q,hq,h⟩:=Option.bind_eq_some_iff.1 h;obtain ⟨x,hx,h⟩:=Option.bind_eq_some_iff.1 h;have hd:=((LJ hf _ _ _ hq).trans (Mo hf hx)).less (Nat.le_succ a);split at h
  .injection h with h
   subst h;exact hd.trans ⟨[(a,part)],rfl,fun q hq=>by rw [mem_singleton.1 hq];exact ah _⟩
  .cases h
theorem Q1 {most nd:Nat}:∀ {d:Nat},d<nd->MI (nd-1-d) (visit ps lifts most nd d)
 | 0,h=>Z4 (f:=none) trivial most
 | d+1,h=>by
  refine Z4 (f:=some (visit ps lifts most nd d)) ?_ most;have e:nd-1-(d+1)+1=nd-1-d:=by omega
  unfold yV;dsimp only;rw [e];exact Q1 (by omega)
end
theorem Zy {a:Nat} {part:LN} {st dT:St} (h:jw a part st.parts=none) (hd:Deep (a+1) st dT):jw a part dT.parts=none:=by
 obtain ⟨qs,e,hq⟩:=hd;unfold jw at *;rw [e,findIdx?_append,h];have:(qs.findIdx? fun x=>x == (a,part))=none:=by
  rw [findIdx?_eq_none_iff];intro q wi;have:=hq q wi;have av:q≠(a,part):=fun e=>by rw [e] at this;dsimp only at this;omega
  simpa using av
 rw [this];rfl
theorem iB.tU {F:Nat->Prop} {B g:Nat} {v:Value} {ls:List Ll} (hg:g<B):∀ (vs:LV) (w:World) (o:Nat),iB w F B v ls->iB (aK w g o vs) F B v ls
 | [],_,_,h=>h
 | u::vs,w,o,h=>iB.tU hg vs _ _ (h.bX (p:=⟨g,o,none⟩) hg u)
section
variable {b:Bc} {F0 F:Nat->Prop} {w W w7 w8:World} {An cX:OA} {cn cY:Nat} {nds:List Nd} {n':Nd} {st:St} {pn:aI} {p:Nat×LN}
theorem dZ.fail (hb:b.Ok) (h:dZ b F0 w W F An cn nds st 0) (h0:F0 b.gb):dZ b F0 w (W.setCell ⟨b.gb,4,none⟩ (.int .i64 7)) F An cn nds st 7:=by
 have hd:=h.dy;have hh:∀k,k≠b.gb->(W.setCell ⟨b.gb,4,none⟩ (.int .i64 7)).heap[k]? = W.heap[k]? := fun k hk=>Below.heap_setCell W ⟨b.gb,4,none⟩ _ k hk
 have hz:(W.setCell ⟨b.gb,4,none⟩ (.int .i64 7)).heap.size=W.heap.size:=by simp
 refine ⟨⟨by rw [hz];exact hd.line,hd.fF,hd.fo,fun k hk=>by rw [hz];exact hd.dV k hk,hd.kG.set 4 _,(hh _ hb.ba.symm).trans hd.CE,hd.nodes.yS ⟨Nat.le_of_eq hz.symm,fun k hk _=>hh k (by have:=hb.bB;omega)⟩,hd.kY,hd.kJ,hd.plain,hd.most,hd.len,hd.met.same (hh _ hb.bm.symm)⟩,h.bU.trans (bK.set _ _ _ h0),fun k hk=>sB (ah _) (Nat.le_of_eq hz.symm) (h.sub k hk)⟩
theorem dZ.added (hb:b.Ok) (h:dZ b F0 w W F An cn nds st 0) (hp:az n'=pn) (ho:iR w7 b.B (.slice cX (nds.length+1) cY) (nds++[n'])) (ha:aa w7 b.ga 160 (im b.As b.xs.length b.cs b.m cX (nds.length+1) cY b.most))
 (TK:(Value.slice cX (nds.length+1) cY).ownBlock=(Value.slice An nds.length cn).ownBlock\/∃k,(Value.slice cX (nds.length+1) cY).ownBlock=some k/\W.heap.size<=k) (oC:kb W.heap.size n') (ht:bK (fun k=>k=b.ga\/isRow (.slice An nds.length cn) k) W w7)
 (ae:nds.length<b.most) (hg:w7.grownBy w8 (some b.gm)) (qV:yX w8 b.gm (st.parts++[p])):dZ b F0 w w8 (more F W w8) cX cY (nds++[n']) ⟨st.nodes++[pn],st.parts++[p]⟩ 0:=by
 have hd:=h.dy;have zR:W.heap.size<=w7.heap.size:=ht.size;have nN:w7.heap.size<=w8.heap.size:=hg.size;have pw:F b.ga:=hd.fo _ (.inr (.inl rfl));have tg:F b.gm:=hd.fo _ (.inr (.inr rfl));have KB:∀k,k<W.heap.size->k≠b.ga->¬isRow (.slice An nds.length cn) k->k≠b.gm->w8.heap[k]? = W.heap[k]? := fun k hk h1 h2 h3 =>
  (hg.block k (by omega) (fun e=>h3 (Option.some.inj e))).trans (ht.block k hk (fun e=>e.elim h1 h2))
 have fg:∀k,isRow (.slice An nds.length cn) k->b.B<=k:=fun k hk=>(hd.nodes.1.lt k hk).1
 have TL:iR w8 b.B (.slice cX (nds.length+1) cY) (nds++[n']):=ho.yS ⟨nN,fun k hk hl=>hg.block k hl (fun e=>by have:=Option.some.inj e;have:=hb.mB;omega)⟩;have aX:(nds++[n']).length=nds.length+1:=by rw [aS];rfl
 refine ⟨⟨aT hd.line (aT zR nN),fun k hk => ?_,fun k hk => .inl (hd.fo k hk),fun k hk => ?_,?_,?_,by rw [aX];exact TL,fun k hk => ?_,fun n hn k hk => ?_,?_,by rw [aX];exact ae,?_,qV⟩,⟨?_,?_,?_,?_,?_⟩,fun k hk => ?_⟩
 .rcases hk with hk | ⟨hk,_⟩
  .exact hd.fF k hk
  .exact .inl (aT hd.line hk)
 .rcases hk with hk | ⟨_,hk⟩
  .have:=hd.dV k hk;omega
  .exact hk
 .exact (KB b.gb hd.kG.lt hb.ba (fun hr=>by have:=fg _ hr;have:=hb.bB;omega) hb.bm).trans hd.kG
 .rw [aX];exact (hg.block b.ga ha.lt (fun e=>hb.am (Option.some.inj e))).trans ha
 .rw [aX] at hk;rcases TK with hl | ⟨j,hl,hj⟩
  .rw [hl] at hk;exact .inl (hd.kY k hk)
  .have:=(TL.1.lt k hk).2;rw [hl] at hk;injection hk with hk
   exact .inr ⟨by omega,this⟩
 .rcases mem_append.1 hn with hn | hn
  .exact .inl (hd.kJ n hn k hk)
  .have iM:=TL.2 n (mem_append_right _ hn);rw [mem_singleton.1 hn] at hk iM;rcases hk with hk | ⟨l,hl,hk⟩
   .have:=Row.cW iM.1.1.1 hk;obtain ⟨av,off,e⟩:=hk;exact .inr ⟨oC.1 k off e av,this⟩
   .have:=Row.cW (iM.1.2 l hl).1 hk;obtain ⟨av,off,e⟩:=hk;exact .inr ⟨oC.2 l hl k off e av,this⟩
 .rw [map_append,hd.plain,map_cons,map_nil,hp]
 .dsimp only;rw [aS,aS,hd.len];rfl
 .exact hg.os.trans (ht.os.trans h.bU.os)
 .exact hg.tape.trans (ht.tape.trans h.bU.tape)
 .exact hg.output.trans (ht.output.trans h.bU.output)
 .have:=h.bU.size;omega
 .intro i hi hn;have hf:=h.off hi hn;have:=h.bU.size;exact (KB i (by omega) (fun e=>hf (e▸pw)) (fun hr=>hf (hd.kY i hr)) (fun e=>hf (e▸tg))).trans (h.bU.block i hi hn)
 .rcases hk with hk | ⟨hk,Bi⟩
  .exact sB (ah _) (by omega) (h.sub k hk)
  .have:=h.bU.size;exact .inr ⟨by omega,Bi⟩
end
theorem CT {b:Bc}:b.X.length=b.xs.length:=by unfold Bc.X;rw [lM]
theorem aa4 {b:Bc} (hb:b.Ok) {W:World} {F:Nat->Prop} {An A1:OA} {cn c1 at_:Nat} {nds:List Nd} {st:St} {ls:List Ll} {cx:Cl} {part:LN} {L:List LN} (hd:b.Dy W F An cn nds st 0) (my:b.Ro W) (br:at_<b.X.length) (da:dp W W.heap.size ⟨at_,A1,ls,c1,cx⟩)
 (hg:Good b.ps b.lifts b.X.length st) (hp:kV b.ps part) (hL:b.lifts[at_]? = some L) (hl:xF b.ps (decide (at_+1=b.X.length)) st at_ part L (ls.map Ll.cs)) (hc:rL b.ps (decide (at_+1=b.X.length)) st at_ 0 part cx) :
 Calls Tryz.prog 78 #[.pointer (some ⟨b.ga,0,none⟩),.agg (bG ⟨at_,A1,ls,c1,cx⟩)] W (Iz b.B b.ga b.As b.xs.length b.cs b.m An cn b.most nds (az ⟨at_,A1,ls,c1,cx⟩) W):=by
 have hX:b.X[at_]? = some ((b.xs[at_]'(by rw [<-CT];exact br)).keys):=by unfold Bc.X;rw [getElem?_map,gE (by rw [<-CT];exact br)];rfl
 have oF:nds.length=st.nodes.length:=by rw [<-hd.plain,lM]
 have ma:=hd.most;have hbm:=hb.most;obtain ⟨k1,k2⟩:=XD hb.cfg hL hX hp (by rw [hd.len,<-oF];omega) hl hc;have JB:=hb.cfg.n16;have k1':∀N,N=b.X.length->yK (decide (at_+1=N)) (b.xs[at_]'(by rw [<-CT];exact br)).keys b.m ⟨at_,ls.map Ll.cs,cx⟩:=by rintro _ rfl;exact k1
 refine a04 b.B b.ga b.As An b.xs b.cs b.m cn b.most nds ⟨at_,A1,ls,c1,cx⟩ W hb.aB hd.line hd.CE (my.shape.more hd.line) hd.nodes da (by rw [<-CT];exact JB) hb.cfg.m1 hb.cfg.m3 (by omega) hbm (by rw [<-CT];exact br) (k1' _ CT.symm) (fun l ja => ?_) ?_
 .have:=k2 l.cs (mem_map_of_mem ja);omega
 .by_cases kU:at_+1=b.xs.length
  .exact .inl kU
  .refine .inr (fun c hc' => ?_);have vc:xt b.ps b.lifts b.X.length st at_ part ⟨at_,ls.map Ll.cs,cx⟩:=⟨rfl,by rw [hL];exact hl,hc⟩
   have mu:c∈di ⟨at_,ls.map Ll.cs,cx⟩:=by
    unfold Bf at hc';unfold di;simpa [flatMap_def] using hc'
   obtain ⟨q,hq⟩:=vc.lead (by rw [CT];exact kU) mu;have ae:=(bS hq).1;rw [hd.len] at ae;have hn:=gE ae;have hr:=hg.rep _ _ _ hn hq;have a2H:c.child<nds.length:=by omega
   refine ⟨nds[c.child],gE a2H,?_⟩;have e:az nds[c.child]=st.nodes[c.child]:=by
    have h1:(nds.map az)[c.child]? = st.nodes[c.child]? := by rw [hd.plain]
    rw [getElem?_map,gE a2H,hn] at h1;injection h1
   have h2:=hr.aj;rw [<-e] at h2;exact h2
end Go.Proofs.YtjopcamkclndlaaGreat.Tc
