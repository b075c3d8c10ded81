/- Parts of a proof. -/
import Derived.Test.YtjopcamkclndlaaGreatH009
set_option linter.unusedVariables false
set_option linter.unusedSimpArgs false
set_option maxRecDepth 100000
set_option maxHeartbeats 8000000
namespace Go.Proofs.YtjopcamkclndlaaGreat.Tc
open List Go.RowKit Base Go.Maps Go.WideMaps
theorem YL (b:Bc) (hb:b.Ok) (at_:Nat) (br:at_<b.X.length) (f:Option Rec) (hc:Qj b at_ f) (fh:CI b.ps b.lifts b.X.length at_ f) (hdp:yV at_ f):PS b at_ (fR b.ps b.lifts b.most f at_):=by
 intro F An cn nds st bI Ap cp part w hs;obtain ⟨i0,cG,cI,cH,cJ⟩:=info_parts CU;obtain ⟨j0,DP,DQ,DR,DS⟩:=info_parts QY;have cM:=Zt hb hs.pt;have Oe:=hb.cfg.n16;have aeS:=hb.cfg.J5
 have TM:=kp (show ∀w',Below w.heap.size w w'->(jw at_ part st.parts).isSome=true\/bI=7->MN b (fR b.ps b.lifts b.most f at_) F bI st part w (.returned (.int .i64 (((jw at_ part st.parts).getD 0:Nat):Int))) w' from fun w' h1 h2 =>
  ⟨(jw at_ part st.parts).getD 0,An,cn,nds,st,bI,rfl,((dZ.start hs.dy).below h1).uL (fun k hk=>hk) hs.dy.line,fun he r hr=>by
   rcases h2 with h2 | h2
   .obtain ⟨i,hi⟩:=Option.isSome_iff_exists.1 h2;rw [ZH hi] at hr;injection hr with hr
    subst hr;exact ⟨he,rfl,by rw [hi];rfl⟩
   .omega,fun he hr=>by
   rcases h2 with h2 | h2
   .obtain ⟨i,hi⟩:=Option.isSome_iff_exists.1 h2;rw [ZH hi] at hr;cases hr
   .omega,fun h=>h,hs.er⟩)
 have TN:=kp (show ∀ (i:Nat) (cX:OA) (cY:Nat) (fC:List Nd) (dT:St) (eJ:Nat) (F':Nat->Prop) w',dZ b F w w' F' cX cY fC dT eJ->(∀k,F k->F' k)->bI=0 -> 
  (eJ=0->fR b.ps b.lifts b.most f at_ part st=some (dT,i))->(eJ=7->fR b.ps b.lifts b.most f at_ part st=none)->(eJ=0\/eJ=7)->MN b (fR b.ps b.lifts b.most f at_) F bI st part w (.returned (.int .i64 (i:Nat))) w' from fun i cX cY fC dT eJ F' w' h1 h2 h3 h4 h5 h6 =>
  ⟨i,cX,cY,fC,dT,eJ,rfl,h1.uL h2 hs.dy.line,fun he r hr=>by
   rcases h6 with h6 | h6
   .have:=h4 h6;rw [hr] at this;injection this with this
    subst this;exact ⟨h6,rfl,rfl⟩
   .have:=h5 h6;rw [hr] at this
    (cases this),fun he hr=>by
   rcases h6 with h6 | h6
   .have:=h4 h6;rw [hr] at this
    (cases this)
   .exact h6,fun he=>by omega,h6⟩)
 have HN:=kp (aan Ap cp at_ part w hs.row (by omega) (by omega) (fun i hi=>by have:=hs.pt.lt i hi;omega));have Hs:=kp hs;have hpB:∀i∈part,i<65536:=fun i hi=>by have:=hs.pt.lt i hi;omega
 have D9:=kp (show Fq (at_,part) from ⟨by dsimp only;omega,hpB⟩);have Gk:=kp hs.dy.line;have her:=hs.er;generalize hQ:MN b (fR b.ps b.lifts b.most f at_) F bI st part w=Q at *;clear hQ hs hpB;obtain ⟨z,hz⟩:∃z:ByteArray,(⟨(mW at_ part).toArray⟩:ByteArray)=z:=⟨_,rfl⟩
 have Hz:=kp (show z.data.toList=mW at_ part by rw [<-hz]);have FI:z.size<=maxLen:=by
  have:z.size=(mW at_ part).length:=by rw [<-hz];exact size_toArray ..
  rw [this,XF];unfold maxLen;omega
 have qU:=kp (show keyOf Tryz.prog 9 (.string z)=some (.string z.data.toList) from keyOf_string_mk Tryz.underlying9 FI);rw [hz] at HN;clear FI hz;obtain ⟨n,hN⟩:∃n,part.length=n:=⟨_,rfl⟩
 have Hn:=kp hN;rw [hN] at HN cM ⊢;clear hN;go_enter Tryz.func32,Tryz.ntmps32;go_wp2_with fail;refine HN.o.mono ?_;rintro e w1 ⟨rfl,ax⟩;have aM:=kp ax;have iV:=kp (Hs.o.below ax);clear ax HN;obtain ⟨x1,x3,x4⟩:w1.cell? ⟨b.gb,1,none⟩=some (.slice b.Al b.rs.length b.cl)/\w1.cell? ⟨b.gb,3,none⟩=some (.map (some b.gm))/\w1.cell? ⟨b.gb,4,none⟩=some (.int .i64 (bI:Nat)):=⟨iV.o.dy.kG.cell 1,iV.o.dy.kG.cell 3,iV.o.dy.kG.cell 4⟩
 obtain ⟨D,aE,kO⟩:=iV.o.dy.met;have zS:=kp kO;have yb:=kp (kO.at_ _ D9.o);have Gl:=kp (kO.has _ D9.o);rw [show (at_,part).1=at_ from rfl,show (at_,part).2=part from rfl] at yb Gl;unfold IG at yb Gl;rw [<-Hz.o] at yb Gl
 have Hq:=kp (show ∀c:Int,D.atKey (.string z.data.toList) (.lit (.int .i64 0)) = .lit (.int .i64 c)->c=(((jw at_ part st.parts).getD 0:Nat):Int) from fun c h=>by
  have h2:=yb.o;rw [h] at h2;injection h2 with h2
  injection h2 with h2)
 generalize hfp:jw at_ part st.parts=fp at *;have TO:=kp hfp;clear hfp kO;by_cases ie:fp.isSome=true
 .have bN:=kp (TM.o w1 aM.o (.inl ie));have KC:=kp (Gl.o.trans ie)
  go_wp2_with (at_lookup;refine wpList_lookup_own_ok_int _ rfl (.tmp 24) (.tmp 25) 82 rfl 9 3 .i64 xv Tryz.underlying82 Tryz.underlying3 (tN _) b.gm st.parts.length D rfl aE (.string z) (.string z.data.toList) rfl qU.o ?_;intro q nC sR;obtain rfl:=Hq.o q nC;rw [KC.o];clear nC sR)
  exact bN.o
 .have a2I:fp.isSome=false:=by simpa using ie
  have KC:=kp (Gl.o.trans a2I);rcases her with rfl | rfl
  case inr =>
   have bN:=kp (TM.o w1 aM.o (.inr rfl))
   go_wp2_with (at_lookup;refine wpList_lookup_own_ok_int _ rfl (.tmp 24) (.tmp 25) 82 rfl 9 3 .i64 xv Tryz.underlying82 Tryz.underlying3 (tN _) b.gm st.parts.length D rfl aE (.string z) (.string z.data.toList) rfl qU.o ?_;intro q nC sR;obtain rfl:=Hq.o q nC;rw [KC.o];clear nC sR)
   exact bN.o
  case inl =>
   obtain rfl:fp=none:=by simpa using ie
   have aH:=(aq w1.heap.size w1).alloc (ah _) (.cells zN 100);have lI:=kp (aa.new w1 100 zN);generalize dN:w1.alloc (.cells zN 100)=W2 at *;obtain ⟨⟨r0,r1,r2,r3,r4,r5,r6,r7,r8,r9,kB,kC,uv,uw⟩,⟨f0,f1,f2,f3,f4,f5,f6,f7,f8,f9,mz,mA,qy,qz⟩⟩:=aa.cw lI.o;obtain ⟨W3,dH⟩:∃W3,aK W2 w1.heap.size 0 [.int .i64 (at_:Nat),.slice none 0 0,.int .i64 0,.int .i64 0,.int .i64 0,.int .i64 0,.int .i64 0,.int .i64 0,.int .i64 0,.int .i64 0,.int .i64 0,.int .i64 0,.int .i64 0,.int .i64 0]=W3:=⟨_,rfl⟩
   have iW:=kp (show aa W3 w1.heap.size 100 #[.int .i64 (at_:Nat),.slice none 0 0,.int .i64 0,.int .i64 0,.int .i64 0,.int .i64 0,.int .i64 0,.int .i64 0,.int .i64 0,.int .i64 0,.int .i64 0,.int .i64 0,.int .i64 0,.int .i64 0] by rw [<-dH];exact eO lI.o _ rfl);have bC:=kp (show Below w1.heap.size w1 W3 by rw [<-dH];exact eU (ah _) _ _ _ aH);simp only [aK,Nat.zero_add,Nat.reduceAdd] at dH;have Bq:=kp (iV.o.below bC.o);clear aH lI;go_upto_region 6 with (at_lookup;refine wpList_lookup_own_ok_int _ rfl (.tmp 24) (.tmp 25) 82 rfl 9 3 .i64 xv Tryz.underlying82 Tryz.underlying3 (tN _) b.gm st.parts.length D rfl aE (.string z) (.string z.data.toList) rfl qU.o ?_;intro q nC sR;obtain rfl:=Hq.o q nC;rw [KC.o];clear nC sR)
   clear x1 x3 x4 r0 r1 r2 r3 r4 r5 r6 r7 r8 r9 kB kC uv uw f0 f1 f2 f3 f4 f5 f6 f7 f8 f9 mz mA qy qz dH dN aE yb Gl Hq TM ie a2I KC zS;obtain ⟨ls0,x0,sL,BG⟩:=hb.cfg.aj br;obtain ⟨r,hr,rfl⟩:=aaC sL;have Hl0:=kp (show (b.lifts[at_]?).getD []=r.fs.map Fa.keys by rw [sL];rfl);have Hr:=kp hr;have nw:=(bS hr).1;have ad1:=Mk hb;have ht:=hb.cfg.aw at_ _ _ sL BG;have JC:r.fs.length<=4:=by rw [lM] at ht;omega
   have Hx0:=kp BG;have Bw:=kp sL;have ad2:=kp Bq.o.ro;obtain ⟨bl,ol,hA,zl,l0⟩:=Row.at_ (ad2.o.lifts.row) (k:=at_) (by rw [lM];exact nw);rw [getElem_map,(bS hr).2] at l0;unfold kH at l0;have x1:W3.cell? ⟨b.gb,1,none⟩=some (.slice b.Al b.rs.length b.cl):=Bq.o.dy.kG.cell 1;rw [hA] at x1;have a0:(0:Int)<=(at_:Int):=by omega
   have a1:(at_:Int)<(b.rs.length:Int):=by omega
   obtain ⟨gN,hgN⟩:∃gN,w1.heap.size=gN:=⟨_,rfl⟩
   have Of:=kp (show w.heap.size<=gN by rw [<-hgN];exact aM.o.size);have Hm3:=kp ((dZ.start Hs.o.dy).below (aM.o.trans (bC.o.mono aM.o.size)));have zp:=kp (show ¬F gN from fun h=>by have:=Hs.o.dy.dV _ h;have:=Of.o;omega);rw [hgN] at iW ⊢;clear nw ad1 ht BG sL hr;go_wp2_with fail;clear x1 l0 a0 a1;obtain ⟨m,hM⟩:∃m,r.fs.length=m:=⟨_,rfl⟩
   have HM:=kp hM;rw [hM] at JC ⊢;clear hM hA zl;have HL:=kp (show (r.fs.map Fa.keys).length=m by rw [lM];exact HM.o);obtain ⟨zQ,hT2⟩:∃t,iP b.ps f at_ part (r.fs.map Fa.keys) (st,[])=t:=⟨_,rfl⟩
   have TP:=kp hT2;clear hT2
   go_loopw [48] (fun TQ wr=>∃k,k<=m/\TQ = .int .i64 (k:Nat)/\a8d b f at_ part F w gN (r.fs.map Fa.keys) zQ k wr) (fun TQ _=>m-(intOf TQ).toNat)
   case atStart =>
    exact ⟨0,aZ _,rfl,F,An,cn,nds,st,0,none,0,[],Hm3.o,fun _ h=>h,iW.o,zp.o,⟨jI.nil _ _,(fun k hk=>by cases hk),(fun x hx=>by cases hx)⟩,rfl,.inl rfl,fun _=>Hs.o.kZ rfl,fun _=>TP.o,fun h=>by omega⟩
   case round =>
    obtain ⟨k,hk,rfl,F1,pC,pE,pF,wZ,BV,A1,c1,ig,hm,hFF,aJ,sS,fZ,dR,he1,th,h0,h7⟩:=hrel;have Hm:=kp hm;have HFF:=kp hFF;have bO:=kp aJ;have a2J:=kp sS;have xS:=kp fZ;have jO:=kp dR;have KD:=kp he1;have a2K:=kp th;have H0:=kp h0;have H7:=kp h7;clear hm hFF aJ sS fZ dR he1 th h0 h7;by_cases ae:k<m
    .have vg:k<r.fs.length:=by rw [HM.o];exact ae
     have Hf:=kp (gE vg);have my:=Hs.o.ro.bU Hm.o.bU Gk.o Hs.o.dy.fF;have fg:=Hm.o.row Hs.o.row Hs.o.off;have HG:=kp (abo b.gb b.Af b.Al Ap b.fs b.cf b.cl cp b.rs _ _ _ at_ k r (r.fs[k]'vg) part (fP b.ps (r.fs[k]'vg).keys at_) wr Hm.o.dy.kG (a8' hb my Hm.o.dy.line Hr.o Hf.o Hs.o.pt) fg.1 Hs.o.pt.ne (by rw [Hn.o];omega));have uo:=kp (show (r.fs.map Fa.keys)[k]? = some (r.fs[k]'vg).keys by rw [getElem?_map,Hf.o];rfl);generalize (r.fs[k]'vg)=lf at *;rw [Hn.o] at HG;clear my fg;go_wp2_with fail;refine HG.o.mono ?_;rintro e w3 ⟨Ag,cg,gs,rfl,zO,lB,kt,aN⟩;have TR:=kp zO;have TS:=kp (Hm.o.below aN);have zo:=kp (gV lB);have sS:∀k,wr.heap.size<=k->¬F1 k:=fun k hk hf=>by have:=Hm.o.dy.dV k hf;omega
     have ad3:=kp (show ∀k,eo Ag (gs.flatMap gI) k->¬F1 k from fun k hk=>by
      obtain ⟨av,off,e⟩:=hk
      exact sS k (kh.own lB (ah _) k off e av))
     have ad4:=kp (show ∀g∈gs,Row w3 w3.heap.size g.A (aP g.part)/\∀k,eo g.A (aP g.part) k->¬F1 k from fun g hg=>⟨(kt g hg).1,fun k hk=>by
      obtain ⟨av,off,e⟩:=hk
      exact sS k ((kt g hg).2 k off e av)⟩)
     have ad5:=kp (xS.o.below aN);have iu:=bu bO aN;have aeT:=kp aN.size;have ad6:=kp (show ∀j,(Value.slice A1 k c1).ownBlock=some j->j<w3.heap.size from fun j hj=>dL (xS.o.own.1.lt j hj).2 aN.size);obtain ⟨q,hq⟩:∃q,gs.length=q:=⟨_,rfl⟩
     have Hq:=kp hq;have a2L:q<=200:=by
      have:=a92 (fP b.ps lf.keys at_) part;rw [<-TR.o,lM,hq] at this;exact this
     obtain ⟨pR,hT⟩:∃t,(if BV=0 then iA b.ps f (eu (fP b.ps lf.keys at_) part) (wZ,[]) else none)=t:=⟨_,rfl⟩
     have HT:=kp hT;obtain ⟨GS,hGS⟩:∃G,eu (fP b.ps lf.keys at_) part=G:=⟨_,rfl⟩
     have HGS:=kp hGS;rw [hq];clear hq hT hGS zO lB kt aN sS HG xS bO;go_wp2_with fail
     go_loopw [12,57] (fun kq TT w4=>∃ (j:Nat) (A':OA) (c':Nat),j<=q/\TT = .int .i64 (j:Nat)/\kq = .slice A' j c'/\a6I b f F1 w3 (eu (fP b.ps lf.keys at_) part) pR j A' c' w4) (fun _ TT _=>q-(intOf TT).toNat)
     case atStart =>
      exact ⟨0,none,0,aZ _,rfl,rfl,F1,pC,pE,pF,wZ,BV,[],dZ.start TS.o.dy,fun _ h=>h,jG.nil _ _ _,rfl,KD.o,a2K.o,fun h=>by rw [<-HT.o,if_pos h];rfl,fun h=>by rw [<-HT.o,if_neg (by omega)]⟩
     case round =>
      obtain ⟨j,A2,c2,hj,rfl,rfl,F2,An2,cn2,a2M,G1,a2N,cs,qR,a2O,cE,iS,he2,a2P,h02,h72⟩:=hrel;have pg:=kp qR;have a2Q:=kp a2O;have BW:=kp cE;have ti:=kp iS;have TU:=kp he2;have TV:=kp a2P;have H02:=kp h02;have H72:=kp h72;clear qR a2O cE iS he2 a2P h02 h72;by_cases lu:j<q
      .have vr:j<gs.length:=by rw [Hq.o];exact lu
       have ya:=(pg.o.row zo.o ad3.o).1;obtain ⟨bg,og,xu,Nw,y0,y1⟩:=abl ya j vr;have TW:=ad4.o _ (gM vr);have TX:=pg.o.row TW.1 TW.2;have TY:(eu (fP b.ps lf.keys at_) part)[j]? = some ((gs[j]'vr).key,(gs[j]'vr).part):=by rw [<-TR.o,getElem?_map,gE vr];rfl
       have HGj:=kp TY;have hpg:kV b.ps (gs[j]'vr).part:=Hs.o.pt.group (mem_of_getElem? TY);have my:=Hs.o.ro.bU (TS.o.trans pg.o).bU Gk.o Hs.o.dy.fF;have fM:=dZ.a1d (dZ.start pg.o.dy) my pg.o.dy.line pg.o.dy.fF TX.1 TX.2 hpg TU.o TV.o;generalize (gs[j]'vr).key=gk at *;generalize (gs[j]'vr).A=gA at *;generalize (gs[j]'vr).part=gp at *;generalize (gs[j]'vr).c=gc at *;have Gb:=kp ((aq wr.heap.size wr).alloc (ah _) (.cells #[.int .i64 (gk:Nat),.slice gA gp.length gc] 168));have iH:=kp (aa.new wr 168 #[.int .i64 (gk:Nat),.slice gA gp.length gc]);have HC:=kp (hc F2 An2 cn2 a2M G1 a2N gA gc gk gp _ (fM.below Gb.o));have i1:(0:Int)<=(j:Int):=by omega
       have i2:(j:Int)<(q:Int):=by omega
       rw [xu];clear ya TW TX TY hpg my fM;go_upto_region 13 with fail
       clear y0 y1;generalize yo:wr.alloc (.cells #[.int .i64 (gk:Nat),.slice gA gp.length gc] 168)=W5 at *;clear yo;obtain ⟨y0,y1,_,_⟩:=iH.o.two;go_wp2_with fail;refine HC.o.mono ?_;rintro e w5 ⟨cx,pG,pH,j9,rf,DX,rfl,mC,k1,k2,k3,k4⟩;have Gm:=(pg.o.below Gb.o).trans mC.mN;have x7:=BW.o.below Gb.o;have x7:=jG.mN (mC.mN.trans (dZ.start mC.dy)) x7;have BX:=kp Gm;have BY:=kp x7;have TZ:=kp (a8S (cs:=cs) HGj.o H02.o H72.o TU.o k1 k2 k3)
       have ad7:=kp (show DX=0->Good b.ps b.lifts b.X.length rf from fun h=>by
        obtain ⟨e1,e2,_⟩:=TZ.o.1 h
        exact (LY fh e2 (TV.o e1) (Hs.o.pt.group (mem_of_getElem? HGj.o))).1)
       have He5:=kp k4;have ad8:=kp (show ∀i,F1 i->more F2 W5 w5 i from fun i hi => .inl (a2Q.o i hi));have cP:=kp (show w5.ownsRow w3.heap.size 98 12 (.slice A2 j c2) j (cs.flatMap bT) by have:=BY.o.own;rw [ti.o] at this;exact this);have zJ:=kp (show w3.heap.size<=w5.heap.size from BX.o.bU.size);have cz:j+1<1048576*64:=by omega
       clear Gm x7 mC k1 k2 k3 k4 y0 y1 HC
       go_wp2_with (at_builtin;refine vG rfl (.tmp 61) (.tmp 69) 164 rfl w3.heap.size 98 i0 _ 12 96 Tryz.underlying164 cG cI cH cJ rfl (by decide) w5 (bQ cx) rfl (M3 cx) (.slice A2 j c2) j (cs.flatMap bT) rfl cP.o rfl cz (by decide) zJ.o ?_;intro v6 w6 iL jE;obtain ⟨A6,c6,h6⟩:=eM iL;subst h6;have gR:=kp iL;have lK:=kp jE;clear iL jE)
       exact ⟨⟨j+1,A6,c6,by omega,by go_num,rfl,more F2 W5 w5,pG,pH,j9,rf,DX,cs++[cx],BX.o.app lK.o (fun i hi=>⟨(cP.o.lt i hi).1,BY.o.off i hi⟩),ad8.o,jG.app BY.o gR.o lK.o ti.o BX.o.dy.dV,by rw [aS,ti.o];rfl,He5.o,ad7.o,fun h=>(TZ.o.1 h).2.2,TZ.o.2⟩,by simp [intOf];omega⟩
      .obtain rfl:j=q:=by omega
       have Og:=kp (show ∀ (s:St) (c:List Cl),iA b.ps f ((eu (fP b.ps lf.keys at_) part).drop j) (s,c)=iA b.ps f [] (s,c) from fun s c=>by
        have:(eu (fP b.ps lf.keys at_) part).length<=j:=by rw [<-TR.o,lM,Hq.o];exact ah _
        rw [drop_of_length_le this])
       have en:=kp (a6N (cs:=cs) uo.o H0.o H7.o KD.o (fun h=>by rw [<-Og.o,H02.o h];exact HT.o.symm) (fun h=>HT.o.trans (H72.o h)));have T':=kp (iB.mN pg.o ad5.o);have KE:=kp (pg.o.box iu.o a2J.o);have Nr:=kp (TS.o.trans pg.o);have qi:gN<wr.heap.size:=KE.o.1.lt;have ad9:=kp (show gN+1<=w3.heap.size from iu.o.lt);have lE:=kp (show wr.ownsRow (gN+1) 164 1 (.slice A1 k c1) k (ig.map fi) by have:=T'.o.own.1;rw [jO.o] at this;exact this);have wC:=kp (show gN+1<=wr.heap.size from qi);have cz:k<1048576*64:=by omega
       have n1:wr.cell? ⟨gN,1,none⟩=some (.slice A1 k c1):=KE.o.1.cell 1;have HgA:=kp (show (Value.slice A1 k c1).ownBlock≠some gN from fun h=>by have:=(lE.o.lt gN h).1;omega)
       go_wp2_with (at_builtin;refine tE rfl (.tmp 73) (.tmp 75) 96 rfl (gN+1) 164 j0 (.slice none 0 0) 24 Tryz.underlying96 DP DQ DR DS rfl wr (.slice A2 j c2) rfl (.slice A1 k c1) k (ig.map fi) rfl lE.o rfl cz (by decide) wC.o ?_;intro v6 w6 iL jE;obtain ⟨A6,c6,h6⟩:=iq iL;subst h6;have gR:=kp iL;have lK:=kp jE;have gG:=kp (show aa w6 gN 100 _ from (jE.de qi HgA.o).trans KE.o.1);obtain ⟨g1,g2⟩:w6.cell? ⟨gN,1,none⟩=some (.slice A1 k c1)/\w6.frozen? ⟨gN,1,none⟩=false:=⟨gG.o.cell 1,gG.o.free 1⟩;clear iL jE n1)
       have ada:=kp (show fi ⟨A2,cs,c2⟩ = .slice A2 j c2 by unfold fi;rw [ti.o]);have Oh:=kp (show jG wr F2 w3.heap.size (.slice A2 cs.length c2) cs by rw [ti.o];exact BW.o);have DY:=kp (iB.app (l:=⟨A2,cs,c2⟩) T'.o Oh.o ad9.o ad6.o (by rw [ada.o];exact gR.o) lK.o jO.o Nr.o.dy.dV);have si:=kp ((Nr.o.app lK.o (fun i hi=>⟨aT Of.o (Nat.le_of_succ_le (lE.o.lt i hi).1),T'.o.off i hi⟩)).set (o:=1) Of.o KE.o.2 (.slice A6 (k+1) c6));exact ⟨⟨k+1,by omega,by go_num,F2,An2,cn2,a2M,G1,a2N,A6,c6,ig++[⟨A2,cs,c2⟩],si.o,fun i hi=>a2Q.o i (HFF.o i hi),gG.o.set 1 _,KE.o.2,DY.o.bX (Nat.lt_succ_self _) _,by rw [aS,jO.o];rfl,TU.o,TV.o,fun h=>by rw [map_append];exact en.o.1 h,en.o.2⟩,by simp [intOf];omega⟩
    .obtain rfl:k=m:=by omega
     have Og:=kp (show ∀ (s:St) (l:List (List Cl)),iP b.ps f at_ part ((r.fs.map Fa.keys).drop k) (s,l)=some (s,l) from fun s l=>by
      rw [drop_of_length_le (by rw [HL.o];exact ah _)]
      rfl)
     have fg:=Hm.o.row Hs.o.row Hs.o.off
     have HC:=kp (show Calls Tryz.prog 77 #[.pointer (some ⟨b.gb,0,none⟩),.int .i64 (at_:Nat),.int .i64 0,.slice Ap part.length cp] wr (ES b f F1 BV 0 wZ part wr) from
      hc F1 pC pE pF wZ BV Ap cp 0 part wr (dZ.a1d Hm.o Hs.o.ro Gk.o Hs.o.dy.fF fg.1 fg.2 Hs.o.pt KD.o a2K.o))
     rw [Hn.o] at HC;clear fg;go_wp2_with fail;refine HC.o.mono ?_;rintro e w5 ⟨cx,pG,pH,j9,rf,DX,rfl,mC,k1,k2,k3,k4⟩;have BX:=kp (Hm.o.trans mC.mN);have eg:=kp (mC.mN.box bO.o a2J.o);have a2R:=kp (iB.mN mC.mN xS.o);have Gn:=kp (show ∀i,F i->more F1 wr w5 i from fun i hi => .inl (HFF.o i hi));generalize more F1 wr w5=F5 at *;have K1:=kp k1;have K2:=kp k2;have K3:=kp k3;have K4:=kp k4;clear mC k1 k2 k3 k4 HC;obtain ⟨⟨_,_,r2,r3,r4,r5,r6,r7,r8,r9,kB,kC,uv,uw⟩,⟨_,_,f2,f3,f4,f5,f6,f7,f8,f9,mz,mA,qy,qz⟩⟩:=aa.cw eg.o.1;obtain ⟨W6,lL⟩:∃W6,aK w5 gN 2 [.int .i64 cx.key,.int .i64 cx.child,.int .i64 cx.ag.c,.int .i64 cx.ag.s0,.int .i64 cx.ag.n0,.int .i64 cx.ag.x0,.int .i64 cx.ag.s1,.int .i64 cx.ag.n1,.int .i64 cx.ag.x1,.int .i64 cx.ag.s2,.int .i64 cx.ag.n2,.int .i64 cx.ag.x2]=W6:=⟨_,rfl⟩
     have gG:=kp (show aa W6 gN 100 #[.int .i64 (at_:Nat),.slice A1 k c1,.int .i64 cx.key,.int .i64 cx.child,.int .i64 cx.ag.c,.int .i64 cx.ag.s0,.int .i64 cx.ag.n0,.int .i64 cx.ag.x0,.int .i64 cx.ag.s1,.int .i64 cx.ag.n1,.int .i64 cx.ag.x1,.int .i64 cx.ag.s2,.int .i64 cx.ag.n2,.int .i64 cx.ag.x2] by rw [<-lL];exact LX [.int .i64 cx.key,.int .i64 cx.child,.int .i64 cx.ag.c,.int .i64 cx.ag.s0,.int .i64 cx.ag.n0,.int .i64 cx.ag.x0,.int .i64 cx.ag.s1,.int .i64 cx.ag.n1,.int .i64 cx.ag.x1,.int .i64 cx.ag.s2,.int .i64 cx.ag.n2,.int .i64 cx.ag.x2] w5 [.int .i64 (at_:Nat),.slice A1 k c1] [.int .i64 0,.int .i64 0,.int .i64 0,.int .i64 0,.int .i64 0,.int .i64 0,.int .i64 0,.int .i64 0,.int .i64 0,.int .i64 0,.int .i64 0,.int .i64 0] eg.o.1 rfl);have si:=kp (show dZ b F w W6 F5 pG pH j9 rf DX by rw [<-lL];exact BX.o.aK Of.o eg.o.2 _ _);have DY:=kp (show iB W6 F5 (gN+1) (.slice A1 k c1) ig by rw [<-lL];exact iB.tU (Nat.lt_succ_self _) _ _ _ a2R.o);simp only [aK,Nat.reduceAdd] at lL;have x4:W6.cell? ⟨b.gb,4,none⟩=some (.int .i64 (DX:Nat)):=si.o.dy.kG.cell 4;have a2S:=kp eg.o.2
     have oZ:=kp (show DX=0->BV=0/\il b.ps f 0 part wZ=some (rf,cx) from fun h=>by
      rcases KD.o with h1 | h1
      .rcases x8:il b.ps f 0 part wZ with _ | q
       .have:=K2.o h1 x8;omega
       .obtain ⟨_,e2,e3⟩:=K1.o h1 q x8;exact ⟨h1,by rw [e2,e3]⟩
      .have:=K3.o h1;omega)
     have kn:=kp (show DX=7->fR b.ps b.lifts b.most f at_ part st=none from fun h=>by
      rw [Zm TO.o,Hl0.o,TP.o];rcases KD.o with h1 | h1
      .rw [<-H0.o h1,Og.o,Option.bind_some];rcases x8:il b.ps f 0 part wZ with _ | q
       .rfl
       .have:=(K1.o h1 q x8).1;omega
      .rw [H7.o h1];rfl)
     clear eg a2R BX Hm xS bO;rcases K4.o with he5 | he5
     case inr =>
      subst he5;have bN:=kp (TN.o 0 pG pH j9 rf 7 F5 W6 si.o Gn.o (by trivial) (fun h=>by omega) (fun h=>kn.o rfl) (.inr rfl));go_wp2_with fail;exact bN.o
     case inl =>
      subst he5;obtain ⟨e1,x8⟩:=oZ.o rfl;have Oi:iP b.ps f at_ part (r.fs.map Fa.keys) (st,[])=some (wZ,ig.map Ll.cs):=TP.o.trans ((H0.o e1).symm.trans (Og.o _ _));obtain ⟨sY,sd,eC⟩:=QG fh Hs.o.pt _ [] _ _ Oi (Hs.o.kZ rfl) (dI.nil _);obtain ⟨DG,hx5,Ks⟩:=LY fh x8 sY Hs.o.pt;have Hg5:=kp DG;have zh:=kp (xF.ext eC hx5);have O6:=kp Ks;have Hfd:=kp (Zy TO.o ((LJ hdp _ _ _ Oi).trans (Mo hdp x8)))
      have Hnv:=kp (show fR b.ps b.lifts b.most f at_ part st=if rf.nodes.length<b.most then some (⟨rf.nodes++[⟨at_,ig.map Ll.cs,cx⟩],rf.parts++[(at_,part)]⟩,rf.nodes.length) else none by
       rw [Zm TO.o,Hl0.o,Oi,Option.bind_some,x8,Option.bind_some])
      have HA:=kp (fun W (hW:Below W6.heap.size W6 W)=>aa4 (A1:=A1) (c1:=c1) (ls:=ig) hb (si.o.below hW).dy (Hs.o.ro.bU (si.o.below hW).bU Gk.o Hs.o.dy.fF) br ⟨((DY.o.below hW).own.at_).1,((DY.o.below hW).own.at_).2⟩ Hg5.o Hs.o.pt Bw.o zh.o O6.o);have ux:=kp (show az ⟨at_,A1,ig,c1,cx⟩=⟨at_,ig.map Ll.cs,cx⟩ from rfl);generalize az ⟨at_,A1,ig,c1,cx⟩=pn at *;dsimp only [bG] at HA;rw [jO.o] at HA;have zK:=kp (show j9.length=rf.nodes.length by rw [<-si.o.dy.plain,lM]);have Oj:=kp (show j9.length=rf.parts.length by rw [si.o.dy.len];exact zK.o);have aeU:j9.length<=1000000:=aT si.o.dy.most hb.most
      have fW:=kp (show ∀W w7,Below W6.heap.size W6 W->bK (fun i=>i=b.ga\/isRow (.slice pG j9.length pH) i) W w7->w7.heap[b.gb]? = W6.heap[b.gb]? /\ w7.heap[gN]? = W6.heap[gN]? /\ w7.heap[b.gm]? = W6.heap[b.gm]? from fun W w7 hW hT=>by
       have hd:=si.o.dy;have hh:∀i,i<W6.heap.size->i≠b.ga->¬isRow (.slice pG j9.length pH) i->w7.heap[i]? = W6.heap[i]? := fun i hi h1 h2=>(hT.block i (dL hi hW.size) (fun e=>e.elim h1 h2)).trans (hW.block i hi)
       have hr:∀i,isRow (.slice pG j9.length pH) i->b.B<=i:=fun i hi=>(hd.nodes.1.lt i hi).1
       refine ⟨hh _ hd.kG.lt hb.ba (fun h=>by have:=hr _ h;have:=hb.bB;omega),hh _ gG.o.lt (fun e=>a2S.o (e▸hd.fo _ (.inr (.inl rfl)))) (fun h=>a2S.o (hd.kY _ h)),hh _ hd.met.lt (fun e=>hb.am e.symm) (fun h=>by have:=hr _ h;have:=hb.mB;omega)⟩)
      have Tg:=kp (Hs.o.dy.fo _ (.inl rfl));clear Oi sY sd eC DG hx5 Ks x8 e1;go_upto_region 20 with fail
      clear x4 r2 r3 r4 r5 r6 r7 r8 r9 kB kC uv uw f2 f3 f4 f5 f6 f7 f8 f9 mz mA qy qz lL;have x2:W6.cell? ⟨b.gb,2,none⟩=some (.pointer (some ⟨b.ga,0,none⟩)):=si.o.dy.kG.cell 2;obtain ⟨Gp,Gq,Gs,Gt,Gu,Gv,Gw,Gx,Gy,Gz,GB,GC,GD,GF⟩:=(aa.cw gG.o).1;by_cases wW:j9.length<b.most
      .skip
       refine wp_region_noPanic ?_;refine dt (t:=99) (S:=(fun w'=>(w'.cell? ⟨b.gb,2,none⟩=some (.pointer (some ⟨b.ga,0,none⟩)))/\(w'.cell? ⟨gN,0,none⟩=some (.int .i64 (at_:Nat))/\w'.cell? ⟨gN,1,none⟩=some (.slice A1 k c1)/\w'.cell? ⟨gN,2,none⟩=some (.int .i64 cx.key)/\w'.cell? ⟨gN,3,none⟩=some (.int .i64 cx.child)/\w'.cell? ⟨gN,4,none⟩=some (.int .i64 cx.ag.c)/\w'.cell? ⟨gN,5,none⟩=some (.int .i64 cx.ag.s0)/\w'.cell? ⟨gN,6,none⟩=some (.int .i64 cx.ag.n0)/\w'.cell? ⟨gN,7,none⟩=some (.int .i64 cx.ag.x0)/\w'.cell? ⟨gN,8,none⟩=some (.int .i64 cx.ag.s1)/\w'.cell? ⟨gN,9,none⟩=some (.int .i64 cx.ag.n1)/\w'.cell? ⟨gN,10,none⟩=some (.int .i64 cx.ag.x1)/\w'.cell? ⟨gN,11,none⟩=some (.int .i64 cx.ag.s2)/\w'.cell? ⟨gN,12,none⟩=some (.int .i64 cx.ag.n2)/\w'.cell? ⟨gN,13,none⟩=some (.int .i64 cx.ag.x2)))) (by kernel_rfl) ⟨x2,Gp,Gq,Gs,Gt,Gu,Gv,Gw,Gx,Gy,Gz,GB,GC,GD,GF⟩ (fun ad => ?_);refine tD 0 1 2 3 ad ?_;refine tk 4 ad ?_;refine oT 5 fun K hK=>?_
       go_simp
       refine (HA.o W6.drew (aq _ _).drew).mono ?_;rintro e w7 ⟨Ol,_⟩;obtain ⟨yq,yr,n7,rfl,iZ,ur,a2T,a2U,a2V,ka⟩:=Ol wW;have yt:=kp (fW.o _ _ (aq _ _).drew ka);have U0:=kp iZ;have DT:=kp ur;have adb:=kp a2T;have ade:=kp a2U;have adf:=kp a2V;have DZ:=kp ka;clear Ol iZ ur a2T a2U a2V ka;refine oK hK ?_ fun af=>?_
       .exact ⟨(cZ (a:=⟨b.gb,2,none⟩) yt.o.1).trans x2,Me yt.o.2.1 ⟨Gp,Gq,Gs,Gt,Gu,Gv,Gw,Gx,Gy,Gz,GB,GC,GD,GF⟩⟩
       replace ad:=af;clear hK K af;refine tD 6 7 8 9 ad ?_;refine tk 10 ad ?_;refine dY (by kernel_rfl) ?_ _
       try clear ad
       refine NoPanic.normal ?_;clear x2 Gp Gq Gs Gt Gu Gv Gw Gx Gy Gz GB GC GD GF HA;have gi:=kp (show aa w7 b.gb 84 _ from yt.o.1.trans si.o.dy.kG);have x3:w7.cell? ⟨b.gb,3,none⟩=some (.map (some b.gm)):=gi.o.cell 3;obtain ⟨D7,a2W,a2X⟩:=si.o.dy.met.same yt.o.2.2;have adg:=kp a2X;have NG:=kp (show rf.parts.length<maxLen by rw [<-Oj.o];unfold maxLen;omega);have Sd:=kp (show (Lit.int .i64 ((j9.length:Nat):Int)).wf=true from WalkArith.wf_i64 (by omega));have Om:=kp (fun w8 hg qV=>(si.o.below (aq _ _).drew).added (p:=(at_,part)) hb U0.o DT.o adb.o ade.o adf.o DZ.o wW (w8:=w8) hg qV);clear a2X
       go_wp2_with (at_mapUpdate;refine wpList_mapUpdate_own _ rfl (.tmp 107) (.tmp 108) (.tmp 109) 82 rfl 9 3 xv Tryz.underlying82 (plainElem Tryz.prog 3) b.gm rf.parts.length D7 rfl a2W NG.o (.string z) (.int .i64 ((j9.length:Nat):Int)) (.string z.data.toList) rfl rfl qU.o _ [] (plainElem_int Tryz.underlying3 Sd.o) ?_;intro w8 GG a2Y;have adh:=kp GG;have adi:=kp a2Y;clear GG a2Y x3 a2W)
       have U1:=kp (show yX w8 b.gm (rf.parts++[(at_,part)]) from ⟨_,by rw [aS];exact adh.o,by
        rw [Hz.o,Oj.o]
        exact adg.o.put D9.o Hfd.o⟩)
       exact TN.o j9.length yq yr _ _ 0 _ w8 (Om.o w8 adi.o U1.o) (fun i hi => .inl (Gn.o i hi)) (by trivial) (fun _=>by rw [Hnv.o,if_pos (by rw [<-zK.o];exact wW),ux.o,zK.o]) (fun h=>by omega) (.inl rfl)
      .skip
       refine wp_region_noPanic ?_;refine dt (t:=99) (S:=(fun w'=>(w'.cell? ⟨b.gb,2,none⟩=some (.pointer (some ⟨b.ga,0,none⟩)))/\(w'.cell? ⟨gN,0,none⟩=some (.int .i64 (at_:Nat))/\w'.cell? ⟨gN,1,none⟩=some (.slice A1 k c1)/\w'.cell? ⟨gN,2,none⟩=some (.int .i64 cx.key)/\w'.cell? ⟨gN,3,none⟩=some (.int .i64 cx.child)/\w'.cell? ⟨gN,4,none⟩=some (.int .i64 cx.ag.c)/\w'.cell? ⟨gN,5,none⟩=some (.int .i64 cx.ag.s0)/\w'.cell? ⟨gN,6,none⟩=some (.int .i64 cx.ag.n0)/\w'.cell? ⟨gN,7,none⟩=some (.int .i64 cx.ag.x0)/\w'.cell? ⟨gN,8,none⟩=some (.int .i64 cx.ag.s1)/\w'.cell? ⟨gN,9,none⟩=some (.int .i64 cx.ag.n1)/\w'.cell? ⟨gN,10,none⟩=some (.int .i64 cx.ag.x1)/\w'.cell? ⟨gN,11,none⟩=some (.int .i64 cx.ag.s2)/\w'.cell? ⟨gN,12,none⟩=some (.int .i64 cx.ag.n2)/\w'.cell? ⟨gN,13,none⟩=some (.int .i64 cx.ag.x2)))) (by kernel_rfl) ⟨x2,Gp,Gq,Gs,Gt,Gu,Gv,Gw,Gx,Gy,Gz,GB,GC,GD,GF⟩ (fun ad => ?_);refine tD 0 1 2 3 ad ?_;refine tk 4 ad ?_;refine oT 5 fun K hK=>?_
       go_simp
       refine (HA.o W6.drew (aq _ _).drew).mono ?_;rintro e w7 ⟨_,eG⟩;obtain ⟨rfl,jS⟩:=eG wW;have fE:=kp (show Below W6.heap.size W6 w7 from (aq _ _).drew.trans jS);clear eG jS;refine oK hK ?_ fun af=>?_
       .exact ⟨aL fE.o x2,Me (fE.o.block _ gG.o.lt) ⟨Gp,Gq,Gs,Gt,Gu,Gv,Gw,Gx,Gy,Gz,GB,GC,GD,GF⟩⟩
       replace ad:=af;clear hK K af;refine tD 6 7 8 9 ad ?_;refine tk 10 ad ?_;refine dY (by kernel_rfl) ?_ _
       try clear ad
       refine NoPanic.normal ?_;clear x2 Gp Gq Gs Gt Gu Gv Gw Gx Gy Gz GB GC GD GF HA;have U2:=kp (si.o.below fE.o);obtain ⟨g4,g5⟩:w7.cell? ⟨b.gb,4,none⟩=some (.int .i64 ((0:Nat):Int))/\w7.frozen? ⟨b.gb,4,none⟩=false:=⟨U2.o.dy.kG.cell 4,U2.o.dy.kG.free 4⟩
       have bN:=kp (TN.o 0 pG pH j9 rf 7 F5 _ (U2.o.fail hb Tg.o) Gn.o (by trivial) (fun h=>by omega) (fun _=>by rw [Hnv.o,if_neg (by rw [<-zK.o];exact wW)]) (.inr rfl));go_wp2_with fail;exact bN.o
end Go.Proofs.YtjopcamkclndlaaGreat.Tc
namespace Go.Proofs.YtjopcamkclndlaaGreat.Tc
open List Go.RowKit Base
theorem a0Q (b:Bc) (hb:b.Ok):∀ (d:Nat),d<b.X.length->PS b (b.X.length-1-d) (visit b.ps b.lifts b.most b.X.length d)
 | 0,h=>YL b hb _ (by omega) none (abA b hb _ (by omega)) (show b.X.length-1-0+1=b.X.length by omega) trivial
 | d+1,h=>by
  have e:b.X.length-1-(d+1)+1=b.X.length-1-d:=by omega
  have ih:=a0Q b hb d (by omega);refine YL b hb _ (by omega) (some (visit b.ps b.lifts b.most b.X.length d)) (a73 b hb _ (by omega) _ (by rw [e];exact ih)) ⟨by omega,?_⟩ ?_
  .rw [e];exact Mz (by omega)
  .unfold yV;dsimp only;rw [e];exact Q1 (by omega)
def N9 (xs:List Fa) (m most:Nat) (w:World) (e:Ending) (w':World):Prop:=∃ (ga:Nat) (A:OA) (c:Nat) (ys:List Fa),e = .returned (.tuple #[.pointer (some ⟨ga,0,none⟩),.int .i64 0])/\aa w' ga 160 (im A ys.length c m none 0 0 most)/\fX w' w.heap.size (.slice A ys.length c) ys/\ys.map Fa.keys=xs.map Fa.keys/\Below w.heap.size w w'/\w.heap.size<=ga/\∀k,ir A ys k->k≠ga
theorem QS (A:OA) (c m most:Nat) (xs:List Fa) (w:World) (h:ep w w.heap.size A xs) (ho:Bg xs m) (acT:most<=131072):Calls Tryz.prog 30 #[.agg #[.slice A xs.length c,.int .i64 (m:Nat)],.int .i64 (most:Nat)] w (N9 xs m most w):=by
 obtain ⟨i0,cG,cI,cH,cJ⟩:=info_parts N7;have HQ:=kp (show ∀ga A c ys w',aa w' ga 160 (im A ys.length c m none 0 0 most)->fX w' w.heap.size (.slice A ys.length c) ys->ys.map Fa.keys=xs.map Fa.keys->Below w.heap.size w w'->w.heap.size<=ga->(∀k,ir A ys k->k≠ga)->N9 xs m most w (.returned (.tuple #[.pointer (some ⟨ga,0,none⟩),.int .i64 0])) w' from fun ga A c ys w' h1 h2 h3 h4 h5 h6=>⟨ga,A,c,ys,rfl,h1,h2,h3,h4,h5,h6⟩);have Hh:=kp h;have mw:=ho.n2;have qe:=kp (show ∀x∈xs,x.keys.length<=1000000 from fun x hx=>by have:=(ho.each x hx).n2;omega);have au:=(aq w.heap.size w).alloc (ah _) (.cells #[.slice A xs.length c,.int .i64 (m:Nat)] 75);have HB:=kp (aa.new w 75 #[.slice A xs.length c,.int .i64 (m:Nat)]);have HM:=kp (ab8 A c m xs _ ((h.below au).more au.size) ho);have ay:=kp au;clear h ho au;generalize hQ:N9 xs m most w=Q at *;clear hQ;obtain ⟨z0,z1,_,_⟩:=HB.o.two;obtain ⟨n,hn⟩:∃n,xs.length=n:=⟨_,rfl⟩
 have Hn:=kp hn;rw [hn] at z0 z1 mw HB ay HM ⊢;clear hn;have q1:¬ (most:Int)<0:=by omega
 have q2:¬ (131072:Int)<(most:Int):=by omega
 have jg:decide ((most:Int)<0)=false:=decide_eq_false q1;have kz:decide ((131072:Int)<(most:Int))=false:=decide_eq_false q2;generalize dj:w.alloc (.cells #[.slice A n c,.int .i64 (m:Nat)] 75)=W0 at *;go_enter Tryz.func30,Tryz.ntmps30;go_wp2_with fail;refine HM.o.mono ?_;rintro e w1 ⟨rfl,ax⟩;clear z0 z1 dj;obtain ⟨z0,z1,_,_⟩:=(HB.o.under ax).two;have aM:=aR ay ax;have yk:=kp ax;clear ax;have lI:=kp (aa.new w1 75 #[.slice none 0 0,.int .i64 (m:Nat)]);have aF:=kp (aM.o.alloc aM.o.size (.cells #[.slice none 0 0,.int .i64 (m:Nat)] 75));have x9:=kp (show w.heap.size<=w1.heap.size from aM.o.size);have aV:=kp ((HB.o.under (show Below W0.heap.size W0 w1 from yk.o)).alloc (.cells #[.slice none 0 0,.int .i64 (m:Nat)] 75));generalize dN:w1.alloc (.cells #[.slice none 0 0,.int .i64 (m:Nat)] 75)=W2 at *;obtain ⟨y0,y1,_,_⟩:=aV.o.two;go_wp2_with fail;clear z0 z1 y0 y1 dN q1 q2 jg kz yk aV;generalize w1.heap.size=gS at *
 go_loopw [26] (fun U3 wr=>∃ (k:Nat) (ys:List Fa) (A':OA) (c':Nat),k<=n/\U3 = .int .i64 k/\ys.length=k/\ys.map Fa.keys=(xs.take k).map Fa.keys/\aa wr gS 75 #[.slice A' k c',.int .i64 (m:Nat)]/\fX wr (gS+1) (.slice A' k c') ys/\Below w.heap.size w wr) (fun U3 _=>n-(intOf U3).toNat)
 case atStart=>exact ⟨0,[],none,0,aZ _,rfl,rfl,rfl,lI.o,fX.nil _ _,aF.o⟩
 case round =>
  obtain ⟨k,ys,A',c',hk,rfl,rP,lC,aJ,aE,aC⟩:=hrel;have tj:=kp rP;have uy:=kp lC;have bO:=kp aJ;have bF:=kp aE;have ai:=kp aC;clear rP lC aJ aE aC;by_cases ae:k<n
  .have bE:k<xs.length:=by rw [Hn.o];exact ae
   have br:=(Hh.o.below ai.o).more ai.o.size;obtain ⟨b,off,hA,hb,c0⟩:=Row.at_ br.row (k:=k) (by rw [lM];exact bE);rw [getElem_map] at c0;unfold lg at c0;have ee:=kp (fun W (hW:Below wr.heap.size wr W)=>Md (xs[k]'bE).A (xs[k]'bE).c (xs[k]'bE).keys W (qe.o _ (gM bE)) (((br.each _ (gM bE)).below hW).more hW.size));have KF:=kp (show ∀f:Fa,f.keys=(xs[k]'bE).keys->(ys++[f]).map Fa.keys=(xs.take (k+1)).map Fa.keys from fun f hf=>by rw [take_succ_eq_append_getElem bE,map_append,map_append,uy.o,map_cons,map_nil,map_cons,map_nil,hf]);generalize (xs[k]'bE).A=xA at *;generalize (xs[k]'bE).keys=xk at *;generalize (xs[k]'bE).c=xc at *;have dz:(0:Int)<=(k:Int):=by omega
   have df:(k:Int)<(n:Int):=by omega
   rw [hA];clear br hA;go_upto_region 7 with fail
   clear c0;obtain ⟨x0,x1,f0,_⟩:=bO.o.two;have mr:gS<wr.heap.size:=bO.o.lt;have U4:=kp (ee.o wr.drew (aq _ _).drew);refine wp_region_noPanic ?_;refine dt (t:=7) (S:=(fun w'=>w'.cell? ⟨gS,0,none⟩=some (.slice A' k c')/\w'.frozen? ⟨gS,0,none⟩=false)) (by kernel_rfl) ⟨x0,f0⟩ (fun ad => ?_);refine mX 0 1 2 ad ?_;refine oT 3 fun K hK=>?_
   go_simp
   refine U4.o.mono ?_;rintro e w4 ⟨v4,rfl,pq,cq⟩;obtain ⟨A4,c4,rfl⟩:=iq pq;have lE:=kp pq;have bH:=kp (show Below wr.heap.size wr w4 from (aq _ _).drew.trans cq);clear pq cq;refine oK hK ?_ fun af=>?_
   .exact ⟨aL bH.o ad.1,by rw [lU bH.o _ _ mr];exact f0⟩
   replace ad:=af;clear hK K af;have kv:gS<w4.heap.size:=dL mr bH.o.size;have cP:=kp (bF.o.below bH.o);have HN:=kp (MW (n:=0) (w:=w4) (v := .slice A' k c') (B0:=gS+1) lE.o (fun j hj=>(bF.o.1.lt j hj).2) mr);have DI:=kp (bO.o.under bH.o);have kr:=kp (ai.o.trans (bH.o.mono ai.o.size));have lJ:=kp (show w4.ownsRow (gS+1) 27 1 (.slice A' k c') k (ys.map lg) by have:=cP.o.1;rw [tj.o] at this;exact this);have cz:k<1048576*64:=by omega
   have je:=kp (show (Value.slice A' k c').ownBlock≠some gS from fun hh=>by have:=(lJ.o.lt gS hh).1;omega);refine oT 4 fun K hK=>?_
   go_simp
   refine oK hK ?_ fun af=>?_
   .exact ⟨aL ((aq _ _).alloc (ah _) _) ad.1,by rw [lU ((aq _ _).alloc (ah w4.heap.size) _) _ _ kv];exact ad.2⟩
   replace ad:=af;clear hK K af;refine oT 5 fun K hK=>?_
   refine xB rfl (.tmp 31) (.tmp 34) 73 rfl (gS+1) 27 i0 (.slice none 0 0) 24 Tryz.underlying73 cG cI cH cJ rfl w4 (.slice A4 xk.length c4) rfl (.slice A' k c') k (ys.map lg) rfl lJ.o rfl cz (by decide) kv ?_;intro v5 w5 aY bV;obtain ⟨A5,c5,h5⟩:=iq aY;subst h5;have gR:=kp aY;have dh:=kp bV;clear aY bV
   go_simp
   refine oK hK ?_ fun af=>?_
   .have e1:=(dh.o.de kv je.o)
    have e2:=(Below.heap_alloc w4 (.cells #[.slice A4 xk.length c4] 27) _ kv)
    exact ⟨(cZ (a:=⟨gS,0,none⟩) (e1.trans e2.symm)).trans ad.1,by have h:=ad.2;unfold World.frozen? at h ⊢;rw [e1.trans e2.symm];exact h⟩
   replace ad:=af;clear hK K af;refine tk 6 ad ?_;refine rr (o := ?op7) (by kernel_rfl) ?ap7 (by kernel_rfl) (fun K hK => ?bp7)
   case ap7=>(simp only [getElem?_toArray,getElem?_cons_succ,getElem?_cons_zero];exact rfl)
   obtain ⟨ic,oX⟩:=ad;have ad:=ic
   go_simp
   refine hK.out _ _ ?_;clear hK K ad;refine NoPanic.normal ?_
   try simp only [Act.put,setIfInBounds_toArray,set_cons_zero,set_cons_succ]
   have HF:=kp (fX.app (f:=⟨A4,xk,c4,aO⟩) cP.o HN.o.1 HN.o.2 gR.o dh.o tj.o);go_wp2_with fail;refine ⟨⟨k+1,ys++[⟨A4,xk,c4,aO⟩],A5,c5,by omega,by go_num,by rw [aS,tj.o];rfl,KF.o _ rfl,?_,?_,?_⟩,by simp [intOf];omega⟩
   .exact aa.set (show aa w5 gS 75 #[.slice A' k c',.int .i64 (m:Nat)] from (dh.o.de kv je.o).trans DI.o) 0 (.slice A5 (k+1) c5)
   .exact HF.o.bX (p:=⟨gS,0,none⟩) (by simp) _
   .exact (dh.o.below kr.o lJ.o (aT x9.o (Nat.le_succ _)) (aT x9.o (Nat.le_of_lt kv))).setCell (p:=⟨gS,0,none⟩) x9.o _
  .obtain rfl:k=n:=by omega
   obtain ⟨x0,x1,_,_⟩:=bO.o.two;have ov:=(aq wr.heap.size wr).alloc (ah _) (.cells (im A' k c' m none 0 0 most) 160);have HF:=kp (HQ.o wr.heap.size A' c' ys (wr.alloc (.cells (im A' k c' m none 0 0 most) 160)));rw [tj.o] at HF;have rS:=kp (show ys.map Fa.keys=xs.map Fa.keys by have:=uy.o;rw [take_of_length_le (by rw [Hn.o];exact ah _)] at this;exact this);have bN:=kp (HF.o (aa.new wr _ _) ((bF.o.below ov).base (aT x9.o (Nat.le_succ _))) rS.o (ai.o.alloc ai.o.size _) ai.o.size (fun j hj=>Nat.ne_of_lt (ep.cW bF.o.at_ hj)));go_wp2_with fail;exact bN.o
end Go.Proofs.YtjopcamkclndlaaGreat.Tc
namespace Go.Proofs.YtjopcamkclndlaaGreat.Tc
open List Go.RowKit Base Go.Maps Go.WideMaps
structure MU (s:aW) (fs:List Fa) (most:Nat):Prop where
 eF:dO s
 cfg:xE (aG fs) (s.ak.map gl) (s.ak.map dK) s.aU.length
 facts:∀xs:List Fa,xs.map Fa.keys=s.ak.map dK->∀f∈fs,QV xs s.aU.length f
 shape:∀xs:List Fa,xs.map Fa.keys=s.ak.map dK->Bg xs s.aU.length
 vN:Mb fs
 fit:∀f∈fs,eX f.ag
 most:most<=131072
def dQ (s:aW) (fs:List Fa) (most:Nat):Option (List aI) :=
 if fs=[] then some [] else (visit (aG fs) (s.ak.map gl) most s.ak.length (s.ak.length-1) (range fs.length) ⟨[],[]⟩).map fun r=>r.1.nodes
def EN (B:Nat) (A:OA) (ys:List Fa) (An:OA) (nds:List Nd):Prop:=(∀k,ir A ys k->B<=k)/\(∀k,eo An (nds.flatMap dJ) k->B<=k)/\∀n∈nds,∀k,pQ n k->B<=k
theorem EN.nil {B:Nat} {A:OA} {ys:List Fa} (h:∀k,ir A ys k->B<=k):EN B A ys none []:=⟨h,fun k hk=>absurd rfl hk.1,fun n hn=>(by cases hn)⟩
def IB (s:aW) (fs:List Fa) (most:Nat) (w:World) (e:Ending) (w':World):Prop :=
 (∀ns,dQ s fs most=some ns->∃ (ga:Nat) (A An:OA) (c cn:Nat) (ys:List Fa) (nds:List Nd),e = .returned (.tuple #[.pointer (some ⟨ga,0,none⟩),.int .i64 0])/\aa w' ga 160 (im A ys.length c s.aU.length An nds.length cn most) /\
   ep w' w'.heap.size A ys/\ys.map Fa.keys=s.ak.map dK/\jH w' w'.heap.size An nds/\nds.map az=ns/\Below w.heap.size w w'/\w.heap.size<=ga/\EN w.heap.size A ys An nds) /\
 (dQ s fs most=none->e = .returned (.tuple #[.pointer none,.int .i64 7])/\Below w.heap.size w w')
theorem QD {ps:List (LN×Ag)} (h:ps≠[]):kV ps (range ps.length) :=
 ⟨fun e=>h (length_eq_zero_iff.1 (by simpa using congrArg length e)),fun i hi=>mem_range.1 hi,nodup_range⟩
theorem PN (s:aW) (most:Nat) (Af:OA) (cf:Nat) (fs:List Fa) (w:World) (h:gW w w.heap.size s) (hf:dG w w.heap.size Af fs) (ho:MU s fs most) :
 Calls Tryz.prog 9 #[.agg (cj s),.int .i64 (most:Nat),.slice Af fs.length cf] w (IB s fs most w):=by
 have rQ:=@run_makeMap Tryz.prog;obtain ⟨i0,cG,cI,cH,cJ⟩:=info_parts vV;have hn:=ho.cfg.J5;have O5:(aG fs).length=fs.length:=by unfold aG;rw [lM]
 rw [O5] at hn
 have HQ:=kp (show ∀ (ga:Nat) (A An:OA) (c cn:Nat) (ys:List Fa) (nds:List Nd) w',dQ s fs most=some (nds.map az)->aa w' ga 160 (im A ys.length c s.aU.length An nds.length cn most)->ep w' w'.heap.size A ys->ys.map Fa.keys=s.ak.map dK->jH w' w'.heap.size An nds->Below w.heap.size w w'->w.heap.size<=ga->EN w.heap.size A ys An nds->IB s fs most w (.returned (.tuple #[.pointer (some ⟨ga,0,none⟩),.int .i64 0])) w' from fun ga A An c cn ys nds w' h0 h1 h2 h3 h4 h5 h6 h7 =>
  ⟨fun ns tm=>⟨ga,A,An,c,cn,ys,nds,rfl,h1,h2,h3,h4,by rw [h0] at tm;injection tm,h5,h6,h7⟩,fun tm=>by rw [h0] at tm;cases tm⟩)
 have HN:=kp (show ∀w',dQ s fs most=none->Below w.heap.size w w'->IB s fs most w (.returned (.tuple #[.pointer none,.int .i64 7])) w' from fun w' h0 h1=>⟨fun ns tm=>by (rw [h0] at tm;cases tm),fun _=>⟨rfl,h1⟩⟩);have Hh:=kp h;have Hf:=kp hf;have Ho:=kp ho;have ku:=(aq w.heap.size w).alloc (ah _) (.cells (cj s) 25);have cQ:=kp (aa.new w 25 (cj s));have HC:=kp (Ql s _ ((h.below ku).more ku.size) ho.eF);have HS:=kp (fun W hW=>ZM s W ((h.below hW).more hW.size) ho.eF);have HL:=kp (fun W hW=>a8H s W ((h.below hW).more hW.size) ho.eF);have HF:=kp (fun A c xs W (hx:ep W W.heap.size A xs) (hk:xs.map Fa.keys=s.ak.map dK) hW=>abg A Af c cf s.aU.length xs fs W hx ((hf.below hW).more hW.size) (ho.shape xs hk).n2 (by omega) (ho.shape xs hk).m1 (ho.shape xs hk).m2 (ho.facts xs hk) ho.vN);have HA:=kp (fun A c xs W (hx:ep W W.heap.size A xs) (hk:xs.map Fa.keys=s.ak.map dK)=>QS A c s.aU.length most xs W hx (ho.shape xs hk) ho.most);have jT:=kp ku;clear h hf ho ku O5;generalize hQ:IB s fs most w=Q at *;clear hQ;unfold cj at HC HS HL cQ jT ⊢;generalize dj:w.alloc (.cells #[.slice s.A s.ak.length s.c,.slice s.Am s.aU.length s.cm] 25)=W0 at *;obtain ⟨z0,z1,_,_⟩:=cQ.o.two;obtain ⟨n,iM⟩:∃n,fs.length=n:=⟨_,rfl⟩
 have Hn:=kp iM;rw [iM] at HF hn ⊢;clear iM;have q1:¬ (4000:Int)<(n:Int):=by omega
 have jg:decide ((4000:Int)<(n:Int))=false:=decide_eq_false q1;go_enter Tryz.func9,Tryz.ntmps9;go_wp2_with fail;refine HC.o.mono ?_;rintro e w1 ⟨r0,rfl,rfl,ax⟩;have bL:=bu cQ ax;have aM:=aR jT ax;clear ax z0 z1 dj HC;obtain ⟨z0,z1,_,_⟩:=bL.o.two;have uz:=kp (HS.o w1 aM.o);go_wp2_with fail;refine uz.o.mono ?_;rintro e w2 ⟨A,c,xs,rfl,ow,pW,aH⟩;have aV:=bu bL aH;have aF:=aR aM aH;have sZ:=kp pW;have JO:=kp ow.at_;clear aH z0 z1 HS uz ow pW bL;have aN:=(aq w2.heap.size w2).alloc (ah _) (.cells #[.slice A xs.length c,.int .i64 s.aU.length] 75);have mD:=kp (aa.new w2 75 #[.slice A xs.length c,.int .i64 s.aU.length]);have bM:=bu aV aN;have bC:=aR aF aN;have U5:=kp ((JO.o.below aN).more aN.size);generalize dH:w2.alloc (.cells #[.slice A xs.length c,.int .i64 s.aU.length] 75)=W3 at *;obtain ⟨z0,z1,_,_⟩:=bM.o.two;obtain ⟨x0,x1,_,_⟩:=mD.o.two;have KG:=kp (HF.o A c xs W3 U5.o sZ.o bC.o);go_wp2_with fail;refine KG.o.mono ?_;rintro e w4 ⟨rfl,cq⟩;clear dH;have fN:=bu bM cq;have HX4:=bu mD cq;have bH:=aR bC cq;have a2Z:=kp ((U5.o.below cq).more cq.size);clear aN cq z0 z1 x0 x1 bM mD HF KG U5 JO aV;obtain ⟨x0,x1,_,_⟩:=HX4.o.two;have HA4:=kp (HA.o A c xs w4 a2Z.o sZ.o);go_wp2_with fail;refine HA4.o.mono ?_;rintro e w5 ⟨ga,Aa,ca,ys,rfl,aJ,GH,lC,cV,pw,nH⟩;have eg:=bu fN cV;have bZ:=aR bH cV;have U6:=kp GH.at_;have uy:=kp (lC.trans sZ.o);have bO:=kp aJ;have U7:=kp (show w.heap.size<=ga from aT bH.o.size pw);have BZ:=kp nH
 have HFr:=kp (show ∀k,ir Aa ys k->w.heap.size<=k from fun k hk=>aT bH.o.size (by
  rcases hk with ⟨off,e,av⟩ | ⟨f,hf,off,e,av⟩
  .subst e;exact (GH.1.lt k rfl).1
  .exact GH.2.2 f hf k off e av))
 clear aJ GH lC cV pw nH x0 x1 HA HA4 HX4 a2Z fN;by_cases nK:n=0
 .have ie:fs=[]:=length_eq_zero_iff.1 (by rw [Hn.o];exact nK);have q2:((n:Int) == 0)=true:=by subst nK;rfl
  have bN:=kp (HQ.o ga Aa none ca 0 ys [] w5 (by unfold dQ;rw [if_pos ie];rfl) bO.o U6.o uy.o ⟨.inl rfl,fun x hx=>by cases hx⟩ bZ.o U7.o (EN.nil HFr.o));go_wp2_with fail;exact bN.o
 .have q2:((n:Int) == 0)=false:=by simp;exact nK
  obtain ⟨z0,z1,_,_⟩:=eg.o.two;have HL5:=kp (HL.o w5 bZ.o);go_wp2_with fail;refine HL5.o.mono ?_;rintro e w6 ⟨Al,cl,rs,rfl,oW,ua,eR⟩;have U8:=kp oW;have Kq:=kp ua;have U9:=kp eR;have eI:=aR bZ eR;clear oW ua eR z0 z1 HL HL5;have vt:=kp (((aq w6.heap.size w6).alloc (ah _) (.map #[] 0)).alloc (by simp) (.cells #[.slice Af n cf,.slice Al rs.length cl,.pointer (some ⟨ga,0,none⟩),.map (some w6.heap.size),.int .i64 0] 84));have xY:=kp ((World.ownsMap_made w6 Tryz.prog 9 (plainElem (H:=Unit) Tryz.prog 3)).alloc (.cells #[.slice Af n cf,.slice Al rs.length cl,.pointer (some ⟨ga,0,none⟩),.map (some w6.heap.size),.int .i64 0] 84));have DA:=kp (show aa ((w6.alloc (.map #[] 0)).alloc (.cells #[.slice Af n cf,.slice Al rs.length cl,.pointer (some ⟨ga,0,none⟩),.map (some w6.heap.size),.int .i64 0] 84)) (w6.heap.size+1) 84 #[.slice Af n cf,.slice Al rs.length cl,.pointer (some ⟨ga,0,none⟩),.map (some w6.heap.size),.int .i64 0] from aa.lay (by simp));have nN:((w6.alloc (.map #[] 0)).alloc (.cells #[.slice Af n cf,.slice Al rs.length cl,.pointer (some ⟨ga,0,none⟩),.map (some w6.heap.size),.int .i64 0] 84)).heap.size=w6.heap.size+2:=by simp
  generalize nO:(w6.alloc (.map #[] 0)).alloc (.cells #[.slice Af n cf,.slice Al rs.length cl,.pointer (some ⟨ga,0,none⟩),.map (some w6.heap.size),.int .i64 0] 84)=W8 at *;go_wp2_with fail;clear nO;have Ua:=kp nN;clear nN q1 jg q2
  go_loopw [14,54] (fun rW Ub wr=>∃ (k:Nat) (A':OA) (c':Nat),k<=n/\Ub = .int .i64 k/\rW = .slice A' k c'/\wr.ownsRow W8.heap.size 3 1 (.slice A' k c') k (aP (range k))/\Below W8.heap.size W8 wr) (fun _ Ub _=>n-(intOf Ub).toNat)
  case atStart=>exact ⟨0,none,0,aZ _,rfl,rfl,gL _ _ _ _,aq _ _⟩
  case round =>
   obtain ⟨k,A',c',hk,rfl,rfl,aE,aC⟩:=hrel;have bF:=kp aE;have ai:=kp aC;clear aE aC;by_cases ae:k<n
   .have cz:k<1048576*64:=by omega
    have Hs:=kp ai.o.size
    go_wp2_with (at_builtin;refine tE rfl (.tmp 57) (.tmp 59) 27 rfl W8.heap.size 3 i0 (.int .i64 0) 8 Tryz.underlying27 cG cI cH cJ rfl wr (.int .i64 (k:Int)) rfl (.slice A' k c') k (aP (range k)) rfl bF.o rfl cz (by decide) Hs.o ?_;intro v6 w7 iL jE;obtain ⟨A6,c6,h6⟩:=iq iL;subst h6;have gR:=kp iL;have fE:=kp (jE.below ai.o bF.o (ah _) Hs.o);clear iL jE)
    exact ⟨⟨k+1,A6,c6,by omega,by go_num,rfl,by rw [range_succ];unfold aP at *;rw [map_append];exact gR.o,fE.o⟩,by simp [intOf];omega⟩
   .obtain rfl:k=n:=by omega
    have td:fs≠[]:=fun e=>nK (by rw [<-Hn.o,e];rfl)
    have Uc:=kp (show Below w6.heap.size w6 wr from vt.o.trans (ai.o.mono (by rw [Ua.o];omega)));have Ud:=kp (eI.o.trans (Uc.o.mono eI.o.size));have a2':=kp (show Below w5.heap.size w5 wr from U9.o.trans (Uc.o.mono U9.o.size));have h5:ga<w5.heap.size:=bO.o.lt;have h56:=U9.o.size;have h5w:=bZ.o.size;have h8:=Ua.o;have Ue:=ai.o.size;have hgw:=U7.o;obtain ⟨b,hb⟩:∃b:Bc,b=⟨W8.heap.size,w6.heap.size+1,ga,w6.heap.size,Af,fs,cf,Al,rs,cl,Aa,ys,ca,s.aU.length,most⟩:=⟨_,rfl⟩
    have pY:b.Ok:=by
     subst hb;refine ⟨?_,Ho.o.fit,?_,?_,?_,?_,?_,?_,?_⟩
     .show xE (aG fs) (rs.map fun r=>r.fs.map Fa.keys) (ys.map Fa.keys) s.aU.length;rw [Kq.o,uy.o];exact Ho.o.cfg
     .have:=Ho.o.most;dsimp only;omega
     all_goals (dsimp only;omega)
    have aE:∀j,b.own j->j<W8.heap.size/\w.heap.size<=j:=by
     subst hb;intro j hj;unfold Bc.own at hj;dsimp only at hj;omega
    have BI:=kp aE;have wN:Start b b.own none 0 [] ⟨[],[]⟩ 0 A' (range k) wr:=by
     have my:b.Ro wr:=by
      subst hb;refine ⟨(Hf.o.below Ud.o).more (by dsimp only;omega),((U8.o.at_).below Uc.o).more (by dsimp only;omega),(U6.o.below a2'.o).more (by dsimp only;omega),fun j hj ho => ?_,fun j hj ho => ?_,fun j hj ho => ?_⟩
      .have:=Hf.o.cW hj;unfold Bc.own at ho;dsimp only at ho;omega
      .have h1:=U8.o.D2 hj;have h2:=U8.o.at_.cW hj;unfold Bc.own at ho;dsimp only at ho;omega
      .have h1:=BZ.o j hj;have h2:=U6.o.cW hj;unfold Bc.own at ho;dsimp only at ho;omega
     refine ⟨my,?_,gV bF.o,fun j hj ho => ?_,?_,.inl rfl,fun _=>Good.nil _ _ _⟩
     .refine ⟨?_,fun j hj => .inr hj,fun j hj=>hj,fun j hj=>dL (aE j hj).1 Ue,?_,?_,?_,(fun j hj=>by cases hj),(fun x hx=>by cases hx),rfl,aZ _,rfl,?_⟩
      .subst hb;exact Ue
      .subst hb;show aa wr (w6.heap.size+1) _ #[.slice Af fs.length cf,.slice Al rs.length cl,.pointer (some ⟨ga,0,none⟩),.map (some w6.heap.size),.int .i64 0];rw [Hn.o];exact DA.o.under ai.o
      .subst hb;exact bO.o.under a2'.o
      .exact iR.nil _ _
      .subst hb;exact yX.same ⟨_,xY.o,CO.nil⟩ (ai.o.block _ (by dsimp only;omega))
     .obtain ⟨av,off,e⟩:=hj;have h1:=kh.own bF.o (ah _) j off e av;have h2:=(aE j ho).1;omega
     .subst hb;have:=QD (ps:=aG fs) (by unfold aG;simpa using td);rw [show (aG fs).length=k by unfold aG;rw [lM];exact Hn.o] at this;exact this
    have JH:b.X.length=s.ak.length:=by
     subst hb;show (ys.map Fa.keys).length=_;rw [uy.o,lM]
    have hX1:=pY.cfg.n1;have HV:=a0Q b pY (b.X.length-1) (by omega);rw [Nat.sub_self] at HV;have Uf:=kp (HV b.own none 0 [] ⟨[],[]⟩ 0 A' c' (range k) wr wN)
    have HcV:=kp (show dQ s fs most=(visit b.ps b.lifts b.most b.X.length (b.X.length-1) (range k) ⟨[],[]⟩).map fun r=>r.1.nodes by
     unfold dQ;rw [if_neg td,Hn.o,JH];subst hb;show _=(visit (aG fs) (rs.map fun r=>r.fs.map Fa.keys) most _ _ _ _).map _
     rw [Kq.o])
    have Ug:=kp wN;have jB:b.gb=w6.heap.size+1:=by rw [hb]
    rw [jB,length_range] at Uf;have Hb:=kp hb;generalize visit b.ps b.lifts b.most b.X.length (b.X.length-1)=V at *;clear HV wN pY hX1 JH hb aE td h5 h56 h5w h8 Ue hgw;go_wp2_with fail;refine Uf.o.mono ?_;rintro e w9 ⟨i,An9,cn9,Uh,st9,adj,rfl,On,k1,k2,k3,k4⟩;have pz:=kp On;have pI:=kp (Ud.o.trans (On.bU.toBelow (fun j hj=>(BI.o j hj).2) Ud.o.size));have x4:w9.cell? ⟨w6.heap.size+1,4,none⟩=some (.int .i64 (adj:Nat)):=by
     have:=On.dy.kG.cell 4;rw [jB] at this;exact this
    clear On Uf;rcases k4 with rfl | rfl
    .have Hc:=kp (show dQ s fs most=some (Uh.map az) by
      rw [HcV.o,pz.o.dy.plain];rcases hv:V (range k) ⟨[],[]⟩ with _ | r
      .have:=k2 rfl hv;omega
      .rw [(k1 rfl r hv).2.1];rfl)
     have D':=kp (show ep w9 w9.heap.size Aa ys by
      have:=((Ug.o.ro.bU pz.o.bU Ug.o.dy.line Ug.o.dy.fF).shape).more pz.o.dy.line;rw [Hb.o] at this
      exact this)
     have KH:∀j,b.B<=j\/b.own j->w.heap.size<=j:=fun j hj=>by
      rcases hj with hj | hj
      .have h1:b.B=W8.heap.size:=by rw [Hb.o]
       have h2:=Ua.o;have h3:=eI.o.size;omega
      .exact (BI.o j hj).2
     have HNw:=kp (show EN w.heap.size Aa ys An9 Uh from ⟨HFr.o,fun j hj=>KH j (pz.o.dy.fF j (pz.o.dy.kY j (by obtain ⟨_,off,e⟩:=hj;rw [e];rfl))),fun n hn j hj=>KH j (pz.o.dy.fF j (pz.o.dy.kJ n hn j hj))⟩);clear KH;have bN:=kp (HQ.o ga Aa An9 ca cn9 ys Uh w9 Hc.o (by have:=pz.o.dy.CE;rw [Hb.o] at this;exact this) D'.o uy.o pz.o.dy.nodes.at_ pI.o U7.o HNw.o);go_wp2_with fail;exact bN.o
    .have Hc:=kp (show dQ s fs most=none by
      rw [HcV.o];rcases hv:V (range k) ⟨[],[]⟩ with _ | r
      .rfl
      .have:=(k1 rfl r hv).1;omega)
     have bN:=kp (HN.o w9.drew Hc.o pI.o.drew);go_upto_region 24 with fail
     refine wp_region_noPanic ?_;refine dt (t:=99) (S:=(fun w'=>w'.cell? ⟨w6.heap.size+1,4,none⟩=some (.int .i64 7))) (by kernel_rfl) x4 (fun ad => ?_);refine tD 0 1 2 3 ad ?_;refine tB 4 5 ad ?_;refine dY (by kernel_rfl) ?_ _
     try clear ad
     refine NoPanic.normal ?_;go_wp2_with fail;exact bN.o
end Go.Proofs.YtjopcamkclndlaaGreat.Tc
namespace Go.Proofs.YtjopcamkclndlaaGreat.Tc
open List Go.RowKit Base
section
variable (ga:Nat) (As An:OA) (nx cs m nn cn most:Nat) (w:World)
theorem Q8 (h:aa w ga 160 (im As nx cs m An nn cn most)) (hn:1<=nx) :
 Calls Tryz.prog 42 #[.pointer (some ⟨ga,0,none⟩)] w fun e w'=>e = .returned (.int .i64 (nn:Nat))/\w'=w:=by
 have HT:=kp (Fy ga As An nx cs m nn cn most w h hn);obtain ⟨⟨a0,a1,a2,a3⟩,_⟩:=aa.four h;go_enter Tryz.func42,Tryz.ntmps42;go_wp2_with fail;refine HT.o.mono ?_;rintro e w1 ⟨rfl,rfl⟩;go_wp2_with fail;go_ret;exact ⟨rfl,rfl⟩
theorem MM (h:aa w ga 160 (im As nx cs m An nn cn most)) (hn:1<=nx) (eE:nn<=1000000) :
 Calls Tryz.prog 44 #[.pointer (some ⟨ga,0,none⟩)] w fun e w'=>e = .returned (.int .i64 ((nn:Int)-1))/\w'=w:=by
 have HT:=kp (Q8 ga As An nx cs m nn cn most w h hn);have hw:IntKind.i64.wrap ((nn:Int)-1)=(nn:Int)-1:=IntWalk.i64_in _ (by omega);go_enter Tryz.func44,Tryz.ntmps44;go_wp2_with fail;refine HT.o.mono ?_;rintro e w1 ⟨rfl,rfl⟩;go_wp2_with fail;go_ret;exact ⟨rfl,rfl⟩
end
def RA (xs:List Fa) (m:Nat) (w:World) (e:Ending) (w':World):Prop:=∃ (A:OA) (c:Nat) (ys:List Fa),e = .returned (.agg #[.slice A ys.length c,.int .i64 (m:Nat)])/\fX w' w.heap.size (.slice A ys.length c) ys/\ys.map Fa.keys=xs.map Fa.keys/\Below w.heap.size w w'
theorem LR (ga:Nat) (A An:OA) (c m nn cn most:Nat) (xs:List Fa) (w:World) (aJ:aa w ga 160 (im A xs.length c m An nn cn most)) (h:ep w w.heap.size A xs) (ej:1<=xs.length) (mw:xs.length<=16) (dv:∀x∈xs,x.keys.length<=1000000) :
 Calls Tryz.prog 33 #[.pointer (some ⟨ga,0,none⟩)] w (RA xs m w):=by
 obtain ⟨i0,cG,cI,cH,cJ⟩:=info_parts N7;have HQ:=kp (show ∀A c ys w',fX w' w.heap.size (.slice A ys.length c) ys->ys.map Fa.keys=xs.map Fa.keys->Below w.heap.size w w'->RA xs m w (.returned (.agg #[.slice A ys.length c,.int .i64 (m:Nat)])) w' from fun A c ys w' h2 h3 h4=>⟨A,c,ys,rfl,h2,h3,h4⟩);have Hh:=kp h;have qe:=kp dv;have au:=(aq w.heap.size w).alloc (ah _) (.cells #[.slice none 0 0,.int .i64 0] 75);have ib:=kp (aa.new w 75 #[.slice none 0 0,.int .i64 0]);have zT:=kp (aJ.under au);have ay:=kp au;clear h au aJ dv;generalize hQ:RA xs m w=Q at *;clear hQ;obtain ⟨n,hn⟩:∃n,xs.length=n:=⟨_,rfl⟩
 have Hn:=kp hn;rw [hn] at zT mw ej;clear hn;generalize dj:w.alloc (.cells #[.slice none 0 0,.int .i64 0] 75)=W0 at *;have HT:=kp (Fy ga A An n c m nn cn most W0 zT.o ej);have ax:=(aq W0.heap.size W0).alloc (ah _) (.cells #[.slice none 0 0,.int .i64 (m:Nat)] 75);have lI:=kp (aa.new W0 75 #[.slice none 0 0,.int .i64 (m:Nat)]);have HG1:=bu zT ax;have KI:=bu ib ax;have aF:=aR ay ax;have x9:=kp (show w.heap.size+1<=W0.heap.size from ib.o.lt);generalize dN:W0.alloc (.cells #[.slice none 0 0,.int .i64 (m:Nat)] 75)=W2 at *;obtain ⟨⟨a0,a1,_,_⟩,_⟩:=aa.four zT.o;obtain ⟨⟨y0,y1,_,_⟩,_⟩:=aa.four HG1.o;clear ax;go_enter Tryz.func33,Tryz.ntmps33;go_wp2_with fail;refine HT.o.mono ?_;rintro e w1 ⟨rfl,rfl⟩;go_wp2_with fail;clear a0 a1 y0 y1 dN dj zT HG1 ib HT;generalize W0.heap.size=gS at *
 go_loopw [22] (fun v22 wr=>∃ (k:Nat) (ys:List Fa) (A':OA) (c':Nat),k<=n/\v22 = .int .i64 k/\ys.length=k/\ys.map Fa.keys=(xs.take k).map Fa.keys/\aa wr w.heap.size 75 #[.slice none 0 0,.int .i64 0]/\aa wr gS 75 #[.slice A' k c',.int .i64 (m:Nat)]/\fX wr (gS+1) (.slice A' k c') ys/\Below w.heap.size w wr) (fun v22 _=>n-(intOf v22).toNat)
 case atStart=>exact ⟨0,[],none,0,aZ _,rfl,rfl,rfl,KI.o,lI.o,fX.nil _ _,aF.o⟩
 case round =>
  obtain ⟨k,ys,A',c',hk,rfl,rP,lC,nL,aJ,aE,aC⟩:=hrel;have tj:=kp rP;have uy:=kp lC;have kR:=kp nL;have bO:=kp aJ;have bF:=kp aE;have ai:=kp aC;clear rP lC nL aJ aE aC;by_cases ae:k<n
  .have bE:k<xs.length:=by rw [Hn.o];exact ae
   have br:=(Hh.o.below ai.o).more ai.o.size;obtain ⟨b,off,hA,hb,c0⟩:=Row.at_ br.row (k:=k) (by rw [lM];exact bE);rw [getElem_map] at c0;unfold lg at c0;have ee:=kp (fun W (hW:Below wr.heap.size wr W)=>Md (xs[k]'bE).A (xs[k]'bE).c (xs[k]'bE).keys W (qe.o _ (gM bE)) (((br.each _ (gM bE)).below hW).more hW.size));have KF:=kp (show ∀f:Fa,f.keys=(xs[k]'bE).keys->(ys++[f]).map Fa.keys=(xs.take (k+1)).map Fa.keys from fun f hf=>by rw [take_succ_eq_append_getElem bE,map_append,map_append,uy.o,map_cons,map_nil,map_cons,map_nil,hf]);generalize (xs[k]'bE).A=xA at *;generalize (xs[k]'bE).keys=xk at *;generalize (xs[k]'bE).c=xc at *;have dz:(0:Int)<=(k:Int):=by omega
   have df:(k:Int)<(n:Int):=by omega
   rw [hA];clear br hA;go_upto_region 7 with fail
   clear c0;obtain ⟨x0,x1,f0,_⟩:=bO.o.two;have mr:gS<wr.heap.size:=bO.o.lt;have U4:=kp (ee.o wr.drew (aq _ _).drew);refine wp_region_noPanic ?_;refine dt (t:=7) (S:=(fun w'=>w'.cell? ⟨gS,0,none⟩=some (.slice A' k c')/\w'.frozen? ⟨gS,0,none⟩=false)) (by kernel_rfl) ⟨x0,f0⟩ (fun ad => ?_);refine mX 0 1 2 ad ?_;refine oT 3 fun K hK=>?_
   go_simp
   refine U4.o.mono ?_;rintro e w4 ⟨v4,rfl,pq,cq⟩;obtain ⟨A4,c4,rfl⟩:=iq pq;have lE:=kp pq;have bH:=kp (show Below wr.heap.size wr w4 from (aq _ _).drew.trans cq);clear pq cq;refine oK hK ?_ fun af=>?_
   .exact ⟨aL bH.o ad.1,by rw [lU bH.o _ _ mr];exact f0⟩
   replace ad:=af;clear hK K af;have kv:gS<w4.heap.size:=dL mr bH.o.size;have cP:=kp (bF.o.below bH.o);have HN:=kp (MW (n:=0) (w:=w4) (v := .slice A' k c') (B0:=gS+1) lE.o (fun j hj=>(bF.o.1.lt j hj).2) mr);have DI:=kp (bO.o.under bH.o);have kr:=kp (ai.o.trans (bH.o.mono ai.o.size));have lJ:=kp (show w4.ownsRow (gS+1) 27 1 (.slice A' k c') k (ys.map lg) by have:=cP.o.1;rw [tj.o] at this;exact this);have cz:k<1048576*64:=by omega
   have je:=kp (show (Value.slice A' k c').ownBlock≠some gS from fun hh=>by have:=(lJ.o.lt gS hh).1;omega);refine oT 4 fun K hK=>?_
   go_simp
   refine oK hK ?_ fun af=>?_
   .exact ⟨aL ((aq _ _).alloc (ah _) _) ad.1,by rw [lU ((aq _ _).alloc (ah w4.heap.size) _) _ _ kv];exact ad.2⟩
   replace ad:=af;clear hK K af;refine oT 5 fun K hK=>?_
   refine xB rfl (.tmp 27) (.tmp 30) 73 rfl (gS+1) 27 i0 (.slice none 0 0) 24 Tryz.underlying73 cG cI cH cJ rfl w4 (.slice A4 xk.length c4) rfl (.slice A' k c') k (ys.map lg) rfl lJ.o rfl cz (by decide) kv ?_;intro v5 w5 aY bV;obtain ⟨A5,c5,h5⟩:=iq aY;subst h5;have gR:=kp aY;have dh:=kp bV;clear aY bV
   go_simp
   refine oK hK ?_ fun af=>?_
   .have e1:=(dh.o.de kv je.o)
    have e2:=(Below.heap_alloc w4 (.cells #[.slice A4 xk.length c4] 27) _ kv)
    exact ⟨(cZ (a:=⟨gS,0,none⟩) (e1.trans e2.symm)).trans ad.1,by have h:=ad.2;unfold World.frozen? at h ⊢;rw [e1.trans e2.symm];exact h⟩
   replace ad:=af;clear hK K af;refine tk 6 ad ?_;refine rr (o := ?op7) (by kernel_rfl) ?ap7 (by kernel_rfl) (fun K hK => ?bp7)
   case ap7=>(simp only [getElem?_toArray,getElem?_cons_succ,getElem?_cons_zero];exact rfl)
   obtain ⟨ic,oX⟩:=ad;have ad:=ic
   go_simp
   refine hK.out _ _ ?_;clear hK K ad;refine NoPanic.normal ?_
   try simp only [Act.put,setIfInBounds_toArray,set_cons_zero,set_cons_succ]
   have HF:=kp (fX.app (f:=⟨A4,xk,c4,aO⟩) cP.o HN.o.1 HN.o.2 gR.o dh.o tj.o);go_wp2_with fail;refine ⟨⟨k+1,ys++[⟨A4,xk,c4,aO⟩],A5,c5,by omega,by go_num,by rw [aS,tj.o];rfl,KF.o _ rfl,?_,?_,?_,?_⟩,by simp [intOf];omega⟩
   .exact (Below.heap_setCell w5 ⟨gS,0,none⟩ _ w.heap.size (by have:=x9.o;dsimp only;omega)).trans ((dh.o.de (dL kR.o.lt bH.o.size) (fun hh=>by have h1:=(lJ.o.lt _ hh).1;have:=x9.o;omega)).trans (kR.o.under bH.o))
   .exact aa.set (show aa w5 gS 75 #[.slice A' k c',.int .i64 (m:Nat)] from (dh.o.de kv je.o).trans DI.o) 0 (.slice A5 (k+1) c5)
   .exact HF.o.bX (p:=⟨gS,0,none⟩) (by simp) _
   .exact (dh.o.below kr.o lJ.o (by have:=x9.o;omega) (by have:=x9.o;omega)).setCell (p:=⟨gS,0,none⟩) (by have:=x9.o;dsimp only;omega) _
  .obtain rfl:k=n:=by omega
   obtain ⟨x0,x1,_,_⟩:=bO.o.two;obtain ⟨q0,q1,f0,f1⟩:=kR.o.two;have HF:=kp (HQ.o A' c' ys);rw [tj.o] at HF;have rS:=kp (show ys.map Fa.keys=xs.map Fa.keys by have:=uy.o;rw [take_of_length_le (by rw [Hn.o];exact ah _)] at this;exact this);have hgS:=x9.o;have wM:=kp (((bF.o.bX (p:=⟨w.heap.size,0,none⟩) (by simp<;>omega) (.slice A' k c')).bX (p:=⟨w.heap.size,1,none⟩) (by simp<;>omega) (.int .i64 (m:Nat))).base (show w.heap.size<=gS+1 by omega));have qx:=kp ((ai.o.setCell (p:=⟨w.heap.size,0,none⟩) (by simp) (.slice A' k c')).setCell (p:=⟨w.heap.size,1,none⟩) (by simp) (.int .i64 (m:Nat)));go_wp2_with fail;have yg:aa ((wr.setCell ⟨w.heap.size,0,none⟩ (.slice A' k c')).setCell ⟨w.heap.size,1,none⟩ (.int .i64 (m:Nat))) w.heap.size 75 #[.slice A' k c',.int .i64 (m:Nat)]:=(kR.o.set 0 (.slice A' k c')).set 1 (.int .i64 (m:Nat));clear q0 q1;obtain ⟨q0,q1,_,_⟩:=yg.two;refine bodyPost_ret (v := .agg #[.slice A' k c',.int .i64 (m:Nat)]) (by simp [results,Tryz.results33,go_sem,q0,q1]) rfl (HF.o _ wM.o rS.o qx.o)
def abO (p:aI) (w:World) (e:Ending) (w':World):Prop:=∃n:Nd,e = .returned (.tuple #[.agg (bG n),.int .i64 0])/\az n=p/\dp w' w'.heap.size n/\Below w.heap.size w w'
def FD (p:aI) (w:World) (e:Ending) (w':World):Prop:=∃n:Nd,e = .returned (.tuple #[.agg (bG n),.int .i64 0])/\az n=p/\dp w' w'.heap.size n/\(kb w.heap.size n/\∀l∈n.ls,l.cs.length<=l.c)/\Below w.heap.size w w'
theorem Row.tU {g B:Nat} {A:OA} {vs:LV} (av:∀k,eo A vs k->k≠g) (us:LV) (w:World) (o:Nat) (h:Row w B A vs):Row (aK w g o us) B A vs :=
 pL h (fun k hk=>gu (av k hk) us w o)
theorem RH (ga:Nat) (As An:OA) (nx cs m cn most:Nat) (nds:List Nd) (i:Nat) (hi:i<nds.length) (w:World) (aJ:aa w ga 160 (im As nx cs m An nds.length cn most)) (h:jH w w.heap.size An nds) (hx:1<=nx) (eE:nds.length<=1000000)
 (fw:nds[i].ls.length<=4) (hl:∀l∈nds[i].ls,l.cs.length<=1000000) :
 Calls Tryz.prog 58 #[.pointer (some ⟨ga,0,none⟩),.int .i64 (i:Nat)] w (FD (az nds[i]) w):=by
 have HQ:=kp (show ∀n w',az n=az nds[i]->dp w' w'.heap.size n->(kb w.heap.size n/\∀l∈n.ls,l.cs.length<=l.c)->Below w.heap.size w w'->FD (az nds[i]) w (.returned (.tuple #[.agg (bG n),.int .i64 0])) w' from fun n w' h1 h2 h3 h4=>⟨n,rfl,h1,h2,h3,h4⟩);have au:=(aq w.heap.size w).alloc (ah _) (.cells zN 100);have ib:=kp (aa.new w 100 zN);have zT:=kp (aJ.under au);have br:=(h.below au).more au.size;have ay:=kp au;have HC:=kp (Q6 nds[i] _ (br.each _ (gM hi)) fw hl);obtain ⟨bn,on,hA,ov,d0,d1,d2,d3,d4,d5,d6,d7,d8,d9,dB,dC,gB,iF⟩:=yL br.row i hi;generalize nds[i]=nd at *;obtain ⟨aj,nA,ls,nc,⟨key,child,⟨ac,s0,n0,x0,s1,n1,x1,s2,n2,x2⟩⟩⟩:=nd;dsimp only [bG] at HC d0 d1 d2 d3 d4 d5 d6 d7 d8 d9 dB dC gB iF;generalize hp:az ⟨aj,nA,ls,nc,⟨key,child,⟨ac,s0,n0,x0,s1,n1,x1,s2,n2,x2⟩⟩⟩=pn at *;generalize hQ:FD pn w=Q at *;clear hQ hp br au aJ h;generalize dj:w.alloc (.cells zN 100)=W0 at *;obtain ⟨nn,zM⟩:∃nn,nds.length=nn:=⟨_,rfl⟩
 rw [zM] at zT hi eE;have HT:=kp (Fy ga As An nx cs m nn cn most W0 zT.o hx);obtain ⟨⟨_,_,a2,_⟩,_⟩:=aa.four zT.o;rw [hA] at a2;have q1:¬ (i:Int)<0:=by omega
 have jg:decide ((i:Int)<0)=false:=decide_eq_false q1;have q2:¬ (nn:Int)<=(i:Int):=by omega
 have kz:decide ((nn:Int)<=(i:Int))=false:=decide_eq_false q2;have a1:(0:Int)<=(i:Int):=by omega
 have a3:(i:Int)<(nn:Int):=by omega
 have q3:decide (nn<=i)=false:=decide_eq_false (by omega);go_enter Tryz.func58,Tryz.ntmps58;go_wp2_with fail;refine HT.o.mono ?_;rintro e w1 ⟨rfl,rfl⟩;go_wp2_with fail;refine HC.o.mono ?_;rintro e w2 ⟨n',rfl,iZ,kO,GI,aH,a30⟩;have ux:=kp iZ;have zS:=kp kO;have zU:=kp GI;have KJ:=kp a30;have tp:=bu ib aH;have aF:=aR ay aH;clear iZ kO GI aH a30 dj d0 d1 d2 d3 d4 d5 d6 d7 d8 d9 dB dC gB iF a2 HT HC;obtain ⟨rD,fD⟩:=aa.cw tp.o;have oZ:=kp (show w.heap.size<W0.heap.size from ib.o.lt);have HF:=kp (HQ.o n' (aK w2 w.heap.size 0 (dJ n')) ux.o)
 have ym:=kp (show dp (aK w2 w.heap.size 0 (dJ n')) (aK w2 w.heap.size 0 (dJ n')).heap.size n' from by
  rw [J8];refine ⟨Row.tU (fun k hk e => ?_) _ _ _ zS.o.row,fun l hl=>Row.tU (fun k hk e => ?_) _ _ _ (zS.o.each l hl)⟩
  .obtain ⟨av,off,ea⟩:=hk;have:=zU.o.1 k off ea av;have:=oZ.o;omega
  .obtain ⟨av,off,ea⟩:=hk;have:=zU.o.2 l hl k off ea av;have:=oZ.o
   omega)
 have bN:=kp (HF.o ym.o ⟨zU.o.less ay.o.size,KJ.o⟩ (eU (ah _) _ _ _ aF.o));have HB:=kp (show aa (aK w2 w.heap.size 0 (dJ n')) w.heap.size 100 (bG n') from eO tp.o (dJ n') rfl);obtain ⟨GJ,Oo,zV,Oq,⟨wX,Ot,⟨Ou,GK,Ov,BO,GL,Ow,ic,Ox,Oy,oX⟩⟩⟩:=n';clear HF ym ux zS zU HQ oZ KJ;dsimp only [bG,dJ] at bN HB ⊢;generalize bW:aK w2 w.heap.size 0 _=Wf at *;simp only [aK,Nat.zero_add,Nat.reduceAdd] at bW;obtain ⟨z0,z1,z2,z3,z4,z5,z6,z7,z8,z9,iX,iY,rh,ri⟩:=(aa.cw HB.o).1;go_wp2_with fail;refine bodyPost_ret (v := .tuple #[.agg #[.int .i64 (GJ:Nat),.slice Oo zV.length Oq,.int .i64 (wX:Nat),.int .i64 (Ot:Nat),.int .i64 Ou,.int .i64 GK,.int .i64 Ov,.int .i64 BO,.int .i64 GL,.int .i64 Ow,.int .i64 ic,.int .i64 Ox,.int .i64 Oy,.int .i64 oX],.int .i64 0]) ?_ rfl bN.o;simp [results,Tryz.results58,go_sem,z0,z1,z2,z3,z4,z5,z6,z7,z8,z9,iX,iY,rh,ri]
theorem aaP (ga:Nat) (As An:OA) (nx cs m cn most:Nat) (nds:List Nd) (i:Nat) (hi:i<nds.length) (w:World) (aJ:aa w ga 160 (im As nx cs m An nds.length cn most)) (h:jH w w.heap.size An nds) (hx:1<=nx) (eE:nds.length<=1000000)
 (fw:nds[i].ls.length<=4) (hl:∀l∈nds[i].ls,l.cs.length<=1000000) :
 Calls Tryz.prog 58 #[.pointer (some ⟨ga,0,none⟩),.int .i64 (i:Nat)] w (abO (az nds[i]) w) :=
 (RH ga As An nx cs m cn most nds i hi w aJ h hx eE fw hl).mono fun e w' ⟨n,h1,h2,h3,_,h5⟩=>⟨n,h1,h2,h3,h5⟩
def kd (p:Pos) (pn:aI):Option Cl:=if p.dm<0 then some pn.all else (pn.lists[p.dm.toNat]?).bind fun l=>cellAt l p.key.toNat
def IL (p:Pos) (pn:aI):Prop:=p.dm<0\/∃ (t k:Nat) (l:List Cl),p.dm=(t:Int)/\p.key=(k:Int)/\pn.lists[t]? = some l/\l.length<=1000000/\∀i (h:i+1<l.length),l[i].key<l[i+1].key
theorem a5r (n:Nd) (p:Pos) (w:World) (hr:dp w w.heap.size n) (ej:1<=n.ls.length) (hn:n.ls.length<=4) (ha:IL p (az n)) :
 Calls Tryz.prog 140 #[.agg (bG n),.agg #[.int .i64 p.dm,.int .i64 p.key]] w (CY (kd p (az n)) w):=by
 rcases ha with ha | ⟨t,k,l,h1,h2,h3,h4,h5⟩
 .have:kd p (az n)=some n.all:=by unfold kd;rw [if_pos ha];rfl
  rw [this];exact a5y n _ _ w ej hn ha
 .unfold az at h3;dsimp only at h3;rw [getElem?_map] at h3;obtain ⟨L,hL,e⟩:=Option.map_eq_some_iff.1 h3;have:kd p (az n)=cellAt L.cs k:=by
   unfold kd;rw [if_neg (by omega),h1,h2];unfold az;dsimp only;rw [Int.toNat_natCast,Int.toNat_natCast,getElem?_map,hL];rfl
  rw [this,h1,h2];subst e;exact abr n t k L w hr hn hL h4 h5
def Q3 (o:Option Cl) (w:World) (e:Ending) (w':World):Prop:=e = .returned (.tuple #[.agg (bQ (o.getD cO)),.int .i64 (if o.isSome then 0 else 10)])/\Below w.heap.size w w'
theorem a7S (ga:Nat) (As An:OA) (nx cs m cn most:Nat) (nds:List Nd) (i:Nat) (hi:i<nds.length) (w:World) (aJ:aa w ga 160 (im As nx cs m An nds.length cn most)) (h:jH w w.heap.size An nds) (hx:1<=nx) (eE:nds.length<=1000000)
 (ej:1<=nds[i].ls.length) (fw:nds[i].ls.length<=4) (hl:∀l∈nds[i].ls,l.cs.length<=1000000) (p:Pos) (ha:IL p (az nds[i])) (hk:p.dm<(nds[i].ls.length:Int)) :
 Calls Tryz.prog 104 #[.func (.func 58) #[.pointer (some ⟨ga,0,none⟩)] #[],.int .i64 (i:Nat),.int .i64 (nds[i].aj:Nat),.agg #[.int .i64 p.dm,.int .i64 p.key]] w (Q3 (kd p (az nds[i])) w):=by
 obtain ⟨pt,pk⟩:=p;dsimp only at hk ⊢;have HQ:=kp (show ∀w',Below w.heap.size w w'->Q3 (kd ⟨pt,pk⟩ (az nds[i])) w (.returned (.tuple #[.agg (bQ ((kd ⟨pt,pk⟩ (az nds[i])).getD cO)),.int .i64 (if (kd ⟨pt,pk⟩ (az nds[i])).isSome then 0 else 10)])) w' from fun w' h=>⟨rfl,h⟩);have au:=(aq w.heap.size w).alloc (ah _) (.cells #[.int .i64 pt,.int .i64 pk] 69);have ax:=au.alloc au.size (.cells zC 98);have HP:=kp ((aa.new w 69 #[.int .i64 pt,.int .i64 pk]).alloc (.cells zC 98));have HR:=kp (show aa ((w.alloc (.cells #[.int .i64 pt,.int .i64 pk] 69)).alloc (.cells zC 98)) (w.heap.size+1) 98 zC from aa.lay (by simp));have aM:=kp ax;have HN:=kp (aaP ga As An nx cs m cn most nds i hi _ (aJ.under ax) ((h.below ax).more ax.size) hx eE fw hl);have um:(nds[i].ls.length:Int)=((az nds[i]).lists.length:Int):=by unfold az;simp
 have vu:nds[i].aj=(az nds[i]).aj:=rfl;have Ui:1<=(az nds[i]).lists.length:=by unfold az;simpa using ej
 have Uj:(az nds[i]).lists.length<=4:=by unfold az;simpa using fw
 rw [um] at hk;rw [vu];have Ha:=kp ha;clear ej fw hl au ax aJ h um vu ha;generalize az nds[i]=pn at *;generalize hQ:Q3 (kd ⟨pt,pk⟩ pn) w=Q at *;clear hQ;generalize dk:(w.alloc (.cells #[.int .i64 pt,.int .i64 pk] 69)).alloc (.cells zC 98)=W1 at *;go_enter Tryz.func104,Tryz.ntmps104;go_wp2_with fail;refine HN.o.mono ?_;rintro e w2 ⟨n',rfl,rfl,kO,aH⟩;have HP2:=bu HP aH;have tp:=bu HR aH;have aF:=aR aM aH;have j':w.heap.size+1<w2.heap.size:=tp.o.lt;have aN:=(aq w2.heap.size w2).alloc (ah _) (.cells zN 100);have HZ:=kp (aa.new w2 100 zN);have GM:=kp (eU (ah _) (dJ n') _ 0 aN);have BU:=kp (HP2.o.under GM.o);have E0:=kp (tp.o.under GM.o);have bC:=kp (aF.o.trans (GM.o.mono aF.o.size));have a34:=kp ((kO.below GM.o).more GM.o.size);have HF:=kp (fun W (hW:Below (aK (w2.alloc (.cells zN 100)) w2.heap.size 0 (dJ n')).heap.size (aK (w2.alloc (.cells zN 100)) w2.heap.size 0 (dJ n')) W)=>a5r n' ⟨pt,pk⟩ W ((a34.o.below hW).more hW.size) (by unfold az at Ui;simpa using Ui) (by unfold az at Uj;simpa using Uj) Ha.o);have bM:=kp (show aa (aK (w2.alloc (.cells zN 100)) w2.heap.size 0 (dJ n')) w2.heap.size 100 (bG n') from eO HZ.o (dJ n') rfl);obtain ⟨⟨r0,r1,r2,r3,r4,r5,r6,r7,r8,r9,kB,kC,uv,uw⟩,⟨f0,f1,f2,f3,f4,f5,f6,f7,f8,f9,mz,mA,qy,qz⟩⟩:=aa.cw HZ.o;have fZ:(az n').lists.length=n'.ls.length:=by unfold az;simp
 rw [fZ] at hk;generalize hO:kd ⟨pt,pk⟩ (az n')=O at *;clear hO aH aN kO HP HR HN aM Ui Uj Ha fZ a34 aF GM HZ;obtain ⟨GJ,Oo,zV,Oq,⟨wX,Ot,⟨Ou,GK,Ov,BO,GL,Ow,ic,Ox,Oy,oX⟩⟩⟩:=n';dsimp only [bG,dJ,az] at HF bM BU E0 bC hk ⊢;generalize dH:w2.alloc (.cells zN 100)=W3 at *;generalize qB:aK W3 w2.heap.size 0 _=W4 at *;simp only [aK,Nat.zero_add,Nat.reduceAdd] at qB;obtain ⟨z0,z1,z2,z3,z4,z5,z6,z7,z8,z9,iX,iY,rh,ri⟩:=(aa.cw bM.o).1;obtain ⟨y0,y1,_,_⟩:=BU.o.two;have q1:¬ (zV.length:Int)<=pt:=by omega
 have jg:decide ((zV.length:Int)<=pt)=false:=decide_eq_false q1;have KK:=kp (HF.o W4 (aq _ _));go_wp2_with fail;refine KK.o.mono ?_;rintro e w5 ⟨rfl,cV⟩;have xa:=kp ((E0.o).under cV);have bZ:=aR bC cV;have DG:w.heap.size+1<w5.heap.size:=xa.o.lt;clear cV HF KK BU HP2 E0 tp bM bC z0 z1 z2 z3 z4 z5 z6 z7 z8 z9 iX iY rh ri y0 y1 r0 r1 r2 r3 r4 r5 r6 r7 r8 r9 kB kC uv uw f0 f1 f2 f3 f4 f5 f6 f7 f8 f9 mz mA qy qz qB dH q1 jg dk hk;have eR:=(aq w5.heap.size w5).alloc (ah _) (.cells zC 98);have HZ:=kp (aa.new w5 98 zC);have C0:=kp (eU (ah _) (bT (O.getD cO)) _ 0 eR);have gi:=kp (show aa (aK (w5.alloc (.cells zC 98)) w5.heap.size 0 (bT (O.getD cO))) w5.heap.size 98 (bQ (O.getD cO)) from eO HZ.o (bT (O.getD cO)) rfl);have lN:=kp (xa.o.under C0.o);have fE:=kp (bZ.o.trans (C0.o.mono bZ.o.size));obtain ⟨⟨r0,r1,r2,r3,r4,r5,r6,r7,r8,r9,kB,kC⟩,⟨f0,f1,f2,f3,f4,f5,f6,f7,f8,f9,mz,mA⟩⟩:=aa.fQ HZ.o
 have Uk:=kp (show O.isSome=false->O.getD cO=cO from fun h=>by cases O with
  | none=>rfl
  | some x=>cases h)
 generalize nE:O.getD cO=qq at *;obtain ⟨qk,qc,⟨qa,jh,ji,jk,jl,jm,jn,jo,jq,jr⟩⟩:=qq;dsimp only [bQ,bT] at gi lN fE HQ ⊢;clear C0 eR HZ xa bZ;generalize lL:w5.alloc (.cells zC 98)=W6 at *;generalize C1:aK W6 w5.heap.size 0 _=W7 at *;simp only [aK,Nat.zero_add,Nat.reduceAdd] at C1;obtain ⟨z0,z1,z2,z3,z4,z5,z6,z7,z8,z9,iX,iY⟩:=(aa.fQ gi.o).1;obtain ⟨uD,vD⟩:=aa.fQ lN.o;obtain ⟨bo,lH⟩:∃bo,O.isSome=bo:=⟨_,rfl⟩
 have uB:=kp lH;rw [lH] at HQ Uk ⊢;clear lH;cases bo with
 | true =>
  have fk:=kp (show aa (aK W7 (w.heap.size+1) 0 [.int .i64 (qk:Nat),.int .i64 (qc:Nat),.int .i64 qa,.int .i64 jh,.int .i64 ji,.int .i64 jk,.int .i64 jl,.int .i64 jm,.int .i64 jn,.int .i64 jo,.int .i64 jq,.int .i64 jr]) (w.heap.size+1) 98 #[.int .i64 (qk:Nat),.int .i64 (qc:Nat),.int .i64 qa,.int .i64 jh,.int .i64 ji,.int .i64 jk,.int .i64 jl,.int .i64 jm,.int .i64 jn,.int .i64 jo,.int .i64 jq,.int .i64 jr] from eO lN.o [.int .i64 (qk:Nat),.int .i64 (qc:Nat),.int .i64 qa,.int .i64 jh,.int .i64 ji,.int .i64 jk,.int .i64 jl,.int .i64 jm,.int .i64 jn,.int .i64 jo,.int .i64 jq,.int .i64 jr] rfl);have bN:=kp (HQ.o _ (eU (Nat.le_succ _) [.int .i64 (qk:Nat),.int .i64 (qc:Nat),.int .i64 qa,.int .i64 jh,.int .i64 ji,.int .i64 jk,.int .i64 jl,.int .i64 jm,.int .i64 jn,.int .i64 jo,.int .i64 jq,.int .i64 jr] W7 0 fE.o));generalize nO:aK W7 (w.heap.size+1) 0 _=W8 at *;simp only [aK,Nat.zero_add,Nat.reduceAdd] at nO;obtain ⟨t0,t1,t2,t3,t4,t5,t6,t7,t8,t9,Ul,Um⟩:=(aa.fQ fk.o).1;clear lN fE gi HQ;go_wp2_with fail;refine bodyPost_ret (v := .tuple #[.agg #[.int .i64 (qk:Nat),.int .i64 (qc:Nat),.int .i64 qa,.int .i64 jh,.int .i64 ji,.int .i64 jk,.int .i64 jl,.int .i64 jm,.int .i64 jn,.int .i64 jo,.int .i64 jq,.int .i64 jr],.int .i64 0]) ?_ rfl bN.o;simp [results,Tryz.results104,go_sem,t0,t1,t2,t3,t4,t5,t6,t7,t8,t9,Ul,Um]
 | false =>
  have fk:=kp (show aa (aK W7 (w.heap.size+1) 0 [.int .i64 0,.int .i64 0,.int .i64 0,.int .i64 0,.int .i64 0,.int .i64 0,.int .i64 0,.int .i64 0,.int .i64 0,.int .i64 0,.int .i64 0,.int .i64 0]) (w.heap.size+1) 98 zC from eO lN.o [.int .i64 0,.int .i64 0,.int .i64 0,.int .i64 0,.int .i64 0,.int .i64 0,.int .i64 0,.int .i64 0,.int .i64 0,.int .i64 0,.int .i64 0,.int .i64 0] rfl);have bN:=kp (HQ.o _ (eU (Nat.le_succ _) [.int .i64 0,.int .i64 0,.int .i64 0,.int .i64 0,.int .i64 0,.int .i64 0,.int .i64 0,.int .i64 0,.int .i64 0,.int .i64 0,.int .i64 0,.int .i64 0] W7 0 fE.o));generalize nO:aK W7 (w.heap.size+1) 0 _=W8 at *;simp only [aK,Nat.zero_add,Nat.reduceAdd] at nO;obtain ⟨t0,t1,t2,t3,t4,t5,t6,t7,t8,t9,Ul,Um⟩:=(aa.fQ fk.o).1
  have adk:=kp (show Q (.returned (.tuple #[.agg zC,.int .i64 10])) W8 by
   have h:=bN.o;have hz:=Uk.o rfl;unfold cO aO at hz;injection hz with fe kT tq
   injection tq with tq yu zW C2 zR nN E3 C3 KL E4
   rw [fe,kT,tq,yu,zW,C2,zR,nN,E3,C3,KL,E4] at h
   exact h)
  clear bN;clear lN fE gi HQ Uk;go_wp2_with fail;refine bodyPost_ret (v := .tuple #[.agg zC,.int .i64 10]) ?_ rfl adk.o;simp [results,Tryz.results104,go_sem,t0,t1,t2,t3,t4,t5,t6,t7,t8,t9,Ul,Um]
structure za (n:Nd):Prop where
 n4:n.ls.length<=4
 EV:∀l∈n.ls,l.cs.length<=1000000
def MD (ps:List aI) (w:World) (e:Ending) (w':World):Prop:=∃ (A:OA) (c:Nat) (ys:List Nd),e = .returned (.slice A ys.length c)/\iR w' w.heap.size (.slice A ys.length c) ys/\ys.map az=ps/\Below w.heap.size w w'
theorem a63 (ga:Nat) (As An:OA) (nx cs m cn most:Nat) (nds:List Nd) (w:World) (aJ:aa w ga 160 (im As nx cs m An nds.length cn most)) (h:jH w w.heap.size An nds) (hx:1<=nx) (eE:nds.length<=1000000) (gH:∀n∈nds,za n) :
 Calls Tryz.prog 38 #[.pointer (some ⟨ga,0,none⟩)] w (MD (nds.map az) w):=by
 obtain ⟨i0,cG,cI,cH,cJ⟩:=info_parts a1h;have HQ:=kp (show ∀A c ys w',iR w' w.heap.size (.slice A ys.length c) ys->ys.map az=nds.map az->Below w.heap.size w w'->MD (nds.map az) w (.returned (.slice A ys.length c)) w' from fun A c ys w' h1 h2 h3=>⟨A,c,ys,rfl,h1,h2,h3⟩);generalize hQ:MD (nds.map az) w=Q at *;clear hQ;have Hh:=kp h;have JS:=kp gH;obtain ⟨n,hn⟩:∃n,nds.length=n:=⟨_,rfl⟩
 have Hn:=kp hn;rw [hn] at aJ eE;clear hn h gH;have HT:=kp (Fy ga As An nx cs m n cn most w aJ hx);obtain ⟨⟨_,_,a2,_⟩,_⟩:=aa.four aJ;go_enter Tryz.func38,Tryz.ntmps38;go_wp2_with fail;refine HT.o.mono ?_;rintro e w1 ⟨rfl,rfl⟩;go_wp2_with fail;clear a2 HT aJ
 go_loopw [3,14] (fun v3 rW wr=>∃ (k:Nat) (ys:List Nd) (A':OA) (c':Nat),k<=n/\rW = .int .i64 (k:Nat)/\v3 = .slice A' k c'/\ys.length=k/\ys.map az=(nds.take k).map az/\iR wr w.heap.size (.slice A' k c') ys/\Below w.heap.size w wr) (fun _ rW _=>n-(intOf rW).toNat)
 case atStart=>exact ⟨0,[],none,0,aZ _,rfl,rfl,rfl,rfl,iR.nil _ _,aq _ _⟩
 case round =>
  obtain ⟨k,ys,A',c',hk,rfl,rfl,rP,lC,aE,aC⟩:=hrel;have tj:=kp rP;have uy:=kp lC;have bF:=kp aE;have ai:=kp aC;clear rP lC aE aC;by_cases ae:k<n
  .have bE:k<nds.length:=by rw [Hn.o];exact ae
   have br:=(Hh.o.below ai.o).more ai.o.size;obtain ⟨bn,on,hA,ov,d0,d1,d2,d3,d4,d5,d6,d7,d8,d9,dB,dC,gB,iF⟩:=yL br.row k bE;have wh:=JS.o _ (gM bE);have a36:=br.each _ (gM bE);have KF:=kp (show ∀f:Nd,az f=az (nds[k]'bE)->(ys++[f]).map az=(nds.take (k+1)).map az from fun f hf=>by rw [take_succ_eq_append_getElem bE,map_append,map_append,uy.o,map_cons,map_nil,map_cons,map_nil,hf]);generalize (nds[k]'bE)=nd at *;have aN:=(aq wr.heap.size wr).alloc (ah _) (.cells zN 100);have HZ:=kp (aa.new wr 100 zN);have bH:=kp (eU (ah _) (dJ nd) _ 0 aN);have fN:=kp (show aa (aK (wr.alloc (.cells zN 100)) wr.heap.size 0 (dJ nd)) wr.heap.size 100 (bG nd) from eO HZ.o (dJ nd) rfl);have HC:=kp (Q6 nd _ ((a36.below bH.o).more bH.o.size) wh.n4 wh.EV);have Hyp:=kp (show ∀f:Nd,az f=az nd->True from fun _ _=>trivial);obtain ⟨rD,fD⟩:=aa.cw HZ.o;have dz:(0:Int)<=(k:Int):=by omega
   have df:(k:Int)<(n:Int):=by omega
   generalize iZ:az nd=pn at *;clear br wh a36 aN HZ Hyp iZ;obtain ⟨aj,nA,ls,nc,⟨key,child,⟨ac,s0,n0,x0,s1,n1,x1,s2,n2,x2⟩⟩⟩:=nd;dsimp only [bG,dJ] at HC fN bH d0 d1 d2 d3 d4 d5 d6 d7 d8 d9 dB dC gB iF;generalize dH:wr.alloc (.cells zN 100)=W3 at *;generalize qB:aK W3 wr.heap.size 0 _=W4 at *;simp only [aK,Nat.zero_add,Nat.reduceAdd] at qB;have zD:=(aa.cw fN.o).1;rw [hA];go_wp2_with fail;refine HC.o.mono ?_;rintro e w5 ⟨n',rfl,iZ,KM,Un,cV,_⟩;have ux:=kp iZ;have a38:=aR bH cV;have bZ:=kp (ai.o.trans (a38.o.mono ai.o.size));have cP:=kp (bF.o.below a38.o);have kN:=kp (uT.new (v := .slice A' k c') KM Un (fun j hj=>dL (bF.o.1.lt j hj).2 bH.o.size));have Oz:=kp (Un.less (aT ai.o.size bH.o.size));have lJ:=kp (show w5.ownsRow w.heap.size 100 14 (.slice A' k c') k (ys.flatMap dJ) by have:=cP.o.1;rw [tj.o] at this;exact this);have zJ:=kp bZ.o.size;have cz:k+1<1048576*64:=by omega
   clear iZ KM Un cV HC fN bH dH qB d0 d1 d2 d3 d4 d5 d6 d7 d8 d9 dB dC gB iF rD fD zD hA
   go_wp2_with (at_builtin;refine vG rfl (.tmp 18) (.tmp 21) 92 rfl w.heap.size 100 i0 _ 14 128 Tryz.underlying92 cG cI cH cJ rfl (by decide) w5 (bG n') rfl (YD n') (.slice A' k c') k (ys.flatMap dJ) rfl lJ.o rfl cz (by decide) zJ.o ?_;intro v6 w6 iL jE;obtain ⟨A6,c6,h6⟩:=eM iL;subst h6;have gR:=kp iL;have lK:=kp jE;have eI:=kp (jE.mO bZ.o lJ.o (ah _) zJ.o);clear iL jE)
   have HF:=kp (iR.app (x:=n') cP.o kN.o Oz.o gR.o lK.o tj.o);exact ⟨⟨k+1,ys++[n'],A6,c6,by omega,by go_num,rfl,by rw [aS,tj.o];rfl,KF.o _ ux.o,HF.o,eI.o⟩,by simp [intOf];omega⟩
  .obtain rfl:k=n:=by omega
   have HF:=kp (HQ.o A' c' ys);rw [tj.o] at HF;have bN:=kp (HF.o _ bF.o (by have:=uy.o;rw [take_of_length_le (by rw [Hn.o];exact ah _)] at this;exact this) ai.o);go_wp2_with fail;exact bN.o
def oP (nodes:List aI):List Pos->Nat->Cl->Option Cl
 | [],_,c=>some c
 | p::ps,i,c=>match nodes[i]? with
  | none=>none
  | some n=>(kd p n).bind fun d=>oP nodes ps d.child d
def Cy (nodes:List aI):List Pos->Nat->Nat->Prop
 | [],_,_=>True
 | p::ps,a,i=>∃n,nodes[i]? = some n/\n.aj=a/\IL p n/\p.dm<(n.lists.length:Int)/\1<=n.lists.length/\∀d,kd p n=some d->Cy nodes ps (a+1) d.child
def RP (o:Option Cl) (w:World) (e:Ending) (w':World):Prop:=(∃k:Nat,e = .returned (.tuple #[.agg (bj ((o.getD cO).ag)),.int .i64 (k:Nat),.int .i64 (if o.isSome then 0 else 10)]))/\Below w.heap.size w w'
theorem a0h {w:World} {B:Nat} {A:OA} {l:List Pos} (h:Row w B A (l.flatMap Fv)) (k:Nat) (hk:k<l.length) :
 ∃b off,A=some ⟨b,off,none⟩/\b<B/\w.cell? ⟨b,off+k*2,none⟩=some (.int .i64 l[k].dm)/\w.cell? ⟨b,off+k*2+1,none⟩=some (.int .i64 l[k].key):=by
 obtain ⟨b,off,e,hb,hc⟩:=Row.rec a7r h (by omega) k hk;exact ⟨b,off,e,hb,hc 0 _ rfl,hc 1 _ rfl⟩
theorem a6n (ga:Nat) (As An Ap:OA) (nx cs m cn cp most:Nat) (nds:List Nd) (top:Nat) (ps:List Pos) (w:World) (aJ:aa w ga 160 (im As nx cs m An nds.length cn most)) (h:jH w w.heap.size An nds) (hx:1<=nx) (eE:nds.length<=1000000) (gH:∀n∈nds,za n)
 (hp:Row w w.heap.size Ap (ps.flatMap Fv)) (E5:ps.length<=1000000) (db:Cy (nds.map az) ps 0 top) :
 Calls Tryz.prog 57 #[.int .i64 (top:Nat),.func (.func 58) #[.pointer (some ⟨ga,0,none⟩)] #[],.slice Ap ps.length cp] w (RP (oP (nds.map az) ps top cO) w):=by
 have HQ:=kp (show ∀ (k:Nat) w',Below w.heap.size w w'->RP (oP (nds.map az) ps top cO) w (.returned (.tuple #[.agg (bj (((oP (nds.map az) ps top cO).getD cO).ag)),.int .i64 (k:Nat),.int .i64 (if (oP (nds.map az) ps top cO).isSome then 0 else 10)])) w' from fun k w' h=>⟨⟨k,rfl⟩,h⟩);generalize hQ:RP (oP (nds.map az) ps top cO) w=Q at *;obtain ⟨O,hO⟩:∃O,oP (nds.map az) ps top cO=O:=⟨_,rfl⟩
 rw [hO] at HQ;have HO:=kp hO;clear hQ hO;have eP:=kp db;have Hh:=kp h;have bO:=kp aJ;have Hp:=kp hp;have JS:=kp gH;have ax:=(aq w.heap.size w).alloc (ah _) (.cells zA 54);have aH:=ax.alloc ax.size (.cells zC 98);have HR:=kp ((aa.new w 54 zA).alloc (.cells zC 98));have HC:=kp (show aa ((w.alloc (.cells zA 54)).alloc (.cells zC 98)) (w.heap.size+1) 98 (bQ cO) from aa.lay (by simp));have aF:=kp aH;clear ax aH h aJ hp gH db;obtain ⟨n,hn⟩:∃n,ps.length=n:=⟨_,rfl⟩
 have Hn:=kp hn;rw [hn] at E5 ⊢;clear hn;generalize dN:(w.alloc (.cells zA 54)).alloc (.cells zC 98)=W2 at *;go_enter Tryz.func57,Tryz.ntmps57;go_wp2_with fail;clear dN
 go_loopw [9,10,19] (fun v9 nD DW wr=>∃ (j i:Nat) (last:Cl),j<=n/\DW = .int .i64 (j:Nat)/\nD = .int .i64 (j:Nat)/\v9 = .int .i64 (i:Nat)/\aa wr w.heap.size 54 zA/\aa wr (w.heap.size+1) 98 (bQ last)/\Below w.heap.size w wr/\Cy (nds.map az) (ps.drop j) j i/\oP (nds.map az) (ps.drop j) i last=O) (fun _ _ DW _=>n-(intOf DW).toNat)
 case atStart=>exact ⟨0,top,cO,aZ _,rfl,rfl,rfl,HR.o,HC.o,aF.o,eP.o,HO.o⟩
 case round =>
  obtain ⟨j,i,last,hj,rfl,rfl,rfl,nL,cU,aC,db,qT⟩:=hrel;have kR:=kp nL;have bh:=kp cU;have ai:=kp aC;by_cases ae:j<n
  .have xb:j<ps.length:=by rw [Hn.o];exact ae
   rw [drop_eq_getElem_cons xb] at db qT;obtain ⟨pn,iZ,vu,E6,oS,iT,E7⟩:=db;have br:=Hp.o.below ai.o;obtain ⟨bp,op,hA,Tt,c0,c1⟩:=a0h br j xb;have a3a:(kd (ps[j]'xb) pn).bind (fun d=>oP (nds.map az) (ps.drop (j+1)) d.child d)=O:=by
    unfold oP at qT;rw [iZ] at qT;exact qT
   rw [getElem?_map] at iZ;obtain ⟨nd,da,rfl⟩:=Option.map_eq_some_iff.1 iZ;obtain ⟨hi,da⟩:=bS da;have a3b:nd.aj=j:=vu;have wh:=JS.o nd (da▸gM hi);have fZ:(az nd).lists.length=nd.ls.length:=by unfold az;simp
   have aN:=(aq wr.heap.size wr).alloc (ah _) (.cells #[.int .i64 (ps[j]'xb).dm,.int .i64 (ps[j]'xb).key] 69);have bM:=kp (aa.new wr 69 #[.int .i64 (ps[j]'xb).dm,.int .i64 (ps[j]'xb).key]);have KN:=ai.o.trans (aN.mono ai.o.size);have HS:=kp (a7S ga As An nx cs m cn most nds i hi _ (bO.o.under KN) ((Hh.o.below KN).more KN.size) hx eE (by rw [da];omega) (by rw [da];exact wh.n4) (by rw [da];exact wh.EV) (ps[j]'xb) (by rw [da];exact E6) (by rw [da];omega));rw [da,a3b] at HS;have Dw:=kp a3a;have adl:=kp E7;have NW:=bu kR aN;have a3c:=bu bh aN;have Hw3:=kp KN;clear qT a3a E7 iZ vu E6 oS iT br da a3b wh fZ aN KN nL cU aC;generalize kd (ps[j]'xb) (az nd)=o at *;generalize (ps[j]'xb).dm=pt at *;generalize (ps[j]'xb).key=pk at *;have dz:(0:Int)<=(j:Int):=by omega
   have df:(j:Int)<(n:Int):=by omega
   generalize dH:wr.alloc (.cells #[.int .i64 pt,.int .i64 pk] 69)=W3 at *;obtain ⟨y0,y1,_,_⟩:=bM.o.two;rw [hA];go_wp2_with fail;refine HS.o.mono ?_;rintro e w5 ⟨rfl,cV⟩;have xa:=bu NW cV;have Uo:=bu a3c cV;have bZ:=aR Hw3 cV;have hw:=IntWalk.i64_in ((j:Int)+1) (by omega);clear cV bM dH y0 y1 c0 c1 hA dz df HS NW a3c Hw3;have eR:=(aq w5.heap.size w5).alloc (ah _) (.cells zC 98);have HZ:=kp (aa.new w5 98 zC);have C0:=kp (eU (ah _) (bT (o.getD cO)) _ 0 eR);have gi:=kp (show aa (aK (w5.alloc (.cells zC 98)) w5.heap.size 0 (bT (o.getD cO))) w5.heap.size 98 (bQ (o.getD cO)) from eO HZ.o (bT (o.getD cO)) rfl);have lN:=kp (xa.o.under C0.o);have E8:=kp (Uo.o.under C0.o);have fE:=kp (bZ.o.trans (C0.o.mono bZ.o.size));obtain ⟨rD,fD⟩:=aa.fQ HZ.o;have hgR:w.heap.size<w5.heap.size:=xa.o.lt;have Hgt:=kp (show w.heap.size+1<w5.heap.size from Uo.o.lt);obtain ⟨bo,lH⟩:∃bo,o.isSome=bo:=⟨_,rfl⟩
   have uB:=kp lH;rw [lH];obtain ⟨qq,nE⟩:∃qq,o.getD cO=qq:=⟨_,rfl⟩
   have E9:=kp nE;rw [nE] at gi lN E8 fE ⊢;clear C0 eR HZ xa Uo bZ lH nE;obtain ⟨qk,qc,⟨qa,jh,ji,jk,jl,jm,jn,jo,jq,jr⟩⟩:=qq;dsimp only [bQ,bT] at gi lN E8 fE ⊢;generalize lL:w5.alloc (.cells zC 98)=W6 at *;generalize C1:aK W6 w5.heap.size 0 _=W7 at *;simp only [aK,Nat.zero_add,Nat.reduceAdd] at C1;cases bo with
   | false =>
    have hO:O=none:=by
     have h1:=uB.o;have h2:=Dw.o;cases o with
     | none=>exact h2.symm
     | some x=>cases h1
    obtain ⟨⟨u0,u1,u2,u3,u4,u5,u6,u7,u8,u9⟩,⟨v0,v1,v2,v3,v4,v5,v6,v7,v8,v9⟩⟩:=aa.eS lN.o;have fk:=kp (show aa (aK W7 w.heap.size 0 [.int .i64 0,.int .i64 0,.int .i64 0,.int .i64 0,.int .i64 0,.int .i64 0,.int .i64 0,.int .i64 0,.int .i64 0,.int .i64 0]) w.heap.size 54 zA from eO lN.o [.int .i64 0,.int .i64 0,.int .i64 0,.int .i64 0,.int .i64 0,.int .i64 0,.int .i64 0,.int .i64 0,.int .i64 0,.int .i64 0] rfl)
    have bN:=kp (show Q (.returned (.tuple #[.agg zA,.int .i64 ((j:Int)+1),.int .i64 10])) (aK W7 w.heap.size 0 [.int .i64 0,.int .i64 0,.int .i64 0,.int .i64 0,.int .i64 0,.int .i64 0,.int .i64 0,.int .i64 0,.int .i64 0,.int .i64 0]) by
     have:=HQ.o (j+1) _ (eU (ah _) [.int .i64 0,.int .i64 0,.int .i64 0,.int .i64 0,.int .i64 0,.int .i64 0,.int .i64 0,.int .i64 0,.int .i64 0,.int .i64 0] W7 0 fE.o);rw [hO] at this
     exact this)
    generalize nO:aK W7 w.heap.size 0 _=W8 at *;simp only [aK,Nat.zero_add,Nat.reduceAdd] at nO;obtain ⟨t0,t1,t2,t3,t4,t5,t6,t7,t8,t9⟩:=(aa.eS fk.o).1;clear lN E8 fE gi HQ fk;go_wp2_with fail;refine bodyPost_ret (v := .tuple #[.agg zA,.int .i64 ((j:Int)+1),.int .i64 10]) ?_ rfl bN.o;simp [results,Tryz.results57,go_sem,t0,t1,t2,t3,t4,t5,t6,t7,t8,t9]
   | true =>
    have ho:o=some ⟨qk,qc,⟨qa,jh,ji,jk,jl,jm,jn,jo,jq,jr⟩⟩:=by
     have h1:=uB.o;have h2:=E9.o;cases o with
     | none=>cases h1
     | some x=>exact congrArg some h2
    have dw:=kp (adl.o _ ho)
    have adm:=kp (show oP (nds.map az) (ps.drop (j+1)) qc ⟨qk,qc,⟨qa,jh,ji,jk,jl,jm,jn,jo,jq,jr⟩⟩=O by
     have:=Dw.o;rw [ho] at this
     exact this)
    clear ho;obtain ⟨lk,lc,⟨la,C4,C5,C6,C7,C8,C9,Ca,Cb,Cc⟩⟩:=last;dsimp only [bQ] at E8;obtain ⟨⟨u0,u1,u2,u3,u4,u5,u6,u7,u8,u9,u10,u11⟩,⟨v0,v1,v2,v3,v4,v5,v6,v7,v8,v9,nD,pr⟩⟩:=aa.fQ E8.o;have zD:=(aa.fQ gi.o).1;have HC8:=kp (show aa (aK W7 (w.heap.size+1) 0 [.int .i64 (qk:Nat),.int .i64 (qc:Nat),.int .i64 qa,.int .i64 jh,.int .i64 ji,.int .i64 jk,.int .i64 jl,.int .i64 jm,.int .i64 jn,.int .i64 jo,.int .i64 jq,.int .i64 jr]) (w.heap.size+1) 98 #[.int .i64 (qk:Nat),.int .i64 (qc:Nat),.int .i64 qa,.int .i64 jh,.int .i64 ji,.int .i64 jk,.int .i64 jl,.int .i64 jm,.int .i64 jn,.int .i64 jo,.int .i64 jq,.int .i64 jr] from eO E8.o [.int .i64 (qk:Nat),.int .i64 (qc:Nat),.int .i64 qa,.int .i64 jh,.int .i64 ji,.int .i64 jk,.int .i64 jl,.int .i64 jm,.int .i64 jn,.int .i64 jo,.int .i64 jq,.int .i64 jr] rfl);have fk:=kp (show aa (aK W7 (w.heap.size+1) 0 [.int .i64 (qk:Nat),.int .i64 (qc:Nat),.int .i64 qa,.int .i64 jh,.int .i64 ji,.int .i64 jk,.int .i64 jl,.int .i64 jm,.int .i64 jn,.int .i64 jo,.int .i64 jq,.int .i64 jr]) w5.heap.size 98 #[.int .i64 (qk:Nat),.int .i64 (qc:Nat),.int .i64 qa,.int .i64 jh,.int .i64 ji,.int .i64 jk,.int .i64 jl,.int .i64 jm,.int .i64 jn,.int .i64 jo,.int .i64 jq,.int .i64 jr] from (gu (Nat.ne_of_gt Hgt.o) _ _ _).trans gi.o);have HR8:=kp (show aa (aK W7 (w.heap.size+1) 0 [.int .i64 (qk:Nat),.int .i64 (qc:Nat),.int .i64 qa,.int .i64 jh,.int .i64 ji,.int .i64 jk,.int .i64 jl,.int .i64 jm,.int .i64 jn,.int .i64 jo,.int .i64 jq,.int .i64 jr]) w.heap.size 54 zA from (gu (by omega) _ _ _).trans lN.o);have vt:=kp (eU (Nat.le_succ _) [.int .i64 (qk:Nat),.int .i64 (qc:Nat),.int .i64 qa,.int .i64 jh,.int .i64 ji,.int .i64 jk,.int .i64 jl,.int .i64 jm,.int .i64 jn,.int .i64 jo,.int .i64 jq,.int .i64 jr] W7 0 fE.o);generalize nO:aK W7 (w.heap.size+1) 0 _=W8 at *;simp only [aK,Nat.zero_add,Nat.reduceAdd] at nO;clear lN E8 fE gi HQ;go_upto_region 10 with fail
    refine wp_region_noPanic ?_;refine dt (t:=99) (S:=(fun w'=>w'.cell? ⟨w5.heap.size,0,none⟩=some (.int .i64 (qk:Nat))/\w'.cell? ⟨w5.heap.size,1,none⟩=some (.int .i64 (qc:Nat))/\w'.cell? ⟨w5.heap.size,2,none⟩=some (.int .i64 qa)/\w'.cell? ⟨w5.heap.size,3,none⟩=some (.int .i64 jh)/\w'.cell? ⟨w5.heap.size,4,none⟩=some (.int .i64 ji)/\w'.cell? ⟨w5.heap.size,5,none⟩=some (.int .i64 jk)/\w'.cell? ⟨w5.heap.size,6,none⟩=some (.int .i64 jl)/\w'.cell? ⟨w5.heap.size,7,none⟩=some (.int .i64 jm)/\w'.cell? ⟨w5.heap.size,8,none⟩=some (.int .i64 jn)/\w'.cell? ⟨w5.heap.size,9,none⟩=some (.int .i64 jo)/\w'.cell? ⟨w5.heap.size,10,none⟩=some (.int .i64 jq)/\w'.cell? ⟨w5.heap.size,11,none⟩=some (.int .i64 jr))) (by kernel_rfl) zD (fun ad => ?_);refine mX 0 1 2 ad ?_;refine oT 3 fun K hK=>?_
    go_simp
    refine oK hK ?_ fun af=>?_
    .exact (aa.fQ (show aa W8.drew w5.heap.size 98 #[.int .i64 (qk:Nat),.int .i64 (qc:Nat),.int .i64 qa,.int .i64 jh,.int .i64 ji,.int .i64 jk,.int .i64 jl,.int .i64 jm,.int .i64 jn,.int .i64 jo,.int .i64 jq,.int .i64 jr] from fk.o)).1
    replace ad:=af;clear hK K af;refine tk 4 ad ?_;refine dY (by kernel_rfl) ?_ _
    try clear ad
    refine NoPanic.normal ?_;go_wp2_with fail;exact ⟨⟨j+1,qc,⟨qk,qc,⟨qa,jh,ji,jk,jl,jm,jn,jo,jq,jr⟩⟩,by omega,by go_num,by go_num,rfl,HR8.o,HC8.o,vt.o.drew,dw.o,adm.o⟩,by simp [intOf];omega⟩
  .obtain rfl:j=n:=by omega
   have hO:O=some last:=by
    rw [drop_of_length_le (by rw [Hn.o];exact ah _)] at qT;exact qT.symm
   obtain ⟨lk,lc,⟨la,C4,C5,C6,C7,C8,C9,Ca,Cb,Cc⟩⟩:=last;obtain ⟨⟨u0,u1,u2,u3,u4,u5,u6,u7,u8,u9⟩,⟨v0,v1,v2,v3,v4,v5,v6,v7,v8,v9⟩⟩:=aa.eS nL;dsimp only [bQ] at cU;have zD:=(aa.fQ cU).1;have fk:=kp (show aa (aK wr w.heap.size 0 [.int .i64 la,.int .i64 C4,.int .i64 C5,.int .i64 C6,.int .i64 C7,.int .i64 C8,.int .i64 C9,.int .i64 Ca,.int .i64 Cb,.int .i64 Cc]) w.heap.size 54 #[.int .i64 la,.int .i64 C4,.int .i64 C5,.int .i64 C6,.int .i64 C7,.int .i64 C8,.int .i64 C9,.int .i64 Ca,.int .i64 Cb,.int .i64 Cc] from eO nL [.int .i64 la,.int .i64 C4,.int .i64 C5,.int .i64 C6,.int .i64 C7,.int .i64 C8,.int .i64 C9,.int .i64 Ca,.int .i64 Cb,.int .i64 Cc] rfl)
   have bN:=kp (show Q (.returned (.tuple #[.agg #[.int .i64 la,.int .i64 C4,.int .i64 C5,.int .i64 C6,.int .i64 C7,.int .i64 C8,.int .i64 C9,.int .i64 Ca,.int .i64 Cb,.int .i64 Cc],.int .i64 (j:Int),.int .i64 0])) (aK wr w.heap.size 0 [.int .i64 la,.int .i64 C4,.int .i64 C5,.int .i64 C6,.int .i64 C7,.int .i64 C8,.int .i64 C9,.int .i64 Ca,.int .i64 Cb,.int .i64 Cc]) by
    have:=HQ.o j _ (eU (ah _) [.int .i64 la,.int .i64 C4,.int .i64 C5,.int .i64 C6,.int .i64 C7,.int .i64 C8,.int .i64 C9,.int .i64 Ca,.int .i64 Cb,.int .i64 Cc] wr 0 aC);rw [hO] at this
    exact this)
   generalize nO:aK wr w.heap.size 0 _=W8 at *;simp only [aK,Nat.zero_add,Nat.reduceAdd] at nO;obtain ⟨t0,t1,t2,t3,t4,t5,t6,t7,t8,t9⟩:=(aa.eS fk.o).1;clear nL cU aC kR bh ai HQ fk db qT;go_wp2_with fail;refine bodyPost_ret (v := .tuple #[.agg #[.int .i64 la,.int .i64 C4,.int .i64 C5,.int .i64 C6,.int .i64 C7,.int .i64 C8,.int .i64 C9,.int .i64 Ca,.int .i64 Cb,.int .i64 Cc],.int .i64 (j:Int),.int .i64 0]) ?_ rfl bN.o;simp [results,Tryz.results57,go_sem,t0,t1,t2,t3,t4,t5,t6,t7,t8,t9]
def XZ (l:LN) (p:Pos):Prop:=(p.dm<0/\p.key=0)\/∃ (t k y:Nat),p.dm=(t:Int)/\p.key=(k:Int)/\l[t]? = some y/\k<y
theorem a8M (A Ap:OA) (c cp m:Nat) (xs:List Fa) (ps:List Pos) (w:World) (h:ep w w.heap.size A xs) (hp:Row w w.heap.size Ap (ps.flatMap Fv)) (aX:ps.length=xs.length) (mw:xs.length<=16) (dv:∀x∈xs,x.keys.length<=1000)
 (db:∀k (h1:k<xs.length) (h2:k<ps.length),XZ xs[k].keys ps[k]) :
 Calls Tryz.prog 56 #[.agg #[.slice A xs.length c,.int .i64 (m:Nat)],.slice Ap ps.length cp] w fun e w'=>e = .returned (.int .i64 0)/\Below w.heap.size w w':=by
 have au:=(aq w.heap.size w).alloc (ah _) (.cells #[.slice A xs.length c,.int .i64 (m:Nat)] 75);have HB:=kp (aa.new w 75 #[.slice A xs.length c,.int .i64 (m:Nat)]);have ay:=kp au;have Hh:=kp h;have Hp:=kp hp;have eP:=kp db;have qe:=kp dv;clear h hp db dv au;generalize hQ:(fun (e:Ending) w'=>e = .returned (.int .i64 0)/\Below w.heap.size w w')=Q;have HQ:=kp (show ∀w',Below w.heap.size w w'->Q (.returned (.int .i64 0)) w' by rw [<-hQ];exact fun w' h=>⟨rfl,h⟩);clear hQ;obtain ⟨n,hn⟩:∃n,xs.length=n:=⟨_,rfl⟩
 have Hn:=kp hn;have Oj:=kp (aX.trans hn);rw [aX];rw [hn] at HB ay mw ⊢;clear hn aX;have q0:((n:Int) == (n:Int))=true:=by simp
 obtain ⟨z0,z1,_,_⟩:=HB.o.two;generalize dj:w.alloc (.cells #[.slice A n c,.int .i64 (m:Nat)] 75)=W0 at *;go_enter Tryz.func56,Tryz.ntmps56;go_wp2_with fail;clear dj z0 z1
 go_loopw [15] (fun Up wr=>∃k:Nat,k<=n/\Up = .int .i64 (k:Nat)/\aa wr w.heap.size 75 #[.slice A n c,.int .i64 (m:Nat)]/\Below w.heap.size w wr) (fun Up _=>n-(intOf Up).toNat)
 case atStart=>exact ⟨0,aZ _,rfl,HB.o,ay.o⟩
 case round =>
  obtain ⟨k,hk,rfl,aJ,aC⟩:=hrel;have bO:=kp aJ;have ai:=kp aC;by_cases ae:k<n
  .have fL:k<xs.length:=by rw [Hn.o];exact ae
   have lF:k<ps.length:=by rw [Oj.o];exact ae
   obtain ⟨bp,op,hA,Tt,c0,c1⟩:=a0h (Hp.o.below ai.o) k lF;have aN:=(aq wr.heap.size wr).alloc (ah _) (.cells #[.int .i64 (ps[k]'lF).dm,.int .i64 (ps[k]'lF).key] 69);have BU:=kp (aa.new wr 69 #[.int .i64 (ps[k]'lF).dm,.int .i64 (ps[k]'lF).key]);have bM:=kp (aJ.under aN);have bC:=kp (aC.trans (aN.mono aC.size));have br:=(Hh.o.below bC.o).more bC.o.size;obtain ⟨bx,ox,hX,aeV,x0⟩:=Row.at_ br.row (k:=k) (by rw [lM];exact fL);rw [getElem_map] at x0;unfold lg at x0;have db:=eP.o k fL lF;have fg:=br.each _ (gM fL);have dr:=qe.o _ (gM fL);generalize (ps[k]'lF)=p at *;obtain ⟨pt,pk⟩:=p;generalize (xs[k]'fL)=x at *;have dz:(0:Int)<=(k:Int):=by omega
   have df:(k:Int)<(n:Int):=by omega
   dsimp only at c0 c1 BU bM bC x0;generalize dH:wr.alloc (.cells #[.int .i64 pt,.int .i64 pk] 69)=W3 at *;obtain ⟨y0,y1,_,_⟩:=BU.o.two;rw [hA];rcases db with ⟨h1,h2⟩ | ⟨t,q,y,h1,h2,h3,h4⟩
   .dsimp only at h1 h2;have q1:decide (pt<0)=true:=decide_eq_true h1;have q2:(pk == (0:Int))=true:=by rw [h2];rfl
    clear h2;go_wp2_with fail;exact ⟨⟨k+1,by omega,by go_num,bM.o,bC.o⟩,by simp [intOf];omega⟩
   .dsimp only at h1 h2;subst h1 h2;obtain ⟨ht,hy⟩:=bS h3;obtain ⟨by_,oy,KO,kj,e0⟩:=Row.at_ fg (k:=t) (by rw [ke];exact ht);unfold aP at e0;rw [getElem_map,hy] at e0;obtain ⟨z0,z1,_,_⟩:=bM.o.two;rw [hX] at z0;rw [KO] at x0;have q1:¬ (t:Int)<0:=by omega
    have jg:decide ((t:Int)<0)=false:=decide_eq_false q1;have q2:¬ (x.keys.length:Int)<=(t:Int):=by omega
    have kz:decide ((x.keys.length:Int)<=(t:Int))=false:=decide_eq_false q2;have q3:¬ (q:Int)<0:=by omega
    have zG:decide ((q:Int)<0)=false:=decide_eq_false q3;have q4:¬ (y:Int)<=(q:Int):=by omega
    have T6:decide ((y:Int)<=(q:Int))=false:=decide_eq_false q4;have zH:decide (x.keys.length<=t)=false:=decide_eq_false (by omega);have q4n:decide (y<=q)=false:=decide_eq_false (by omega);have i0:(0:Int)<=(t:Int):=by omega
    have i1:(t:Int)<(x.keys.length:Int):=by omega
    go_wp2_with fail
    go_quiet (fail)
    go_wp2_with fail
    go_quiet (fail)
    go_wp2_with fail
    go_simp
    exact ⟨⟨_,_,_,_,⟨k+1,by omega,by go_num,by rw [<-hX];exact bM.o,below_drewN bC.o _⟩,rfl,rfl,rfl,rfl⟩,by simp [intOf];omega⟩
  .obtain rfl:k=n:=by omega
   have bN:=kp (HQ.o wr aC);go_wp2_with fail;exact bN.o
section
theorem EP (A:OA) (n c m:Nat) (w:World):(Instr.field 75 (.agg #[.slice A n c,.int .i64 (m:Nat)]) 1).run Tryz.prog w = .ok (.int .i64 (m:Nat)) w:=by
 simp [Instr.field,asAgg,go_sem]
attribute [local go_sem] EP
def rK (nodes:List aI) (ps:List Pos):Option Cl:=if nodes=[] then none else oP nodes ps (nodes.length-1) cO
def N5 (o:Option Cl) (w:World) (e:Ending) (w':World):Prop:=e = .returned (.tuple #[.agg (bj ((o.getD cO).ag)),.int .i64 (if o.isSome then 0 else 10)])/\Below w.heap.size w w'
theorem aak (ga:Nat) (As An Ap:OA) (cs m cn cp most:Nat) (xs:List Fa) (nds:List Nd) (ps:List Pos) (w:World) (aJ:aa w ga 160 (im As xs.length cs m An nds.length cn most)) (hx:ep w w.heap.size As xs) (h:jH w w.heap.size An nds)
 (ej:1<=xs.length) (mw:xs.length<=16) (dg:1<=m) (hm:m<=3) (eE:nds.length<=1000000) (gH:∀n∈nds,za n) (dv:∀x∈xs,x.keys.length<=1000)
 (hp:Row w w.heap.size Ap (ps.flatMap Fv)) (E5:ps.length=xs.length) (hpo:∀ (k:Nat) (l:LN) (p:Pos),(xs.map Fa.keys)[k]? = some l->ps[k]? = some p->XZ l p) (db:nds≠[]->Cy (nds.map az) ps 0 (nds.length-1)) :
 Calls Tryz.prog 23 #[.pointer (some ⟨ga,0,none⟩),.slice Ap ps.length cp] w (N5 (rK (nds.map az) ps) w):=by
 have HQ:=kp (show ∀w',Below w.heap.size w w'->N5 (rK (nds.map az) ps) w (.returned (.tuple #[.agg (bj (((rK (nds.map az) ps).getD cO).ag)),.int .i64 (if (rK (nds.map az) ps).isSome then 0 else 10)])) w' from fun w' h=>⟨rfl,h⟩);have ax:=(aq w.heap.size w).alloc (ah _) (.cells zA 54);have KI:=kp (aa.new w 54 zA);have Ea:=kp (fun W hW=>LR ga As An cs m nds.length cn most xs W (aJ.under hW) ((hx.below hW).more hW.size) ej mw (fun x hx'=>by have:=dv x hx';omega));have OB:=kp (fun W hW=>MM ga As An xs.length cs m nds.length cn most W (aJ.under hW) ej eE);have HAl:=kp (fun (av:nds≠[]) W hW=>a6n ga As An Ap xs.length cs m cn cp most nds (nds.length-1) ps W (aJ.under hW) ((h.below hW).more hW.size) ej eE gH ((hp.below hW).more hW.size) (by omega) (db av))
 have ee:=kp (fun A c ys W (hy:ep W W.heap.size A ys) (lC:ys.map Fa.keys=xs.map Fa.keys) hW=>a8M A Ap c cp m ys ps W hy ((hp.below hW).more hW.size) (by rw [E5];have:=congrArg length lC;rw [lM,lM] at this;exact this.symm) (by have:=congrArg length lC;rw [lM,lM] at this;omega)
  (fun y zg=>by
    have h1:y.keys∈xs.map Fa.keys:=by rw [<-lC];exact mem_map_of_mem zg
    obtain ⟨x,hx',e⟩:=mem_map.1 h1;rw [<-e]
    exact dv x hx') (fun k h1 h2=>hpo k _ _ (by rw [<-lC,getElem?_map,gE h1];rfl) (gE h2)))
 have aM:=kp ax;generalize hQ:N5 (rK (nds.map az) ps) w=Q at *;clear hQ aJ hx h hp hpo db gH dv ax E5;have q1:((m:Int) == 0)=false:=by simp;omega
 generalize dk:w.alloc (.cells zA 54)=W1 at *;have uz:=kp (Ea.o W1 aM.o);go_enter Tryz.func23,Tryz.ntmps23;go_wp2_with fail;refine uz.o.mono ?_;rintro e w2 ⟨A2,c2,y2,rfl,_,_,aH⟩;clear dk;have tp:=bu KI aH;have aF:=aR aM aH;have GN:=kp (Ea.o w2 aF.o);clear aH;go_wp2_with fail;refine GN.o.mono ?_;rintro e w3 ⟨A3,c3,y3,rfl,Cd,nG,aN⟩;have E0:=bu tp aN;have bC:=aR aF aN;have OC:=kp (ee.o A3 c3 y3 w3 Cd.at_ nG bC.o);clear aN Cd nG;go_wp2_with fail;refine OC.o.mono ?_;rintro e w4 ⟨rfl,cq⟩;have KP:=bu E0 cq;have bH:=aR bC cq;have HT4:=kp (OB.o w4 bH.o);clear cq;go_wp2_with fail;refine HT4.o.mono ?_;rintro e w5 ⟨rfl,rfl⟩;by_cases av:nds=[]
 .have nK:nds.length=0:=by rw [av];rfl
  have q2:((nds.length:Int)-1<0):=by omega
  have kz:decide ((nds.length:Int)-1<0)=true:=decide_eq_true q2;obtain ⟨uD,vD⟩:=aa.eS KP.o;have fk:=kp (show aa (aK w5 w.heap.size 0 [.int .i64 0,.int .i64 0,.int .i64 0,.int .i64 0,.int .i64 0,.int .i64 0,.int .i64 0,.int .i64 0,.int .i64 0,.int .i64 0]) w.heap.size 54 zA from eO KP.o [.int .i64 0,.int .i64 0,.int .i64 0,.int .i64 0,.int .i64 0,.int .i64 0,.int .i64 0,.int .i64 0,.int .i64 0,.int .i64 0] rfl)
  have bN:=kp (show Q (.returned (.tuple #[.agg zA,.int .i64 10])) (aK w5 w.heap.size 0 [.int .i64 0,.int .i64 0,.int .i64 0,.int .i64 0,.int .i64 0,.int .i64 0,.int .i64 0,.int .i64 0,.int .i64 0,.int .i64 0]) by
   have:=HQ.o _ (eU (ah _) [.int .i64 0,.int .i64 0,.int .i64 0,.int .i64 0,.int .i64 0,.int .i64 0,.int .i64 0,.int .i64 0,.int .i64 0,.int .i64 0] w5 0 bH.o);have xe:rK (nds.map az) ps=none:=by unfold rK;rw [if_pos (by rw [av];rfl)]
   rw [xe] at this
   exact this)
  generalize nO:aK w5 w.heap.size 0 _=W8 at *;simp only [aK,Nat.zero_add,Nat.reduceAdd] at nO;obtain ⟨t0,t1,t2,t3,t4,t5,t6,t7,t8,t9⟩:=(aa.eS fk.o).1;clear KI tp E0 KP fk HQ;go_wp2_with fail;refine bodyPost_ret (v := .tuple #[.agg zA,.int .i64 10]) ?_ rfl bN.o;simp [results,Tryz.results23,go_sem,t0,t1,t2,t3,t4,t5,t6,t7,t8,t9]
 .have sU:0<nds.length:=length_pos_iff.2 av;have q2:¬ ((nds.length:Int)-1<0):=by omega
  have kz:decide ((nds.length:Int)-1<0)=false:=decide_eq_false q2;have OD:((nds.length-1:Nat):Int)=(nds.length:Int)-1:=by omega
  have Uq:=kp (HAl.o av w5 bH.o);rw [OD] at Uq
  have qg:=kp (show rK (nds.map az) ps=oP (nds.map az) ps (nds.length-1) cO by
   unfold rK
   rw [if_neg (fun e=>av (map_eq_nil_iff.1 e)),lM])
  rw [<-qg.o] at Uq;generalize rK (nds.map az) ps=O at *;have Ur:=kp (OB.o w5 bH.o);go_wp2_with fail;refine Ur.o.mono ?_;rintro e w6 ⟨rfl,rfl⟩;go_wp2_with fail;refine Uq.o.mono ?_;rintro e w7 ⟨⟨ks,rfl⟩,jS⟩;have lN:=bu KP jS;have fE:=aR bH jS;have hg7:w.heap.size<w7.heap.size:=lN.o.lt;clear jS;have sj:=(aq w7.heap.size w7).alloc (ah _) (.cells zA 54);have HZ:=kp (aa.new w7 54 zA);generalize lH:(if O.isSome=true then (0:Int) else 10)=er at *;generalize (O.getD cO).ag=qq at *;obtain ⟨qa,jh,ji,jk,jl,jm,jn,jo,jq,jr⟩:=qq;dsimp only [bj] at HQ ⊢;have pI:=kp (eU (ah _) [.int .i64 qa,.int .i64 jh,.int .i64 ji,.int .i64 jk,.int .i64 jl,.int .i64 jm,.int .i64 jn,.int .i64 jo,.int .i64 jq,.int .i64 jr] _ 0 sj);have iN:=kp (show aa (aK (w7.alloc (.cells zA 54)) w7.heap.size 0 [.int .i64 qa,.int .i64 jh,.int .i64 ji,.int .i64 jk,.int .i64 jl,.int .i64 jm,.int .i64 jn,.int .i64 jo,.int .i64 jq,.int .i64 jr]) w7.heap.size 54 #[.int .i64 qa,.int .i64 jh,.int .i64 ji,.int .i64 jk,.int .i64 jl,.int .i64 jm,.int .i64 jn,.int .i64 jo,.int .i64 jq,.int .i64 jr] from eO HZ.o [.int .i64 qa,.int .i64 jh,.int .i64 ji,.int .i64 jk,.int .i64 jl,.int .i64 jm,.int .i64 jn,.int .i64 jo,.int .i64 jq,.int .i64 jr] rfl);have Us:=kp (lN.o.under pI.o);have Hw9:=kp (fE.o.trans (pI.o.mono fE.o.size));obtain ⟨rD,fD⟩:=aa.eS HZ.o;generalize nO:w7.alloc (.cells zA 54)=W8 at *;generalize yv:aK W8 w7.heap.size 0 _=W9 at *;simp only [aK,Nat.zero_add,Nat.reduceAdd] at yv;obtain ⟨uD,vD⟩:=aa.eS Us.o;have zD:=(aa.eS iN.o).1;have mE:=kp (show aa (aK W9 w.heap.size 0 [.int .i64 qa,.int .i64 jh,.int .i64 ji,.int .i64 jk,.int .i64 jl,.int .i64 jm,.int .i64 jn,.int .i64 jo,.int .i64 jq,.int .i64 jr]) w.heap.size 54 #[.int .i64 qa,.int .i64 jh,.int .i64 ji,.int .i64 jk,.int .i64 jl,.int .i64 jm,.int .i64 jn,.int .i64 jo,.int .i64 jq,.int .i64 jr] from eO Us.o [.int .i64 qa,.int .i64 jh,.int .i64 ji,.int .i64 jk,.int .i64 jl,.int .i64 jm,.int .i64 jn,.int .i64 jo,.int .i64 jq,.int .i64 jr] rfl);have bN:=kp (HQ.o _ (eU (ah _) [.int .i64 qa,.int .i64 jh,.int .i64 ji,.int .i64 jk,.int .i64 jl,.int .i64 jm,.int .i64 jn,.int .i64 jo,.int .i64 jq,.int .i64 jr] W9 0 Hw9.o));generalize Ut:aK W9 w.heap.size 0 _=oG at *;simp only [aK,Nat.zero_add,Nat.reduceAdd] at Ut;obtain ⟨t0,t1,t2,t3,t4,t5,t6,t7,t8,t9⟩:=(aa.eS mE.o).1;clear KI tp E0 KP lN Us iN mE HQ HZ sj pI Hw9 fE;go_wp2_with fail;refine bodyPost_ret (v := .tuple #[.agg #[.int .i64 qa,.int .i64 jh,.int .i64 ji,.int .i64 jk,.int .i64 jl,.int .i64 jm,.int .i64 jn,.int .i64 jo,.int .i64 jq,.int .i64 jr],.int .i64 er]) ?_ rfl bN.o;simp [results,Tryz.results23,go_sem,t0,t1,t2,t3,t4,t5,t6,t7,t8,t9]
theorem a9b (A:OA) (n c m:Nat) (w:World):(Instr.field 75 (.agg #[.slice A n c,.int .i64 (m:Nat)]) 0).run Tryz.prog w = .ok (.slice A n c) w:=by
 simp [Instr.field,asAgg,go_sem]
end
end Go.Proofs.YtjopcamkclndlaaGreat.Tc
