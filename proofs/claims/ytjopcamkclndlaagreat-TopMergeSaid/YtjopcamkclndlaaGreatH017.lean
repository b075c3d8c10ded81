/- Parts of a proof. -/
import Derived.Test.YtjopcamkclndlaaGreatH016
set_option linter.unusedVariables false
set_option linter.unusedSimpArgs false
set_option maxRecDepth 100000
set_option maxHeartbeats 8000000
namespace Go.Proofs.YtjopcamkclndlaaGreat.Tc
open List Go.RowKit Base
theorem RD:(Tryz.prog.info? 3).map (fun i=>(i.zero,i.size,i.bytes))=some (some (.int .i64 0),1,8):=by kernel_rfl
def CJ (l:LN) (w:World) (e:Ending) (w':World):Prop:=∃ (A:OA) (c:Nat),e = .returned (.slice A l.length c)/\w'.ownsRow w.heap.size 3 1 (.slice A l.length c) l.length (aP l)/\Below w.heap.size w w'
theorem a7K {X:List LN} {m ga i:Nat} {ns:List aI} {n:aI} {w:World} (ha:ft w ga X m ns) (ho:jJ X m ns) (hi:ns[i]? = some n) :
 Calls Tryz.prog 95 #[.pointer (some ⟨ga,0,none⟩),.int .i64 (i:Nat)] w (CJ (jt X.length ns i) w):=by
 obtain ⟨i0,cG,cI,cH,cJ⟩:=info_parts RD;have HQ:=kp (show ∀A c w',w'.ownsRow w.heap.size 3 1 (.slice A (jt X.length ns i).length c) (jt X.length ns i).length (aP (jt X.length ns i))->Below w.heap.size w w'->CJ (jt X.length ns i) w (.returned (.slice A (jt X.length ns i).length c)) w' from fun A c w' h1 h2=>⟨A,c,rfl,h1,h2⟩);have HN:=kp (ha.node ho hi);have HS:=kp (show ∀w',Below w.heap.size w w'->Calls Tryz.prog 33 #[.pointer (some ⟨ga,0,none⟩)] w' _ from fun w' hb=>(ha.below hb).shape ho);have gH:=ho.small n (mem_of_getElem? hi);have vu:=ho.yN.aj n (mem_of_getElem? hi);have xX:=kp ho.n1;have ae6:=kp ho.n16;have uu:jt X.length ns i=if n.aj+1=X.length then [] else (di n).map Cl.child:=by unfold jt;rw [hi]
 generalize CJ (jt X.length ns i) w=Q at *;rw [uu] at HQ;clear ha ho hi uu;go_enter Tryz.func95,Tryz.ntmps95;go_wp2_with fail;refine HN.o.mono ?_;rintro e w1 ⟨nd,rfl,hp,da,⟨oC,hcp⟩,ax⟩;subst hp;have hd:(az nd).aj=nd.aj:=rfl;have iS:nd.ls.flatMap Ll.cs++[nd.all]=di (az nd):=by unfold di az;simp [flatMap_def]
 have fZ:nd.ls.length<=4/\∀l∈nd.ls,l.cs.length<=1000:=by
  unfold az at gH;exact ⟨by simpa using gH.1,fun l hl=>gH.2 _ (mem_map_of_mem hl)⟩
 have aH:=(aq w1.heap.size w1).alloc (ah _) (.cells zN 100);have HZ:=kp (aa.new w1 100 zN);have aN:=eU (ah _) (dJ nd) _ 0 aH;have bM:=kp (show aa (aK (w1.alloc (.cells zN 100)) w1.heap.size 0 (dJ nd)) w1.heap.size 100 (bG nd) from eO HZ.o (dJ nd) rfl);have HE:=kp (show ∀w',Below w1.heap.size w1 w'->Calls Tryz.prog 81 #[.agg (bG nd)] w' (xG (di (az nd)) w') from fun w' hb=>by have:=J3 nd w' ((da.below hb).more hb.size) fZ.1 fZ.2;rw [iS] at this;exact this);have rX:(di (az nd)).length<=4001:=by
  rw [<-iS,aS];have h1:∀ (ls:List Ll),(∀l∈ls,l.cs.length<=1000)->(ls.flatMap Ll.cs).length<=ls.length*1000:=fun ls=>by
   induction ls with
   | nil=>intro _;simp
   | cons a ls ih =>
    intro h;have h2:=ih (fun l hl=>h l (mem_cons_of_mem _ hl));have h3:=h a mem_cons_self;rw [flatMap_cons,aS,length_cons];omega
  have:=h1 nd.ls fZ.2;have:=fZ.1;rw [length_singleton];omega
 obtain ⟨⟨r0,r1,r2,r3,r4,r5,r6,r7,r8,r9,kB,kC,uv,uw⟩,⟨f0,f1,f2,f3,f4,f5,f6,f7,f8,f9,mz,mA,qy,qz⟩⟩:=aa.cw HZ.o
 have HL:=kp (show ∀ (A:OA) (cc:Nat) (ys:List Fa) w',ys.map Fa.keys=X->Calls Tryz.prog 80 #[.agg #[.slice A ys.length cc,.int .i64 (m:Nat)],.int .i64 nd.aj] w' (fun e NF=>e = .returned (.bool (decide ((az nd).aj+1=X.length)))/\Below w'.heap.size w' NF) from fun A cc ys w' hy=>by
  have hl:ys.length=X.length:=by rw [<-hy,lM]
  have h1:=xX.o;have JB:=ae6.o;have:=AR A ys.length cc m nd.aj w' (by omega) (by omega) (by omega);rw [hl] at this;rw [hl,hd]
  exact this)
 have aM:=kp ax;have bC:=kp aN;generalize az nd=pn at *;clear HZ ax aH aN da oC hcp iS fZ gH HN hd vu;obtain ⟨aj,nA,ls,nc,⟨key,child,⟨ac,s0,n0,x0,s1,n1,x1,s2,n2,x2⟩⟩⟩:=nd;dsimp only [bG,dJ] at HE bM bC HL;generalize dH:w1.alloc (.cells zN 100)=W3 at *;generalize qB:aK W3 w1.heap.size 0 _=W4 at *;simp only [aK,Nat.zero_add,Nat.reduceAdd] at qB;go_upto_region 2 with fail
 clear dH qB r0 r1 r2 r3 r4 r5 r6 r7 r8 r9 kB kC uv uw f0 f1 f2 f3 f4 f5 f6 f7 f8 f9 mz mA qy qz;have bH:=kp (aM.o.trans (bC.o.mono aM.o.size));obtain ⟨z0,z1,z2,z3,z4,z5,z6,z7,z8,z9,iX,iY,rh,ri⟩:=(aa.cw bM.o).1;refine wp_region_noPanic ?_;refine dt (t:=99) (S:=(fun w'=>w'.cell? ⟨w1.heap.size,0,none⟩=some (.int .i64 (aj:Nat)))) (by kernel_rfl) z0 (fun ad => ?_);have qF:=kp ((aq W4.heap.size W4).drew);generalize W4.drew=wx at *;have bO:=kp (bH.o.trans (qF.o.mono bH.o.size));refine mX 0 2 3 ad ?_;refine oT 1 fun K hK=>?_
 go_simp
 refine (HS.o _ bO.o).mono ?_;rintro e w5 ⟨A5,c5,y5,rfl,_,k5,b5⟩;have bZ:=aR qF b5;have sr:=kp (HL.o A5 c5 y5 w5 k5);clear k5 b5;refine oK hK ?_ fun af=>?_
 .exact aL bZ.o z0
 replace ad:=af;clear hK K af;refine oT 4 fun K hK=>?_
 go_simp
 refine sr.o.mono ?_;rintro e w6 ⟨rfl,b6⟩;have eI:=aR bZ b6;clear b6 sr;refine oK hK ?_ fun af=>?_
 .exact aL eI.o z0
 replace ad:=af;clear hK K af;refine dY (by kernel_rfl) ?_ _
 try clear ad
 refine NoPanic.normal ?_;have Hw6:=kp (bH.o.trans (eI.o.mono bH.o.size));have gG:=kp (bM.o.under eI.o);have HE6:=kp (HE.o w6 (bC.o.trans (eI.o.mono bC.o.size)));clear z0 z1 z2 z3 z4 z5 z6 z7 z8 z9 iX iY rh ri HE HS HL bM bZ bO;by_cases hl:pn.aj+1=X.length
 .have qd:decide (pn.aj+1=X.length)=true:=decide_eq_true hl;have HQ:=HQ.o;rw [if_pos hl] at HQ;have Hf:=kp (HQ none 0 w6 (gL _ _ _ _) Hw6.o);clear HQ;go_wp2_with fail;exact Hf.o
 .have qd:decide (pn.aj+1=X.length)=false:=decide_eq_false hl;have VR:=HQ.o;rw [if_neg hl] at VR;have VS:=kp VR;clear HQ VR;obtain ⟨z0,z1,z2,z3,z4,z5,z6,z7,z8,z9,iX,iY,rh,ri⟩:=(aa.cw gG.o).1;go_wp2_with fail;refine HE6.o.mono ?_;rintro e w7 ⟨v7,rfl,cE,jS⟩;obtain ⟨A7,c7,rfl⟩:=eM cE;have BW:=kp (gV cE);have VT:=aR Hw6 jS;obtain ⟨q,hq⟩:∃q,(di pn).length=q:=⟨_,rfl⟩
  have Hq:=kp hq;rw [hq] at rX ⊢;clear cE jS hq z0 z1 z2 z3 z4 z5 z6 z7 z8 z9 iX iY rh ri gG HE6;go_wp2_with fail
  go_loopw [7,24] (fun v7 VU wr=>∃ (k:Nat) (Ao:OA) (co:Nat),k<=q/\VU = .int .i64 (k:Nat)/\v7 = .slice Ao k co/\wr.ownsRow w7.heap.size 3 1 (.slice Ao k co) k (aP (((di pn).take k).map Cl.child))/\Below w7.heap.size w7 wr) (fun _ VU _=>q-(intOf VU).toNat)
  case atStart=>exact ⟨0,none,0,aZ _,rfl,rfl,gL _ _ _ _,aq _ _⟩
  case round =>
   obtain ⟨k,Ao,co,hk,rfl,rfl,aE,aC⟩:=hrel;have bF:=kp aE;have ai:=kp aC;clear aE aC;by_cases ae:k<q
   .have sl:k<(di pn).length:=by rw [Hq.o];exact ae
    obtain ⟨bc,oc,zX,cU,e0,e1,e2,e3,e4,e5,e6,e7,e8,e9,Eb,Ec⟩:=rO (BW.o.below ai.o) k sl;have en:=kp (show ((di pn).take (k+1)).map Cl.child=((di pn).take k).map Cl.child++[((di pn)[k]'sl).child] by rw [take_succ_eq_append_getElem sl,map_append];rfl);generalize ((di pn)[k]'sl)=cc at *;obtain ⟨ck,kD,⟨ca,zY,zZ,Ab,Ad,Ae,Ah,Ai,Aj,Aq⟩⟩:=cc;dsimp only at e0 e1 e2 e3 e4 e5 e6 e7 e8 e9 Eb Ec en;have sj:=(aq wr.heap.size wr).alloc (ah _) (.cells zC 98);have xg:=kp (aa.new wr 98 zC);have pI:=kp (eU (ah _) [.int .i64 (ck:Nat),.int .i64 (kD:Nat),.int .i64 ca,.int .i64 zY,.int .i64 zZ,.int .i64 Ab,.int .i64 Ad,.int .i64 Ae,.int .i64 Ah,.int .i64 Ai,.int .i64 Aj,.int .i64 Aq] _ 0 sj);have iN:=kp (show aa (aK (wr.alloc (.cells zC 98)) wr.heap.size 0 [.int .i64 (ck:Nat),.int .i64 (kD:Nat),.int .i64 ca,.int .i64 zY,.int .i64 zZ,.int .i64 Ab,.int .i64 Ad,.int .i64 Ae,.int .i64 Ah,.int .i64 Ai,.int .i64 Aj,.int .i64 Aq]) wr.heap.size 98 #[.int .i64 (ck:Nat),.int .i64 (kD:Nat),.int .i64 ca,.int .i64 zY,.int .i64 zZ,.int .i64 Ab,.int .i64 Ad,.int .i64 Ae,.int .i64 Ah,.int .i64 Ai,.int .i64 Aj,.int .i64 Aq] from eO xg.o _ rfl);obtain ⟨⟨r0,r1,r2,r3,r4,r5,r6,r7,r8,r9,kB,kC⟩,⟨f0,f1,f2,f3,f4,f5,f6,f7,f8,f9,mz,mA⟩⟩:=aa.fQ xg.o;generalize nO:wr.alloc (.cells zC 98)=W8 at *;generalize yv:aK W8 wr.heap.size 0 _=W9 at *;simp only [aK,Nat.zero_add,Nat.reduceAdd] at yv;have fe:W9.cell? ⟨wr.heap.size,1,none⟩=some (.int .i64 (kD:Nat)):=iN.o.cell 1;have BQ:=kp (eV bF.o pI.o);have VV:=kp (ai.o.trans (pI.o.mono ai.o.size));have j0:(0:Int)<=(k:Int):=by omega
    have j1:(k:Int)<(q:Int):=by omega
    clear sj xg iN;rw [zX]
    go_wp2_with (at_builtin;refine tE rfl (.tmp 28) (.tmp 31) 27 rfl w7.heap.size 3 i0 (.int .i64 0) 8 Tryz.underlying27 cG cI cH cJ rfl W9 (.int .i64 (kD:Nat)) rfl (.slice Ao k co) k (aP (((di pn).take k).map Cl.child)) rfl BQ.o rfl (by omega) (by decide) VV.o.size ?_)
    intro v5 w5 aY bV;obtain ⟨A5,c5,h5⟩:=eM aY;subst h5;have Uy:=kp (show w5.ownsRow w7.heap.size 3 1 (.slice A5 (k+1) c5) (k+1) (aP (((di pn).take (k+1)).map Cl.child)) by rw [en.o,CG,List.map_take];exact aY);have HbN:=kp (bV.mO VV.o BQ.o (ah _) VV.o.size);clear aY bV e0 e1 e2 e3 e4 e5 e6 e7 e8 e9 Eb Ec fe nO yv r0 r1 r2 r3 r4 r5 r6 r7 r8 r9 kB kC f0 f1 f2 f3 f4 f5 f6 f7 f8 f9 mz mA;go_wp2_with fail;exact ⟨⟨k+1,A5,c5,by omega,by go_num,rfl,Uy.o,HbN.o⟩,by simp [intOf];omega⟩
   .obtain rfl:k=q:=by omega
    have aX:((di pn).map Cl.child).length=k:=by rw [lM,Hq.o]
    have Hf:=kp (VS.o Ao co wr (by
     rw [aX];have h:=bF.o;rw [take_of_length_le (by rw [Hq.o];exact ah _)] at h
     exact nX h VT.o.size) (VT.o.trans (ai.o.mono VT.o.size)))
    rw [aX] at Hf;clear aX;go_wp2_with fail;exact Hf.o
end Go.Proofs.YtjopcamkclndlaaGreat.Tc
namespace Go.Proofs.YtjopcamkclndlaaGreat.Tc
open List Go.RowKit Base Go.Maps Go.WideMaps
inductive xH (ch:Nat->LN):Nat->LN->Nat->Nat->Prop
 | nil {k:Nat}:xH ch k [] k 0
 | old {k k' c s:Nat} {cs:LN}:c<k->xH ch k cs k' s->xH ch k (c::cs) k' (s+1)
 | new {k k' c s1 s2:Nat} {cs:LN}:k<=c->xH ch k (ch c) c s1->xH ch (c+1) cs k' s2->xH ch k (c::cs) k' (s1+s2+2)
theorem xH.le {ch:Nat->LN} {k k' s:Nat} {cs:LN} (h:xH ch k cs k' s):k<=k':=by
 induction h with
 | nil=>exact ah _
 | old _ _ ih=>exact ih
 | new _ _ _ OO OP=>omega
theorem oM.toN {ch:Nat->LN} {M k k':Nat} {cs:LN} (h:oM ch k cs k') (hM:∀i,(ch i).length<=M):∃s,xH ch k cs k' s/\k<=k'/\s+2*M*k<=2*cs.length+2*M*k':=by
 induction h with
 | nil=>exact ⟨0,.nil,ah _,by simp⟩
 | old h1 _ ih =>
  obtain ⟨s,h2,h3,h4⟩:=ih;exact ⟨s+1,.old h1 h2,h3,by rw [length_cons];omega⟩
 | @new k k' c cs h1 _ _ OO OP =>
  obtain ⟨s1,a1,a2,a3⟩:=OO;obtain ⟨s2,b1,b2,b3⟩:=OP;refine ⟨s1+s2+2,.new h1 a1 b1,by omega,?_⟩;have:=hM c;have e:2*M*(c+1)=2*M*c+2*M:=by rw [Nat.mul_succ]
  rw [e] at b3;rw [length_cons];have h5:2*(ch c).length<=2*M:=by omega
  omega
inductive sv (ch:Nat->LN) (n:Nat):Nat->List (Nat×LN)->Nat->Prop
 | nil:sv ch n n [] 0
 | cons {k a s1 s2:Nat} {l:LN} {r:List (Nat×LN)}:xH ch k l a s1->sv ch n (a+1) r s2->sv ch n k ((a,l)::r) (s1+1+s2)
theorem sv.le {ch:Nat->LN} {n k s:Nat} {r:List (Nat×LN)} (h:sv ch n k r s):k+r.length<=n/\∀x∈r,k<=x.1/\x.1<n:=by
 induction h with
 | nil=>exact ⟨by simp,fun x hx=>by cases hx⟩
 | cons h1 _ ih =>
  have:=h1.le;refine ⟨by rw [length_cons];omega,fun x hx => ?_⟩;rcases mem_cons.1 hx with rfl | hx
  .exact ⟨by dsimp only;omega,by dsimp only;omega⟩
  .have:=ih.2 x hx;omega
theorem sv.pop {ch:Nat->LN} {n k a s:Nat} {r:List (Nat×LN)} (h:sv ch n k ((a,[])::r) s):a=k/\∃s',s=s'+1/\sv ch n (k+1) r s':=by
 cases h with
 | cons h1 h2 =>
  cases h1;exact ⟨rfl,_,by omega,h2⟩
theorem sv.next {ch:Nat->LN} {n k a c s:Nat} {l:LN} {r:List (Nat×LN)} (h:sv ch n k ((a,c::l)::r) s):c<a /\
 ((c<k/\∃s',s=s'+1/\sv ch n k ((a,l)::r) s')\/(k<=c/\∃s',s=s'+1/\sv ch n k ((c,ch c)::(a,l)::r) s')):=by
 cases h with
 | cons h1 h2 =>
  cases h1 with
  | @old _ _ _ s1 _ h3 h4=>exact ⟨by have:=h4.le;omega,.inl ⟨h3,s1+1+_,by omega,.cons h4 h2⟩⟩
  | @new _ _ _ s1 s2 _ h3 h4 h5=>exact ⟨by have:=h5.le;omega,.inr ⟨h3,s1+1+(s2+1+_),by omega,.cons h4 (.cons h5 h2)⟩⟩
def rG (w:World) (g:Nat) (L:LN):Prop :=
 ∃D:DataW Unit,w.ownsMap Tryz.prog 3 (plainElem Tryz.prog 3) g L.length D/\IsMap D/\∀x:Nat,x<=1000000->D.atKey (.int .i64 (x:Nat)) (.lit (.int .i64 0)) = .lit (.int .i64 (L.count x:Nat))
theorem rG.new (w:World):rG (w.alloc (.map #[] 0)) w.heap.size []:=⟨.map [],World.ownsMap_made _ _ _ _,isMap_empty,fun x _=>by simp [DataW.atKey]⟩
theorem rG.lt {w:World} {g:Nat} {L:LN} (h:rG w g L):g<w.heap.size:=by
 obtain ⟨D,h1,_⟩:=h;exact h1.lt
theorem rG.same {w w':World} {g:Nat} {L:LN} (h:rG w g L) (hs:w'.heap[g]? = w.heap[g]?):rG w' g L:=by
 obtain ⟨D,⟨es,cl,h1,h2⟩,h3⟩:=h;exact ⟨D,⟨es,cl,hs.trans h1,h2⟩,h3⟩
theorem XU {x:Nat} (h:x<=1000000000000):(Lit.int .i64 (x:Int)).wf=true:=WalkArith.wf_i64 (by omega)
theorem a9A {a b:Int} (h:(DataW.lit (Lit.int .i64 a):DataW Unit) = .lit (.int .i64 b)):a=b:=by
 injection h with h
 injection h
theorem a08 {w:World} {g z:Nat} {L:LN} (h:rG w g L) (hz:z<=1000000):(Instr.lookup 194 (.map (some g)) (.int .i64 (z:Nat)) false).run Tryz.prog w = .ok (.int .i64 (L.count z:Nat)) w:=by
 obtain ⟨D,aE,hD,br⟩:=h;obtain ⟨q,jM,hv,_⟩:=aE.lookup_int FE Tryz.underlying194 Tryz.underlying3 (tN w) (keyOf_int_mk Tryz.underlying3 (XU (x:=z) (by omega)));rw [br z hz] at hv;rw [jM,<-a9A hv]
theorem Xt {w:World} {g z:Nat} {L:LN} (h:rG w g L) (hz:z<=1000000) (hl:L.length<=100000000000) :
 ∃w',(Instr.mapUpdate 194 (.map (some g)) (.int .i64 (z:Nat)) (.int .i64 ((L.count z:Nat)+1))).run Tryz.prog w = .ok () w'/\rG w' g (L++[z])/\w.grownBy w' (some g):=by
 obtain ⟨D,aE,hD,br⟩:=h;have hc:L.count z<=L.length:=count_le_length;obtain ⟨w',jM,ho,hg⟩:=aE.update FE Tryz.underlying194 (show L.length<maxLen by unfold maxLen;omega) (keyOf_int_mk Tryz.underlying3 (XU (x:=z) (by omega))) (plainElem_int Tryz.underlying3 (show (Lit.int .i64 ((L.count z:Nat)+1)).wf=true from WalkArith.wf_i64 (by omega)));refine ⟨w',jM,⟨_,by rw [aS];exact ho,hD.put _ _,fun x hx => ?_⟩,hg⟩;by_cases e:x=z
 .subst e;rw [atKey_put_same (k := .int .i64 (x:Int)) hD (show WideAt.IsKeyLit (.int .i64 (x:Int)) from trivial)];simp
 .rw [atKey_put_other (by intro hh;injection hh with _ hh;omega),br x hx,count_append];simp [Ne.symm e]
structure Vf where
 at_:Nat
 A:OA
 left:LN
 c:Nat
def tQ (f:Vf):LV:=[.int .i64 f.at_,.slice f.A f.left.length f.c]
theorem Fh (f:Vf):(tQ f).length=2:=rfl
def AT (fr:List Vf):List (Nat×LN):=(fr.map fun f=>(f.at_,f.left)).reverse
theorem IW (r:List Vf) (f:Vf):AT (r++[f])=(f.at_,f.left)::AT r:=by unfold AT;simp
structure CF (w:World) (B:Nat) (v:Value) (f:Vf):Prop where
 row:Row w w.heap.size f.A (aP f.left)
 cap:f.left.length<=f.c
 off:∀b,eo f.A (aP f.left) b->B<=b/\v.ownBlock≠some b/\∃cs fz,w.heap[b]? = some (.cells cs 3 fz)
structure kW (B gp:Nat) (w0:World) (k:Nat) (A6 A7:OA) (c6 c7:Nat) (fr:List Vf) (L:LN) (w:World):Prop where
 out:w.ownsRow B 3 1 (.slice A6 k c6) k (aP (range k))
 qM:w.ownsRow B 196 2 (.slice A7 fr.length c7) fr.length (fr.flatMap tQ)
 rz:∀f∈fr,CF w B (.slice A6 k c6) f
 met:rG w gp L
 base:Below B w0 w
 CN:B<=gp
 bz:B<=w.heap.size
section
variable {B gp:Nat} {w0 w w':World} {k:Nat} {A6 A7:OA} {c6 c7:Nat} {fr:List Vf} {L:LN}
theorem CF.same {v v':Value} {f:Vf} (h:CF w B v f) (hz:w.heap.size<=w'.heap.size) (hs:∀b,eo f.A (aP f.left) b->w'.heap[b]? = w.heap[b]?) (hv:∀b,b<w.heap.size->v.ownBlock≠some b->v'.ownBlock≠some b):CF w' B v' f :=
 ⟨(pL h.row hs).more hz,h.cap,fun b hb=>⟨(h.off b hb).1,hv b (Row.cW h.row hb) (h.off b hb).2.1,by rw [hs b hb];exact (h.off b hb).2.2⟩⟩
theorem AL {e sz n b:Nat} {v:Value} {xs:LV} (h:w.ownsRow B e sz v n xs) (hb:v.ownBlock=some b):∃cs,w.heap[b]? = some (.cells cs e (0,0)):=by
 rcases h.2 with ⟨h0,_⟩ | ⟨g,cap,cur,h0,_,hh,_⟩
 .rw [h0] at hb;cases hb
 .rw [h0] at hb;injection hb with hb
  exact ⟨cur,by rw [<-hb];exact hh⟩
theorem rG.obj (h:rG w gp L):∃es cl,w.heap[gp]? = some (.map es cl):=by
 obtain ⟨D,⟨es,cl,h1,_⟩,_⟩:=h;exact ⟨es,cl,h1⟩
theorem kW.below (h:kW B gp w0 k A6 A7 c6 c7 fr L w) (hb:Below w.heap.size w w'):kW B gp w0 k A6 A7 c6 c7 fr L w' :=
 ⟨eV h.out hb,eV h.qM hb,fun f hf=>(h.rz f hf).same hb.size (fun b jc=>hb.block b (Row.cW (h.rz f hf).row jc)) (fun _ _ h=>h),h.met.same (hb.block _ h.met.lt),h.base.trans (hb.mono h.bz),h.CN,aT h.bz hb.size⟩
theorem kW.apart (h:kW B gp w0 k A6 A7 c6 c7 fr L w):∀b,(Value.slice A7 fr.length c7).ownBlock=some b->(Value.slice A6 k c6).ownBlock≠some b/\b≠gp/\∀f∈fr,¬eo f.A (aP f.left) b:=by
 intro b hb;obtain ⟨cs,h1⟩:=AL h.qM hb;refine ⟨fun e => ?_,fun e => ?_,fun f hf hh => ?_⟩
 .obtain ⟨o6,h2⟩:=AL h.out e;rw [h1] at h2;cases h2
 .obtain ⟨es,cl,h2⟩:=h.met.obj;rw [e,h2] at h1;cases h1
 .obtain ⟨_,_,o6,fz,h2⟩:=(h.rz f hf).off b hh;rw [h1] at h2;cases h2
theorem kW.app (h:kW B gp w0 k A6 A7 c6 c7 fr L w) {A5:OA} {c5:Nat} (ha:App w w' (.slice A6 k c6) (.slice A5 (k+1) c5)) (ho:w'.ownsRow B 3 1 (.slice A5 (k+1) c5) (k+1) (aP (range k)++[.int .i64 (k:Nat)])):kW B gp w0 (k+1) A5 A7 c5 c7 fr L w':=by
 refine ⟨by rw [range_succ,CG];exact ho,h.qM.kept ha.grown ?_,fun f hf=>(h.rz f hf).same ha.grown.size (fun b hb=>ha.de (Row.cW (h.rz f hf).row hb) ((h.rz f hf).off b hb).2.1) (fun b hb hv e => ?_),h.met.same (ha.de h.met.lt (fun e => ?_)),ha.mO h.base h.out (ah _) h.bz,h.CN,aT h.bz ha.grown.size⟩
 .rcases h.qM.2 with ⟨h0,_⟩ | ⟨g,cap,cur,h0,_⟩
  .exact .inl (by rw [h0];rfl)
  .exact .inr fun e=>(h.apart g (by rw [h0];rfl)).1 (by rw [<-e,h0];rfl)
 .rcases ha.qH with hl | ⟨j,hl,hj⟩
  .rw [hl] at e;exact hv e
  .rw [hl] at e;injection e with e
   omega
 .obtain ⟨cs,h1⟩:=AL h.out e;obtain ⟨es,cl,h2⟩:=h.met.obj;rw [h1] at h2;cases h2
theorem kW.cut {r:List Vf} {f:Vf} (h:kW B gp w0 k A6 A7 c6 c7 (r++[f]) L w):kW B gp w0 k A6 A7 c6 c7 r L w:=by
 refine ⟨h.out,?_,fun g hg=>h.rz g (mem_append_left _ hg),h.met,h.base,h.CN,h.bz⟩;obtain ⟨h1,h2⟩:=h.qM;have aX:(r++[f]).length=r.length+1:=by rw [aS];rfl
 rw [aX] at h1 h2;rcases h2 with ⟨_,h0⟩ | ⟨g,cap,cur,hv,hB,hh,j7,fj,cE,ht⟩
 .omega
 .injection hv with hA _ hc
  subst hA hc;refine ⟨kI Fh r,.inr ⟨g,c7,cur,rfl,hB,hh,by omega,fj,cE,?_⟩⟩;have e:cur.toList.take (r.length*2)=(cur.toList.take ((r.length+1)*2)).take (r.length*2):=by rw [take_take,Nat.min_eq_left (by omega)]
  rw [e,ht,flatMap_append,take_append_of_le_length (by rw [kI Fh r];exact ah _),take_of_length_le (by rw [kI Fh r];exact ah _)]
def lX (b off c:Nat):OA:=if c=1 then some ⟨b,off,none⟩ else some ⟨b,off+1,none⟩
theorem a8b (b off n c:Nat) (h0:1<=n) (hc:n<=c) (w:World):(Instr.slice 27 (.slice (some ⟨b,off,none⟩) n c) (some (.int .i64 1)) none none).run Tryz.prog w = .ok (.slice (lX b off c) (n-1) (c-1)) w:=by
 have h1:Tryz.prog.cellsOf 3=1:=by kernel_rfl
 obtain ⟨i0,cG,cI,cH,cJ⟩:=info_parts RD;have hn:(1:Int)<=(n:Int):=by omega
 unfold lX;by_cases h:c=1<;>simp [go_sem,Tryz.underlying27,h,h1,cG,cH,Addr.add,hn]
theorem a5W {b off c x:Nat} {xs:LN} {B:Nat} (h:Row w B (some ⟨b,off,none⟩) (aP (x::xs))) (hc:xs.length+1<=c):Row w B (lX b off c) (aP xs):=by
 unfold lX;by_cases h1:c=1
 .have:xs=[]:=length_eq_zero_iff.1 (by omega);subst this;exact .inl rfl
 .rw [if_neg h1];rcases h with h | ⟨b',jy,e,hb,nZ⟩
  .simp [aP] at h
  .injection e with e
   injection e with e1 e2 _
   subst e1 e2;refine .inr ⟨b,off+1,rfl,hb,fun j v hv => ?_⟩;have:=nZ (1+j) v (by rw [Nat.add_comm];exact hv);rw [Nat.add_assoc];exact this
theorem YW {b off c k x:Nat} {xs:LN} (h:eo (lX b off c) (aP xs) k):eo (some ⟨b,off,none⟩) (aP (x::xs)) k:=by
 obtain ⟨_,o,e⟩:=h;unfold lX at e;refine ⟨by simp [aP],off,?_⟩;split at e
 .injection e with e
  injection e with e1 _
  rw [e1]
 .injection e with e
  injection e with e1 _
  rw [e1]
theorem kW.tail {r:List Vf} {a b off c x sb:Nat} {xs:LN} (h:kW B gp w0 k A6 (some ⟨sb,0,none⟩) c6 c7 (r++[⟨a,some ⟨b,off,none⟩,x::xs,c⟩]) L w) :
 kW B gp w0 k A6 (some ⟨sb,0,none⟩) c6 c7 (r++[⟨a,lX b off c,xs,c-1⟩]) L (w.setCell ⟨sb,r.length*2+1,none⟩ (.slice (lX b off c) xs.length (c-1))):=by
 have hz:(w.setCell ⟨sb,r.length*2+1,none⟩ (.slice (lX b off c) xs.length (c-1))).heap.size=w.heap.size:=by simp
 have fv:=h.apart sb rfl;have hs:∀j,j≠sb->(w.setCell ⟨sb,r.length*2+1,none⟩ (.slice (lX b off c) xs.length (c-1))).heap[j]? = w.heap[j]? := fun j hj=>Below.heap_setCell w ⟨sb,r.length*2+1,none⟩ _ j hj
 have nw:=kI Fh r;refine ⟨oL h.out (fun j hj=>hs j fun e=>fv.1 (by rw [<-e];exact hj)),?_,fun f hf => ?_,h.met.same (hs _ (Ne.symm fv.2.1)),h.base.setCell (p:=⟨sb,r.length*2+1,none⟩) (h.qM.lt sb rfl).1 _,h.CN,by rw [hz];exact h.bz⟩
 .have h1:=gX h.qM (i:=r.length*2+1) (by rw [kI Fh,aS,length_singleton];omega) (.slice (lX b off c) xs.length (c-1));have e:((r++[(⟨a,some ⟨b,off,none⟩,x::xs,c⟩:Vf)]).flatMap tQ).set (r.length*2+1) (.slice (lX b off c) xs.length (c-1))=(r++[(⟨a,lX b off c,xs,c-1⟩:Vf)]).flatMap tQ:=by
   rw [flatMap_append,flatMap_append,set_append_right _ _ (by rw [nw];omega),nw,Nat.add_sub_cancel_left];rfl
  rw [e] at h1;have e2:(r++[(⟨a,lX b off c,xs,c-1⟩:Vf)]).length=(r++[(⟨a,some ⟨b,off,none⟩,x::xs,c⟩:Vf)]).length:=by simp
  rw [e2];exact h1
 .have Ex:=h.rz ⟨a,some ⟨b,off,none⟩,x::xs,c⟩ (mem_append_right _ mem_cons_self);rcases mem_append.1 hf with hf | hf
  .have hl:=h.rz f (mem_append_left _ hf);exact hl.same (Nat.le_of_eq hz.symm) (fun j hj=>hs j fun e=>fv.2.2 f (mem_append_left _ hf) (by rw [<-e];exact hj)) (fun _ _ h=>h)
  .rw [mem_singleton.1 hf];have hc:xs.length+1<=c:=Ex.cap;refine ⟨?_,by dsimp only;omega,fun j hj => ?_⟩
   .rw [hz];exact pL (a5W Ex.row hc) fun j hj=>hs j fun e=>fv.2.2 _ (mem_append_right _ mem_cons_self) (by rw [<-e];exact YW hj)
   .have vW:=YW (x:=x) hj;have av:j≠sb:=fun e=>fv.2.2 _ (mem_append_right _ mem_cons_self) (by rw [<-e];exact vW)
    rw [hs j av];exact Ex.off j vW
theorem kW.put (h:kW B gp w0 k A6 A7 c6 c7 fr L w) {z:Nat} (hg:w.grownBy w' (some gp)) (hm:rG w' gp (L++[z])):kW B gp w0 k A6 A7 c6 c7 fr (L++[z]) w':=by
 obtain ⟨es,cl,a4g⟩:=h.met.obj;have av:∀ {e sz n b:Nat} {v:Value} {xs:LV},w.ownsRow B e sz v n xs->v.ownBlock=some b->b≠gp:=fun ho hb e=>by
  obtain ⟨cs,h1⟩:=AL ho hb;rw [e,a4g] at h1;cases h1
 have hs:∀j,j<w.heap.size->j≠gp->w'.heap[j]? = w.heap[j]? := fun j hj av=>hg.block j hj (fun e=>av (by injection e))
 refine ⟨oL h.out (fun j hj=>hs j (h.out.lt j hj).2 (av h.out hj)),oL h.qM (fun j hj=>hs j (h.qM.lt j hj).2 (av h.qM hj)),fun f hf=>(h.rz f hf).same hg.size (fun b hb=>hs b (Row.cW (h.rz f hf).row hb) fun e => ?_) (fun _ _ h=>h),hm,h.base.grown hg h.bz (fun j e=>by injection e with e;rw [<-e];exact h.CN),h.CN,aT h.bz hg.size⟩;obtain ⟨_,_,cs,fz,h1⟩:=(h.rz f hf).off b hb;rw [e,a4g] at h1;cases h1
theorem kW.push (h:kW B gp w0 k A6 A7 c6 c7 fr L w) {f:Vf} {A5:OA} {c5:Nat} (hf:CF w B (.slice A6 k c6) f) (ha:App w w' (.slice A7 fr.length c7) (.slice A5 (fr.length+1) c5)) (ho:w'.ownsRow B 196 2 (.slice A5 (fr.length+1) c5) (fr.length+1) (fr.flatMap tQ++tQ f)):kW B gp w0 k A6 A5 c6 c5 (fr++[f]) L w':=by
 have aX:(fr++[f]).length=fr.length+1:=by rw [aS];rfl
 have vh:∀g:Vf,CF w B (.slice A6 k c6) g->∀b,eo g.A (aP g.left) b->w'.heap[b]? = w.heap[b]? := fun g hg b hb=>ha.de (Row.cW hg.row hb) fun e=>by
  obtain ⟨cs,h1⟩:=AL h.qM e;obtain ⟨_,_,o6,fz,h2⟩:=hg.off b hb;rw [h1] at h2;cases h2
 refine ⟨oL h.out (fun j hj=>ha.de (h.out.lt j hj).2 fun e=>(h.apart j e).1 hj),by rw [aX,flatMap_append];simpa using ho,fun g hg => ?_,h.met.same (ha.de h.met.lt fun e=>(h.apart gp e).2.1 rfl),ha.mO h.base h.qM (ah _) h.bz,h.CN,aT h.bz ha.grown.size⟩;rcases mem_append.1 hg with hg | hg
 .exact (h.rz g hg).same ha.grown.size (vh g (h.rz g hg)) (fun _ _ h=>h)
 .rw [mem_singleton.1 hg];exact hf.same ha.grown.size (vh f hf) (fun _ _ h=>h)
end
theorem YZ:(Tryz.prog.info? 196).map (fun i=>(i.zero,i.size,i.bytes))=some (some (.agg #[.int .i64 0,.slice none 0 0]),2,32):=by kernel_rfl
theorem a9j (w:World) (e:TypeId) (cs:AV) {B:Nat} (hB:B<=w.heap.size):(w.alloc (.cells cs e)).ownsRow B e cs.size (.slice (some ⟨w.heap.size,0,none⟩) 1 1) 1 cs.toList :=
 ⟨by simp,.inr ⟨w.heap.size,1,cs,rfl,hB,aa.new w e cs,ah _,by unfold maxLen;omega,by simp,take_of_length_le (by simp)⟩⟩
theorem a5t (sb q c:Nat) (hq:q<=c) (w:World):(Instr.slice 197 (.slice (some ⟨sb,0,none⟩) (q+1) c) none (some (.int .i64 (q:Nat))) none).run Tryz.prog w = .ok (.slice (some ⟨sb,0,none⟩) q c) w:=by
 have h1:Tryz.prog.cellsOf 196=2:=by kernel_rfl
 obtain ⟨i0,cG,cI,cH,cJ⟩:=info_parts YZ;have hn:(q:Int)<=(c:Int):=by omega
 simp [go_sem,Tryz.underlying197,h1,cG,cH,Addr.add,hn]
theorem aa8 {w:World} {B n c q sb:Nat} {r:List Vf} {f:Vf} (h:w.ownsRow B 196 2 (.slice (some ⟨sb,0,none⟩) n c) n ((r++[f]).flatMap tQ)) (hq:r.length=q) :
 w.cell? ⟨sb,q*2,none⟩=some (.int .i64 f.at_)/\w.cell? ⟨sb,q*2+1,none⟩=some (.slice f.A f.left.length f.c)/\w.frozen? ⟨sb,q*2+1,none⟩=false:=by
 have hr:=gV h;have hl:=kI Fh r;have e0:((r++[f]).flatMap tQ)[q*2]? = some (.int .i64 f.at_):=by
  rw [flatMap_append,getElem?_append_right (by rw [hl,hq];exact ah _),hl,hq,Nat.sub_self];rfl
 have e1:((r++[f]).flatMap tQ)[q*2+1]? = some (.slice f.A f.left.length f.c):=by
  rw [flatMap_append,getElem?_append_right (by rw [hl,hq];omega),hl,hq,Nat.add_sub_cancel_left];rfl
 obtain ⟨cs,h1⟩:=AL h rfl;have c0:=IT hr e0;have c1:=IT (k:=q*2+1) hr e1;rw [Nat.zero_add] at c0 c1;refine ⟨c0,c1,?_⟩;unfold World.frozen?;rw [h1];simp
theorem ab0 {X:List LN} {m ga:Nat} {ns:List aI} {w:World} (ha:ft w ga X m ns) (ho:jJ X m ns) (hp:ns≠[]->oM (jt X.length ns) 0 [ns.length-1] ns.length) :
 Calls Tryz.prog 46 #[.pointer (some ⟨ga,0,none⟩),.int .i64 ((ns.length:Int)-1)] w (CJ (range ns.length) w):=by
 obtain ⟨i0,cG,cI,cH,cJ⟩:=info_parts RD;obtain ⟨j0,VW,VX,VY,VZ⟩:=info_parts YZ;have rQ:=@run_makeMap Tryz.prog;have GX:=kp (fun w' (h:Below w.heap.size w w')=>(ha.below h).len ho);have V':=kp (fun i n w' (hi:ns[i]? = some n) (h:Below w.heap.size w w')=>a7K (ha.below h) ho hi);have Lu:=ho.mU;have uu:∀i,(jt X.length ns i).length<=4001:=fun i=>by
  unfold jt;split
  .rename_i n hn;split
   .exact aZ _
   .have gH:=ho.small n (mem_of_getElem? hn);rw [lM];unfold di;have h1:∀ (ls:List (List Cl)),(∀l∈ls,l.length<=1000)->ls.flatten.length<=ls.length*1000:=fun ls=>by
     induction ls with
     | nil=>intro _;simp
     | cons a ls ih =>
      intro h;have h2:=ih (fun l hl=>h l (mem_cons_of_mem _ hl));have h3:=h a mem_cons_self;rw [flatten_cons,aS,length_cons];omega
    have:=h1 n.lists gH.2;have:=gH.1;rw [aS,length_singleton];omega
  .exact aZ _
 obtain ⟨n,hn⟩:∃n,ns.length=n:=⟨_,rfl⟩
 have Hn:=kp hn;have Hp:=kp hp;have Hch:=kp uu;rw [hn] at Lu GX ⊢;have HQ:=kp (show ∀A c w',w'.ownsRow w.heap.size 3 1 (.slice A n c) n (aP (range n))->Below w.heap.size w w'->CJ (range n) w (.returned (.slice A n c)) w' from fun A c w' h1 h2=>⟨A,c,by rw [length_range],by rw [length_range];exact h1,h2⟩);generalize CJ (range n) w=Q at *;clear hn hp uu ha ho;by_cases h0:n=0
 .subst h0;have Hf:=kp (HQ.o none 0 w (gL _ _ _ _) (aq _ _));go_enter Tryz.func46,Tryz.ntmps46;go_wp2_with fail;exact Hf.o
 .obtain ⟨t,rfl⟩:∃t,n=t+1:=⟨n-1,by omega⟩
  have nz:=kp (show ns≠[] from fun e=>by have:=Hn.o;rw [e] at this;simp at this);have Pc:(((t+1:Nat):Int))-1=(t:Nat):=by omega
  rw [Pc];obtain ⟨G,hS,hG⟩:∃G,sv (jt X.length ns) (t+1) 0 [(t,jt X.length ns t)] G/\G<=1000000000:=by
   have h1:=Hp.o nz.o;rw [Hn.o,Nat.add_sub_cancel] at h1;obtain ⟨s,h2,_,h3⟩:=h1.toN Hch.o;cases h2 with
   | old h4 _=>omega
   | @new _ _ _ s1 s2 _ h4 h5 h6 =>
    cases h6;refine ⟨s1+1+0,.cons h5 .nil,?_⟩;simp at h3;omega
  have HS:=kp hS;clear hS;obtain ⟨nt,wo⟩:∃nt,ns[t]? = some nt:=⟨_,gE (by have:=Hn.o;omega)⟩
  have zF:=kp (fun w' h=>V'.o t nt w' wo h);clear wo;have ax:=(aq w.heap.size w).alloc (ah _) (.map #[] 0);obtain ⟨W2,dN,qR,j'⟩:=Xt (rG.new w) (z:=t) (by omega) (by simp);have O7:((([]:LN).count t:Nat):Int)+1=1:=rfl;rw [O7] at dN;rw [nil_append] at qR;clear O7;have aH:Below w.heap.size w W2:=ax.grown j' (by simp) (fun j e=>by injection e with e;omega);have pg:=kp qR;have aF:=kp aH;have Wa:=kp (show w.heap.size<W2.heap.size from qR.lt);clear qR ax aH j';have q0:¬ ((t:Int)≥((t+1:Nat):Int)):=by omega
  have q1:¬ ((t:Int)<0):=by omega
  go_enter Tryz.func46,Tryz.ntmps46;go_wp2_with fail;refine (GX.o w (aq _ _)).mono ?_;rintro e w1 ⟨rfl,he⟩;have he:=he.symm;subst he;go_wp2_with fail;refine (zF.o W2 aF.o).mono ?_;rintro e w3 ⟨A3,c3,rfl,vx,aN⟩;have vo:w.heap.size<w3.heap.size:=dL Wa.o aN.size;have a4h:=CC vx
  have Im:=kp (show kW w.heap.size w.heap.size w 0 none (some ⟨w3.heap.size,0,none⟩) 0 1 [⟨t,A3,jt X.length ns t,c3⟩] [t] (w3.alloc (.cells #[.int .i64 (t:Nat),.slice A3 (jt X.length ns t).length c3] 196)) from by
   have cq:=(aq w3.heap.size w3).alloc (ah _) (.cells #[.int .i64 (t:Nat),.slice A3 (jt X.length ns t).length c3] 196);refine ⟨gL _ _ _ _,a9j w3 _ _ (by omega),fun f hf => ?_,(pg.o.same (aN.block _ pg.o.lt)).same (cq.block _ vo),(aF.o.trans (aN.mono aF.o.size)).trans (cq.mono (by omega)),ah _,by simp;omega⟩;rw [mem_singleton.1 hf];refine ⟨((gV vx).below cq).more cq.size,a4h.1,fun b hb=>⟨?_,fun e=>(by cases e),?_⟩⟩
   .have:=(vx.lt b (AM vx hb)).1;have:=Wa.o;omega
   .obtain ⟨cs,h1⟩:=AL vx (AM vx hb)
    exact ⟨cs,(0,0),(cq.block b (vx.lt b (AM vx hb)).2).trans h1⟩)
  clear vx aN vo a4h pg aF zF;generalize jt X.length ns t=l0 at *
  have ae7:=kp (show ∀c:Nat,c<t->∀w',Below w.heap.size w w'->Calls Tryz.prog 95 #[.pointer (some ⟨ga,0,none⟩),.int .i64 (c:Nat)] w' (CJ (jt X.length ns c) w') from fun c hc w' hb=>by
   obtain ⟨n',iM⟩:∃n',ns[c]? = some n':=⟨_,gE (by have:=Hn.o;omega)⟩
   exact V'.o c n' w' iM hb)
  generalize jt X.length ns=ch at *;clear V' Hp Hch nz Hn dN Wa rQ;go_wp2_with fail
  go_loopg [6,7] G (fun g v6 v7 wr=>∃ (k n7:Nat) (A6 A7:OA) (c6 c7:Nat) (fr:List Vf) (L:LN),v6 = .slice A6 k c6/\v7 = .slice A7 n7 c7/\fr.length=n7/\kW w.heap.size w.heap.size w k A6 A7 c6 c7 fr L wr/\sv ch (t+1) k (AT fr) g/\L.length+g<=1000000001/\∀j:Nat,j∈L↔j<k\/j∈fr.map Vf.at_)
  case atStart=>exact ⟨0,1,none,some ⟨w3.heap.size,0,none⟩,0,1,[⟨t,A3,l0,c3⟩],[t],rfl,rfl,rfl,Im.o,HS.o,by simp;omega,fun j=>by simp⟩
  case round =>
   obtain ⟨k,n7,A6,A7,c6,c7,fr,L,rfl,rfl,h7,hM,Cs,Wg,lh⟩:=hrel;have qb:=Cs.le;have HM:=kp hM;have jC:=kp Cs;have Pd:=kp Wg;have Bk:=kp lh;rcases eq_nil_or_concat fr with oC | ⟨r,f,oC⟩
   .subst oC;have Wh:n7=0:=h7.symm;subst Wh;have jP:k=t+1:=by
     have:=jC.o;unfold AT at this;cases this;rfl
    subst jP;have Hf:=kp (HQ.o A6 c6 wr hM.out hM.base);clear hM Cs qb Wg lh h7 Im HS;go_wp2_with fail;exact Hf.o
   .rw [concat_eq_append] at oC;subst oC;obtain ⟨q,hq⟩:∃q,r.length=q:=⟨_,rfl⟩
    have Wh:n7=q+1:=by rw [<-h7,aS,hq];rfl
    subst Wh;obtain ⟨sb,rfl⟩:∃sb,A7=some ⟨sb,0,none⟩:=by
     rcases hM.qM.2 with ⟨_,h0⟩ | ⟨g,cap,cur,hv,_⟩
     .rw [aS] at h0;simp at h0
     .injection hv with hv
      exact ⟨g,hv⟩
    have uC:=CC hM.qM;rw [h7] at uC;have af7:k<=t/\q<=t:=by
     rw [IW,length_cons] at qb;have h1:=qb.1;have h2:(AT r).length=q:=by unfold AT;rw [length_reverse,lM,hq]
     omega
    obtain ⟨a,Al,l,cl⟩:=f;have fM:=hM.qM;rw [h7] at fM;obtain ⟨s0,s1,s2⟩:=aa8 fM hq;dsimp only at s0 s1;have Hq:=kp hq;have H7:=kp h7;rw [IW] at jC;have hqv:(((q+1:Nat):Int))-1=(q:Nat):=by omega
    have i0':(0:Int)<=(q:Int):=by omega
    have i1':(q:Int)<((q+1:Nat):Int):=by omega
    have i2':((q+1:Nat):Int)>0:=by omega
    clear hM Cs qb Wg lh h7 hq fM Im HS;rcases l with _ | ⟨c,cs⟩
    .obtain ⟨FO,g',hg',Ct⟩:=jC.o.pop;dsimp only at FO;subst FO;have Lw:=kp Ct;have ae8:=kp HM.o.out;have ku:=HM.o.bz;have K7:=a5t sb q c7 (by omega);clear Ct jC;have dR:(([]:LN).length:Int)=0:=rfl
     go_wp2_with (at_builtin;refine tE rfl (.tmp 41) (.tmp 46) 27 rfl w.heap.size 3 i0 (.int .i64 0) 8 Tryz.underlying27 cG cI cH cJ rfl wr (.int .i64 (a:Nat)) rfl (.slice A6 a c6) a (aP (range a)) rfl ae8.o rfl (by omega) (by decide) ku ?_)
     intro v5 w5 aY bV;obtain ⟨A5,c5,h5⟩:=eM aY;subst h5;have HN:=kp ((HM.o.app bV aY).cut);clear aY bV s0 s1 s2 ku;go_wp2_with fail
     go_roundg g'
     case measure=>omega
     case rel =>
      have:=Pd.o;refine ⟨a+1,q,A5,some ⟨sb,0,none⟩,c5,c7,r,L,rfl,rfl,Hq.o,HN.o,Lw.o,by omega,fun j => ?_⟩;rw [Bk.o j,map_append,mem_append];simp only [map_cons,map_nil,mem_singleton];constructor
      .rintro (h | h | h)
       .exact .inl (by omega)
       .exact .inr h
       .exact .inl (by omega)
      .rintro (h | h)
       .by_cases e:j=a
        .exact .inr (.inr e)
        .exact .inl (by omega)
       .exact .inr (.inl h)
    .have Wi:=HM.o.rz _ (mem_append_right _ mem_cons_self);obtain ⟨b,off,V3,ui,d0⟩:=Row.at_ Wi.row (k:=0) (by simp [aP]);dsimp only at V3;subst V3;have d0:wr.cell? ⟨b,off,none⟩=some (.int .i64 (c:Nat)):=d0;have pd:cs.length+1<=cl:=Wi.cap;obtain ⟨VQ,fh⟩:=jC.o.next;dsimp only at VQ fh;have br:a<=t:=by
      have h1:=jC.o.le.2 _ mem_cons_self;dsimp only at h1;omega
     have K7:=a8b b off (cs.length+1) cl (by omega) pd;rw [Nat.add_sub_cancel] at K7;have Aw:=HM.o.tail;rw [Hq.o] at Aw;have HMt:=kp Aw;have Wj:=kp fh;have oF:((c::cs).length:Int)=(cs.length:Int)+1:=by simp
     have hnz:(((c::cs).length:Int) == 0)=false:=by rw [beq_eq_false_iff_ne];simp;omega
     rw [length_cons] at s1 hnz;have hLz:L.length<=1000000001:=by have:=Pd.o;omega
     obtain ⟨w8,mG,Wl,zE⟩:=Xt Aw.met (z:=c) (by omega) (by omega);have Ik:=a08 Aw.met (z:=c) (by omega);have Pe:=a08 Wl (z:=c) (by omega);have KQ:(L++[c]).count c=L.count c+1:=by rw [count_append];simp
     rw [KQ] at Pe;have hM8:=Aw.put zE Wl;have rk:=kp hM8;clear Aw fh Wl zE KQ oF Wi ui hM8 HMt;generalize C1:wr.setCell ⟨sb,q*2+1,none⟩ (.slice (lX b off cl) cs.length (cl-1))=W7 at *;have FL:=kp (show L.count c=0↔¬ (c<k\/c∈(r++[(⟨a,some ⟨b,off,none⟩,c::cs,cl⟩:Vf)]).map Vf.at_) from by rw [<-Bk.o c];exact count_eq_zero);have a4i:∀x∈(r++[(⟨a,some ⟨b,off,none⟩,c::cs,cl⟩:Vf)]).map Vf.at_,c<x:=by
      intro x hx;have h1:=jC.o;cases h1 with
      | cons h2 h3 =>
       rw [map_append,mem_append] at hx;rcases hx with hx | hx
       .obtain ⟨f,hf,rfl⟩:=mem_map.1 hx;have h4:=h3.le.2 (f.at_,f.left) (by unfold AT;rw [mem_reverse];exact mem_map_of_mem hf);dsimp only at h4;omega
       .have h5:x=a:=mem_singleton.1 hx;omega
     obtain ⟨p,Io⟩:∃p,L.count c=p:=⟨_,rfl⟩
     have cM:p<=1000000001:=by rw [<-Io];exact aT count_le_length hLz
     rw [Io] at mG Ik Pe FL;have a4j:=kp a4i;have Hpc:=kp Io;clear a4i Io hLz;have hwp:IntKind.i64.wrap ((p:Int)+1)=(p:Int)+1:=IntWalk.i64_in _ (by omega);have xe:(((p+1:Nat):Nat):Int)=(p:Int)+1:=by omega
     rw [xe] at Pe;have Wn:=kp (show ∀ (j:Nat),j∈L++[c]↔(j<k\/j∈(r++[(⟨a,some ⟨b,off,none⟩,c::cs,cl⟩:Vf)]).map Vf.at_)\/j=c from fun j=>by rw [mem_append,Bk.o j,mem_singleton]);have Wo:∀ (l':LN) (A':OA) (c':Nat),(r++[(⟨a,A',l',c'⟩:Vf)]).map Vf.at_=r.map Vf.at_++[a]:=fun l' A' c'=>by rw [map_append];rfl
     rw [Wo] at FL a4j Wn;have a4k:=kp Wo;clear Wo xe;rcases Wj.o with ⟨hck,g',hg',Ct⟩ | ⟨hck,g',hg',Ct⟩
     .have BH:p≠0:=fun e=>(FL.o.1 e) (.inl hck)
      have qp:((p:Int)+1 == 1)=false:=by rw [beq_eq_false_iff_ne];omega
      have Lw:=kp Ct;clear Ct jC HM Wj;go_wp2_with fail
      go_roundg g'
      case measure=>omega
      case rel =>
       have:=Pd.o;refine ⟨k,q+1,A6,some ⟨sb,0,none⟩,c6,c7,r++[⟨a,lX b off cl,cs,cl-1⟩],L++[c],rfl,rfl,by rw [aS,Hq.o];rfl,rk.o,by rw [IW];exact Lw.o,by rw [aS];simp;omega,fun j => ?_⟩;rw [Wn.o j,a4k.o];constructor
       .rintro (h | h)
        .exact h
        .exact .inl (by omega)
       .exact .inl
     .have BH:p=0:=FL.o.2 (fun h=>by
       rcases h with h | h
       .omega
       .have:=a4j.o c h;omega)
      have qp:((p:Int)+1 == 1)=true:=by rw [BH];rfl
      clear BH cM;have Lw:=kp Ct;have fk:=kp (ae7.o c (by omega) w8 rk.o.base);clear Ct jC HM Wj;go_wp2_with fail;refine fk.o.mono ?_;rintro e w9 ⟨A9,c9,rfl,Ip,ss⟩;have AD:=kp (rk.o.below ss);have E3:w.heap.size<=w9.heap.size:=AD.o.bz;have a4l:=CC Ip;have nw:(r++[(⟨a,lX b off cl,cs,cl-1⟩:Vf)]).length=q+1:=by rw [aS,Hq.o];rfl
      have HL9:=kp (show CF w9 w.heap.size (.slice A6 k c6) ⟨c,A9,ch c,c9⟩ from ⟨gV Ip,a4l.1,fun b' jc=>by
       have h1:=AM Ip jc;have h2:=Ip.lt b' h1;obtain ⟨o6,h3⟩:=AL Ip h1
       exact ⟨aT rk.o.bz h2.1,fun e=>(by have h4:=(rk.o.out.lt b' e).2;omega),o6,(0,0),h3⟩⟩)
      have aea:=kp (show w9.ownsRow w.heap.size 196 2 (.slice (some ⟨sb,0,none⟩) (q+1) c7) (q+1) ((r++[(⟨a,lX b off cl,cs,cl-1⟩:Vf)]).flatMap tQ) from by have:=AD.o.qM;rw [nw] at this;exact this);obtain ⟨lc,Wp⟩:∃lc,(ch c).length=lc:=⟨_,rfl⟩
      have Hlc:=kp Wp;rw [Wp];have hqs:q+1+1<1048576*64:=by omega
      clear Ip ss a4l Wp nw fk d0 s0 s1 s2 mG Ik Pe C1
      go_wp2_with (at_builtin;refine vG rfl (.tmp 75) (.tmp 81) 197 rfl w.heap.size 196 j0 (.agg #[.int .i64 0,.slice none 0 0]) 2 32 Tryz.underlying197 VW VX VY VZ rfl (by decide) w9 #[.int .i64 (c:Nat),.slice A9 lc c9] rfl (by simp [Value.oneCell']) (.slice (some ⟨sb,0,none⟩) (q+1) c7) (q+1) ((r++[(⟨a,lX b off cl,cs,cl-1⟩:Vf)]).flatMap tQ) rfl aea.o rfl hqs (by decide) E3 ?_)
      intro v5 w5 aY bV;obtain ⟨A5,c5,h5⟩:=eM aY;subst h5
      have HN:=kp (AD.o.push (A5:=A5) (c5:=c5) HL9.o (by rw [aS,Hq.o];exact bV) (by
       have e:tQ ⟨c,A9,ch c,c9⟩=[.int .i64 (c:Nat),.slice A9 lc c9]:=by unfold tQ;rw [Hlc.o]
       have e2:(r++[(⟨a,lX b off cl,cs,cl-1⟩:Vf)]).length=q+1:=by rw [aS,Hq.o];rfl
       rw [e2,e]
       simpa using aY))
      clear aY bV;go_wp2_with fail
      go_roundg g'
      case measure=>omega
      case rel =>
       have:=Pd.o;refine ⟨k,q+2,A6,A5,c6,c5,(r++[⟨a,lX b off cl,cs,cl-1⟩])++[⟨c,A9,ch c,c9⟩],L++[c],rfl,rfl,by rw [aS,aS,Hq.o];rfl,HN.o,by rw [IW,IW];exact Lw.o,by rw [aS];simp;omega,fun j => ?_⟩;rw [Wn.o j,map_append,a4k.o];simp only [map_cons,map_nil,mem_append,mem_singleton];exact or_assoc
end Go.Proofs.YtjopcamkclndlaaGreat.Tc
namespace Go.Proofs.YtjopcamkclndlaaGreat.Tc
open List Go.RowKit Base
theorem a9L {X:List LN} {m ga:Nat} {ns:List aI} {w:World} (ha:ft w ga X m ns) (ho:jJ X m ns) (hp:ns≠[]->oM (jt X.length ns) 0 [ns.length-1] ns.length) :
 Calls Tryz.prog 14 #[.pointer (some ⟨ga,0,none⟩)] w (iC w):=by
 have HW:=kp (ha.whole ho);have HT:=kp (fun w' (h:Below w.heap.size w w')=>(ha.below h).top ho);have HV:=kp (fun w' (h:Below w.heap.size w w')=>ab0 (ha.below h) ho hp);have Lu:=ho.mU;obtain ⟨n,hn⟩:∃n,ns.length=n:=⟨_,rfl⟩
 rw [hn] at HT HV Lu;generalize hQ:iC w=Q;have HQ:=kp (show ∀w',Below w.heap.size w w'->Q (.returned (.bool true)) w' from fun w' h=>by rw [<-hQ];exact ⟨rfl,h⟩);clear hQ ha ho hp hn;go_enter Tryz.func14,Tryz.ntmps14;go_wp2_with fail;refine HW.o.mono ?_;rintro e w1 ⟨rfl,b1⟩;have B1:=kp b1;clear b1;go_wp2_with fail;refine (HT.o _ B1.o).mono ?_;rintro e w2 ⟨rfl,he⟩;have he:=he.symm;subst he;go_wp2_with fail;refine (HV.o _ B1.o).mono ?_;rintro e w3 ⟨A3,c3,rfl,vx,b3⟩;have hR:=gV vx;rw [length_range];have HR:=kp hR;have B3:=aR B1 b3;clear hR vx b3;go_wp2_with fail
 go_loopw [13] (fun oE wr=>∃k:Nat,k<=n/\oE = .int .i64 (k:Nat)/\Below w3.heap.size w3 wr) (fun oE _=>n-(intOf oE).toNat)
 case atStart=>exact ⟨0,aZ _,rfl,aq _ _⟩
 case round =>
  obtain ⟨k,hk,rfl,hb⟩:=hrel;have Hb:=kp hb;clear hb;by_cases ae:k<n
  .obtain ⟨b,off,hA,ui,d0⟩:=Row.at_ (HR.o.below Hb.o) (k:=k) (by rw [ke,length_range];exact ae);have e0:(aP (range n))[k]'(by rw [ke,length_range];exact ae) = .int .i64 (k:Nat):=by unfold aP;simp
   rw [e0] at d0;subst hA;have i0:(0:Int)<=(k:Int):=by omega
   have i1:(k:Int)<(n:Int):=by omega
   have q0:((k:Int) != (k:Int))=false:=by simp
   clear e0;go_wp2_with fail;exact ⟨⟨k+1,by omega,by go_num,Hb.o⟩,by simp [intOf];omega⟩
  .obtain rfl:k=n:=by omega
   have Hf:=kp (HQ.o wr (B3.o.trans (Hb.o.mono B3.o.size)));go_wp2_with fail;exact Hf.o
end Go.Proofs.YtjopcamkclndlaaGreat.Tc
