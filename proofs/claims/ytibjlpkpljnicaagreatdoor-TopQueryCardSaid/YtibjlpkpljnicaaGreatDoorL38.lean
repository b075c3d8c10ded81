/- Parts of a proof. -/
import Derived.Test.YtibjlpkpljnicaaGreatDoorL35
import Derived.Test.YtibjlpkpljnicaaGreatDoorL37
import Derived.Laws.Cover3
set_option maxRecDepth 100000
set_option maxHeartbeats 8000000
set_option linter.all false
namespace Go.Proofs.YtibjlpkpljnicaaGreatDoor
namespace Tc
open List Go.RowKit Base Go.Maps Go.WideMaps Crc Go.Proofs.YtibjlpkpljnicaaGreatDoor.Nm Go.Proofs.Tryz
def jJ(l:LN):LV:=l.map λ(k:Nat)=> .int .u64 (k:Int)
def QU(l:LN)(k:Nat):jJ (l++[k])=jJ l++[.int .u64 (k:Int)]:=by unfold jJ;simp
def JF(l:LN)(k:Nat):cS (l++[k])=cS l++bX k:=by unfold cS;simp
def xl(l:LN):(cS l).length<=9*l.length:=by
 induction l with
 |nil=>exact ae _
 |cons a l b=>
  have h1:=j6 a;have h2:=(j7 a).2;show(bX a++cS l).length<=9*(l.length+1);rw[aE];omega
def LU(A:OA)(c:Nat)(l:LN)(w:World)(F:Row w w.heap.size A (jJ l))(C:∀x∈l,x<200)(G:l.length<=1000) :
 Calls prog 326 #[U A l.length c] w (ir (str (cS l)) w):=by
 obtain⟨M,X,O⟩:=j3_ uf F C;obtain⟨n,q⟩:=e_ l.length;have B:=J q;rw[q]at G⊢;have W:Kp (∀w',E w _->ir (str (cS l)) w _ w'):=λw' h=>⟨rfl,h⟩;generalize I:ir _ w=Q at*;clear F C q I;go_in;go_wp2;go_loopw [3,8] (λL y wr=>∃k:Nat,k<=n/\y = N k/\L = T (str (cS (l.take k)))/\E w wr) (λ_ y _=>n-(intOf y).toNat)
 case atStart=>exact⟨0,o_,rfl,rfl,bR⟩
 .obtain⟨k,hk,rfl,rfl,m⟩:=hrel;have f:=J m;clear m;by_cases u:k<n
  .have d:k<l.length:=by rw[B];omega
   obtain⟨b,off,rfl,R,x0⟩:=Row.at_ (X.below f) (by unfold jJ;rw[lM];exact d);have hx:(jJ l)[k]'(by unfold jJ;rw[lM];exact d) = .int .u64 (l[k]:Nat):=by unfold jJ;rw[getElem_map]
   rw[hx]at x0;have D:=O _ (gM d);have p:=J (show str (cS (l.take _))=str (cS (l.take k))++dQ l[k] by rw[take_succ_eq_append_getElem,JF,<-lS];rfl);have Y:(str (cS (l.take k))).size<=9000:=by
    rw[dR];have:=xl (l.take k);rw[length_take]at this;omega
   have H:=kF l[k];have v:=J (M l[k] wr o_);clear hx R;generalize l[k]=z at*;clear d;generalize str (cS (l.take k))=s at*;have u:¬9223372036854775807<s.size+(dQ z).size:=o_;go_wp2_with fail;apply v.mono;rintro e Z⟨rfl,g⟩;have r:=ay f g;clear g;go_wp2;exact⟨⟨k+1,o_,o_,by rw[p],r⟩,o_⟩
  .obtain rfl:k=n:=o_;rw[show l.take k=l by rw[<-B,take_length]];have V:=J (W _ f);generalize str _=s at*;go_wp2;exact V
def OQ(A:OA)(c:Nat)(l:LN)(w:World)(hr:Row w w.heap.size A (an l))(O:∀x∈l,x<200)(Z:l.length<=1000) :
 Calls prog 291 #[U A l.length c] w (ir (str (cS l)) w):=by
 obtain⟨V,H,G,W,D⟩:=info_parts BM;have HR:=J (λA c w(h:Row w _ A _)=>LU A c l w h O Z);have Hr:=J hr;have z:=J O;obtain⟨n,L⟩:=e_ l.length;have y:=J L;rw[L]at Z HR⊢;have HQ:Kp (∀w',E w _->ir (str (cS l)) w _ w'):=λw' h=>⟨rfl,h⟩;generalize u:ir _ w=Q at*;clear hr O L u;go_in;go_wp2;go_loopw [3,8] (λu X wr=>∃(k:Nat)(v:OA)(C:Nat),k<=n/\X = N k/\u = U v k C/\wr.ownsRow w.heap.size 284 1 (U v k C) k (jJ (l.take k))/\E w wr) (λ_ X _=>n-(intOf X).toNat)
 case atStart=>exact⟨0,_,0,o_,rfl,rfl,cK _ _ _ _,bR⟩
 .obtain⟨k,v,C,hk,rfl,rfl,q,B⟩:=hrel;have f:=J B;have g:=J q;clear B q;by_cases M:k<n
  .have m:k<l.length:=by rw[y];omega
   obtain⟨b,off,rfl,u,x0⟩:=Row.at_ (Hr.below f) (by unfold an;rw[lM];exact m);have hx:(an l)[k]'(by unfold an;rw[lM];exact m) = I (l[k]:Nat):=by unfold an;rw[getElem_map]
   rw[hx]at x0;have L:=z _ (gM m);have F:=J (show jJ (l.take _)=jJ (l.take k)++[.int _ (l[k]:Nat)] by rw[take_succ_eq_append_getElem,QU]);clear hx u;generalize l[k]=z at*;clear m;have u:IntKind.u64.wrap z=z:=by rw[IntKind.wrap_u64];omega
   have R:k<1048576*64:=o_;go_wp2_with(at_builtin;apply iP rfl _ _ _ rfl _ 284 V _ 8 underlying269 H G W D rfl _ _ rfl (U v k C) k _ rfl g rfl R d_ f.size;intro u u d p;obtain⟨z,D,u⟩:=bY d;subst u;have u:=J d;have V:=J (p.below f g o_ f.size);clear d p);exact⟨⟨_,z,D,o_,o_,rfl,by rw[F];exact u,V⟩,o_⟩
  .obtain rfl:k=n:=o_;have r:Row wr wr.heap.size v (jJ l):=by
    have:=dF g;rwa[show l.take k=l by rw[<-y,take_length]]at this
   have Y:=J (HR v C _ r);clear r;go_wp2_with fail;apply Y.mono;rintro e u⟨rfl,y⟩;have u:=J (HQ _ (f.trans (y.mono f.size)));clear y;generalize str _=s at*;go_wp2;exact u
def Lp(k:Nat)(w:World):Calls prog 289 #[N k] w λe w'=>e = .returned (.bool false)/\w=w':=by
 have h:decide ((k:Int)<0)=false:=o_;go_in;go_wp2;go_ret;simp
def Lr:∀(args:AV)(w:World),(callFunc 289 args).run prog w = .ok (.enter 289 args) w:=by
 simp
def LL(A:OA)(c:Nat)(l:LN)(w:World)(p:Row w w.heap.size A (an l))(q:l.length<=1000) :
 Calls prog 325 #[U A l.length c,.func (.func 289) #[] #[]] w λe w'=>e = .returned (I (-1))/\w=w':=by
 have B:=Lr;have s:=J Lp;have v:=J p;obtain⟨n,g⟩:=e_ l.length;have x:=J g;rw[g]at q⊢;clear p g;go_in;go_wp2;go_loopw [8] (λm wr=>∃k:Nat,k<=n/\m = N k/\w=wr) (λm wr=>n-(intOf m).toNat)
 case atStart=>grind
 .obtain⟨k,hk,rfl,rfl⟩:=hrel;by_cases f:k<n
  .have d:k<l.length:=by rw[x];omega
   obtain⟨b,off,rfl,u,x0⟩:=Row.at_ v (by unfold an;rw[lM];exact d);have hx:(an l)[k]'(by unfold an;rw[lM];exact d) = I (l[k]:Nat):=by unfold an;rw[getElem_map]
   rw[hx]at x0;clear hx u;generalize l[k]=z at*;clear d;have y:0<=(k:Int):=o_;have r:k<(n:Int):=o_;go_wp2_with fail;apply(s _ _).mono;rintro e w'⟨rfl,rfl⟩;go_wp2;exact⟨⟨k+1,o_,o_,trivial⟩,o_⟩
  .obtain rfl:k=n:=o_;go_wp2;go_ret;simp
def LM(A:OA)(c:Nat)(l:LN)(w:World)(d:Row w w.heap.size A (an l))(b:l.length<=1000) :
 Calls prog 290 #[U A l.length c,.func (.func 289) #[] #[]] w λe w'=>e = .returned (.bool false)/\w=w':=by
 have f:=J (LL A c l w d b);clear d b;generalize l.length=n at*;go_in;go_wp2_with fail;apply f.mono;rintro e w'⟨rfl,rfl⟩;go_wp2;go_ret;simp
def Fp{P:Program}(w:World){ops:Array Oper}{rest:List Oper}{o:Oper}{a:Act}{Q:Exit->Act->World->Prop}(hg:o.guard=none)(m x:Operand)(ty:TypeId)(ok:Bool)(hop:o.op=Op.lookup ty m x ok)
 {mv xv v:Value}(hm:a.eval m=mv)(hx:a.eval x=xv)(hrun:(Instr.lookup ty mv xv ok).run P w = .ok v w)(hK:wpList P ops Q rest (a.put o.dst v) w):wpList P ops Q (o::rest) a w:=by
 refine wpList_plain hg λK' hK'=> ?_
 unfold Oper.wp;simp[execOp,hop,hm,hx,hrun,Result.andThen];exact hK' _ _ hK
def Fz(w:World):(zeroValue 89).run prog w = .ok nZ w:=k_
def vE(c:Wt)(w:World)(V:Nat->Prop)(P':List (LN×Ag))(e:Ending)(w':World):Prop:=e = .returned (I 0)/\∃D' V',zB c w w' V D' P' V'
def P7{c:Wt}{w:World}{D:DataW Value}{P:List (LN×Ag)}{V:Nat->Prop}{m:Nat}(A:OA)(cc:Nat)(key:LN)(a:Ag)(tab:aa w c.go 299 c.T)(map:aY w 9 c.gm P.length D)(gH:fV w D P c.wd V)(ke:∀k,V k->k<w.heap.size/\k≠c.gm)
 (hr:Row w w.heap.size A (an key))(hk:lz c.wd key)(hw16:c.wd<=16)(hP:P.length<=60)(hga:∀x∈P,GA m 2560 x.2)(ha:GA m 2560 a)(hf:cB a)(hfP:∀x∈P,cB x.2)(hne:c.go≠c.gm) :
 Calls prog 248 #[Y c.go 0,U A key.length cc,.agg (aA a)] w (vE c w V (P++[(key,a)])):=by
 obtain⟨bJ,r,hw1,hw2,hw3⟩:=Qw hga hP ha
 have hfw:cB bJ:=xq _ az bJ re (λx hx=>by
  obtain⟨y,hy,rfl⟩:=mem_map.1 hx
  exact hfP y (mem_filter.1 hy).1) hw1
 have hl16:key.length<=16:=by rw[hk.1];exact hw16
 have hkey:keyOf prog 9 (T (str (cS key)))=some (gJ key):=keyOf_string_mk underlying9 (by rw[dR];have:=xl key;unfold maxLen;omega);have HNm:=J (λ(W:World)(hb:E w W)=>OQ A cc key W ((hr.below hb).more hb.size) hk.2 o_);have HNg:=J (λ(W:World)(hb:E w W)=>LM A cc key W ((hr.below hb).more hb.size) o_);have HCl:=J (λ(W:World)(hb:E w W)=>qW A cc key W o_ ((hr.below hb).more hb.size));have HJ:=J (λ(W:World)=>xt bJ a W hfw hf);have hmlt:c.gm<w.heap.size:=by
  obtain⟨es,cl,h1,_⟩:=map;exact(Array.getElem?_eq_some_iff.1 h1).1
 have HLk:=J (λ(W:World)(hb:E w W)=>aY.look (map.same (hb.block _ hmlt)) jH underlying297 (Fz W) hkey);have HLen:=J (λ(W:World)(hb:E w W) ty=>World.ownsMap.len (map.same (hb.block _ hmlt):aY W 9 c.gm P.length D) underlying297 ty);have hsz:Maps.size D<=P.length:=World.ownsMap.size_le map
 have HWas:=J (λv(h1:D.atKey (gJ key) (.held nZ) = .held v)(h2:has D (gJ key)=false->v=nZ)=>show∃A n cx,v=kB A n cx bJ by
  obtain⟨A',n',c',g',e1,e2⟩:=gH.bJ hk h1 h2;rw[hw1]at e2;injection e2 with e2
  exact⟨A',n',c',e2▸e1⟩)
 have hjr:(aR bJ a).getD az=r:=by rw[hw2];rfl
 have hjs:(aR bJ a).isSome=true:=by rw[hw2];rfl
 have HEnd:Kp (∀(W5:World)(A':OA)(c':Nat),E w W5->W5.ownsRow w.heap.size 3 1 (U A' key.length c') key.length (an key)->∃W6,(Instr.mapUpdate 297 (.map (some c.gm)) (T (str (cS key))) (kB A' key.length c' r)).run prog W5 = .ok () W6/\vE c w V (P++[(key,a)]) (.returned (I 0)) W6/\W5.grownBy W6 (some c.gm)):=(λW5 A' c' hb hown=>by
  have hm5:aY W5 9 c.gm P.length D:=map.same (hb.block _ hmlt);obtain⟨W6,hrun,ho,hg⟩:=hm5.update jH underlying297 (show P.length<maxLen by unfold maxLen;omega) hkey (show mR (kB A' key.length c' r)=some (.held (kB A' key.length c' r),[])from rfl);have hz6:W5.heap.size<=W6.heap.size:=hg.size;have hb6:∀k,k<W5.heap.size->k≠c.gm->W6.heap[k]? = W5.heap[k]?:= λk hk hne=>hg.block k hk (λe=>hne (by injection e))
  have hown6:W6.ownsRow w.heap.size 3 1 (U A' key.length c') key.length (an key):=fN hown λk hk=>hb6 k (hown.lt k hk).2 (λe=>by have:=(hown.lt k hk).1;omega)
  have hfresh:∀k,cE A' (an key) k->w.heap.size<=k/\k<W6.heap.size:=λk hk=>by
   obtain⟨_,off,e⟩:=hk;subst e;exact hown6.lt k rfl
  refine⟨W6,hrun,⟨rfl,_,λk=>V k\/cE A' (an key) k,⟨⟨hg.os.trans hb.os,hg.tape.trans hb.tape,hg.output.trans hb.output,aF hb.size hz6,λk hk hn=>(hb6 k (bh hk hb.size) hn).trans (hb.block k hk)⟩,by rw[aE];exact ho,gH.put (aF hb.size hz6) (λk hv hk=>(hb6 k (bh hk hb.size) (ke k hv).2).trans (hb.block k hk)) (λk hv=> .inl hv) hk hw3 (dF hown6) (rH hown6) (λk hk=> .inr hk),λk hv=>hv.imp id (hfresh k)⟩⟩,hg⟩)
 have hb0:=(ah w.heap.size w).alloc (ae _) (.cells (aA a) 78);have HBa:=J (aa.new w 78 (aA a));have Htab:=J (λ(W:World)(hb:E w W)=>tab.under hb);have Hb0:=J hb0;have hac:¬a.c<1:=by have:=ha.ok.c;omega
 have hacd:decide (a.c<1)=false:=decide_eq_false hac;unfold Wt.T at Htab;have hwd:=hk.1;rw[<-hwd]at Htab;obtain⟨W0,hW0⟩:=e_ (w.alloc (.cells (aA a) 78))
 rw[hW0]at hb0 HBa Hb0;have aD:=(aa.cr HBa).1;obtain⟨t0,t1,t2,_,_,_⟩:=(Htab _ Hb0).three;have hgo:c.go<w.heap.size:=tab.lt;have hmo:¬c.gm=c.go:=λe=>hne e.symm
 clear tab map gH ke hr hk hga ha hf hfP hw1 hw2 hw3 hfw hkey hb0 hwd hw16;obtain⟨n,hn⟩:=e_ key.length
 rw[hn]at t0 HNm HNg HCl HEnd Htab hl16⊢;clear hn;generalize c.gm=gm at*;generalize c.go=go at*;have hnn:((n:Int) != (n:Int))=false:=s_
 have hmn:∀(W:World),(binOp .eql 297 (.map (some gm)) (.map none)).run prog W = .ok (.bool false) W:=λW=>by simp only[binOp];simp[run_equal_map_nil W _ _ _ (some gm) underlying297]
 go_in;go_wp2_with fail;refine(HNg _ ?_).mono ?_
 .exact Hb0
 rintro e1 w1⟨rfl,rfl⟩;go_wp2_with fail;apply(HNm _ Hb0).mono;rintro e2 w2⟨rfl,hb2⟩;have hs0:w.heap.size<W0.heap.size:=HBa.lt;have Hb2:=ay Hb0 hb2;have HBa2:=bu HBa hb2;clear hb2 aD t0 t1 t2;have aD:=(aa.cr HBa2).1;obtain⟨t0,t1,t2,_,_,_⟩:=(Htab _ Hb2).three;obtain⟨v,hrun,hv1,hv2⟩:=HLk _ Hb2;obtain⟨A',n',cx,rfl⟩:=HWas v hv1 hv2;clear hv1 hv2;unfold kB at hrun;have Hrun:=J hrun;have hlen2:=HLen _ Hb2;clear hrun
 go_upto_region 8 with(first
  |(at_lookup;refine Fp _ rfl (.tmp 45) (.tmp 46) _ true rfl rfl rfl Hrun ?_)|fail)
 have hb3:=Hb2.alloc Hb2.size (.cells #[U A' n' cx,I bJ.c,I bJ.s0,I bJ.n0,I bJ.x0,I bJ.s1,I bJ.n1,I bJ.x1,I bJ.s2,I bJ.n2,I bJ.x2] 89);have HBo:=J (aa.new w2 89 #[U A' n' cx,I bJ.c,I bJ.s0,I bJ.n0,I bJ.x0,I bJ.s1,I bJ.n1,I bJ.x1,I bJ.s2,I bJ.n2,I bJ.x2]);have HBa3:=J (HBa2.alloc (.cells #[U A' n' cx,I bJ.c,I bJ.s0,I bJ.n0,I bJ.x0,I bJ.s1,I bJ.n1,I bJ.x1,I bJ.s2,I bJ.n2,I bJ.x2] 89));have Hb3:=J hb3;have hs3:w.heap.size<w2.heap.size:=HBa2.lt;clear hb3;generalize hW3:w2.alloc (.cells #[U A' n' cx,I bJ.c,I bJ.s0,I bJ.n0,I bJ.x0,I bJ.s1,I bJ.n1,I bJ.x1,I bJ.s2,I bJ.n2,I bJ.x2] 89)=w3 at*;generalize has D (gJ key)=met at*;generalize hso:w2.heap.size=go2 at*;clear hlen2 HLk HNm HNg Hrun aD t0 t1 t2;clear hW3 hso;have aD:=(aa.cr HBa3).1;have oD:=aa.dk HBo;obtain⟨t0,t1,t2,_,_,_⟩:=(Htab _ Hb3).three;have hlen3:=λty=>HLen _ Hb3 ty
 generalize Maps.size D=sz at*;have hszd:decide ((500:Int)<=(sz:Int))=false:=decide_eq_false o_;obtain _|_:=met
 case' false=>
  apply wp_region_noPanic;refine br (t:=99) (S:=(λw'=>C w' go 1 (I 500)/\C w' go 2 (.map (some gm))/\∀ty,(Builtin.len_ #[297] ty #[.map (some gm)]).run prog w' = .ok (N sz) w')) k_ ⟨t1,t2,λty=>HLen _ Hb3.drew ty⟩ (λhHeld=> ?_);apply tD 0 1 2 3 hHeld;apply tD 4 5 6 7 hHeld;apply tD 8 9 10 11 hHeld;apply tB 12 13 hHeld;refine bQ k_ ?_ _
  try clear hHeld
  apply NoPanic.normal;have hb4:=Hb3.drew;have HBo4:=J (HBo.under (ah _ _).drew);have HBa4:=J (HBa3.under (ah _ _).drew);have Hb4:=J hb4;clear hb4;generalize w3.drew=w4 at*
 case' true=>
  go_quiet (fail)
  have HBo4:=J (HBo.drewN nq);have HBa4:=J (HBa3.drewN nq);have Hb4:=J (below_drewN Hb3 nq);generalize w3.drewN nq=w4 at*
 all_goals
  clear aD oD t0 t1 t2 hlen3 hszd HBo HBa3 Hb3 HBa HBa2 Hb2 HWas HLen;have aD:=(aa.cr HBa4).1;have oD:=aa.dk HBo4;have hgol:go<w4.heap.size:=bh hgo Hb4.size;go_wp2_with fail;apply(HJ _).mono;rintro e5 w5⟨rfl,hb5⟩;rw[hjr,hjs];have hs5:=hb5.size;have hb6:=(Hb4.trans (hb5.mono Hb4.size)).alloc (by have:=Hb4.size;omega) (.cells (aA r) 78);have HBr:=J (aa.new w5 78 (aA r));have Hb6:=J hb6;have hs6:w.heap.size<=w5.heap.size:=aF Hb4.size hs5;clear hb5 hb6 aD oD;go_upto_region 13 with fail
  have hw5z:w.heap.size<=(w5.alloc (.cells (aA r) 78)).heap.size:=Hb6.size;have hr6:w5.heap.size<(w5.alloc (.cells (aA r) 78)).heap.size:=HBr.lt;generalize hW6:w5.alloc (.cells (aA r) 78)=w6 at*;generalize hgr:w5.heap.size=gr at*;clear hW6 hgr HBo4 HBa4;have hgo6:go<w6.heap.size:=bh hgo hw5z;have Hb6d:=J Hb6.drew;have HBd:Kp (aa w6.drew gr 78 (aA r)):=HBr.under (ah _ _).drew;have hzd:w6.drew.heap.size=w6.heap.size:=rfl;have Hsz:=J hzd;clear hzd;apply wp_region_noPanic;refine br (t:=9) (S:=(λw'=>C w' go 2 (.map (some gm))/\gZ w' gr r)) k_ ⟨(Htab _ Hb6d).cell 2,(aa.cr HBd).1⟩ (λhHeld=> ?_);generalize w6.drew=wd at*;apply tD 0 1 2 3 hHeld;apply eR 4 5 7 hHeld;refine oT 6 (λK hK=> ?_)
  go_simp
  apply(HCl _ Hb6d).mono;rintro e7 w7⟨v7,rfl,hown7,hb7⟩;obtain⟨A7,c7,rfl⟩:=bY hown7;have Hown7:=J hown7;have Hb7:=J hb7;clear hown7 hb7
  try go_simp
  refine oK hK ?_ (λhHeld2=> ?_)
  .exact⟨(Htab _ (Hb6d.trans (Hb7.mono Hb6d.size))).cell 2,(aa.cr (HBd.under Hb7)).1⟩
  clear hK K hHeld;have hHeld:=hHeld2;clear hHeld2;apply tk 8 hHeld;obtain⟨w8,hrun,hput,hgb⟩:=HEnd w7 A7 c7 (Hb6d.trans (Hb7.mono Hb6d.size)) (dZ Hown7 Hb6d.size);unfold kB at hrun;have Hput:=J hput;have Hrun:=J hrun;clear hput hgb hrun;refine fC k_ (by first|exact g_|rfl) k_ (λK hK=> ?_)
  go_simp
  rw[Hrun.o]
  go_simp
  apply hK.out _ _;clear hK K hHeld;apply NoPanic.normal
  try simp only[Act.put,setIfInBounds_toArray,set_cons_zero,set_cons_succ]
  clear HEnd Hrun HCl Htab;generalize vE c w V (P++[(key,a)])=Q at*;go_wp2_with fail;exact Hput
end Tc
end Go.Proofs.YtibjlpkpljnicaaGreatDoor
