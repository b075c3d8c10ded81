/- Parts. -/
import Derived.Test.YtibjlpkpljnicaaGreatDoorR34
import Derived.Test.YtibjlpkpljnicaaGreatDoorR36
import Derived.Laws.Cover3
set_option maxRecDepth 100000
set_option maxHeartbeats 8000000
set_option linter.all false
namespace Go.Proofs.YtibjlpkpljnicaaGreatDoor
namespace Tc
open List Go.RowKit Base Go.Maps Go.WideMaps Crc Go.Proofs.YtibjlpkpljnicaaGreatDoor.Nm Go.Proofs.Tryz
def jJ(l:LN):LV:=l.map λ(k:Nat)=> .int .u64 (k:Int)
def QU(l:LN)(k:Nat):jJ (l++[k])=jJ l++[.int .u64 (k:Int)]:=by unfold jJ;simp
def JF(l:LN)(k:Nat):cS (l++[k])=cS l++bX k:=by unfold cS;simp
def xl(l:LN):(cS l).length<=9*l.length:=by
 induction l with
 |nil=>exact ae _
 |cons a l b=>
  have h1:=j6 a;have h2:=(j7 a).2;show(bX a++cS l).length<=9*(l.length+1);rw[aE];omega
def LU(A:OA)(c:Nat)(l:LN)(w:World)(F:Row w w.heap.size A (jJ l))(C:∀x∈l,x<200)(G:l.length<=1000) :
 Calls prog 326 #[U A l.length c] w (ir (str (cS l)) w):=by
 obtain⟨M,X,O⟩:=j3_ uf F C;obtain⟨n,q⟩:=e_ l.length;have B:=J q;rw[q]at G⊢;have W:Kp (∀w',E w _->ir (str (cS l)) w _ w'):=λw' h=>⟨rfl,h⟩;generalize I:ir _ w=Q at*;clear F C q I;go_in;go_wp2;go_loopw [3,8] (λL y wr=>∃k:Nat,k<=n/\y = N k/\L = T (str (cS (l.take k)))/\E w wr) (λ_ y _=>n-(intOf y).toNat)
 case atStart=>exact⟨0,o_,rfl,rfl,bR⟩
 .obtain⟨k,hk,rfl,rfl,m⟩:=hrel;have f:=J m;clear m;by_cases u:k<n
  .have d:k<l.length:=by rw[B];omega
   obtain⟨b,off,rfl,R,x0⟩:=Row.at_ (X.below f) (by unfold jJ;rw[lM];exact d);have hx:(jJ l)[k]'(by unfold jJ;rw[lM];exact d) = .int .u64 (l[k]:Nat):=by unfold jJ;rw[getElem_map]
   rw[hx]at x0;have D:=O _ (gM d);have p:=J (show str (cS (l.take _))=str (cS (l.take k))++dQ l[k] by rw[take_succ_eq_append_getElem,JF,<-lS];rfl);have Y:(str (cS (l.take k))).size<=9000:=by
    rw[dR];have:=xl (l.take k);rw[length_take]at this;omega
   have H:=kF l[k];have v:=J (M l[k] wr o_);clear hx R;generalize l[k]=z at*;clear d;generalize str (cS (l.take k))=s at*;have u:¬9223372036854775807<s.size+(dQ z).size:=o_;go_wp2_with fail;apply v.mono;rintro e Z⟨rfl,g⟩;have r:=ay f g;clear g;go_wp2;exact⟨⟨k+1,o_,o_,by rw[p],r⟩,o_⟩
  .obtain rfl:k=n:=o_;rw[show l.take k=l by rw[<-B,take_length]];have V:=J (W _ f);generalize str _=s at*;go_wp2;exact V
def OQ(A:OA)(c:Nat)(l:LN)(w:World)(hr:Row w w.heap.size A (an l))(O:∀x∈l,x<200)(Z:l.length<=1000) :
 Calls prog 291 #[U A l.length c] w (ir (str (cS l)) w):=by
 obtain⟨V,H,G,W,D⟩:=info_parts BM;have HR:=J (λA c w(h:Row w _ A _)=>LU A c l w h O Z);have Hr:=J hr;have z:=J O;obtain⟨n,L⟩:=e_ l.length;have y:=J L;rw[L]at Z HR⊢;have HQ:Kp (∀w',E w _->ir (str (cS l)) w _ w'):=λw' h=>⟨rfl,h⟩;generalize u:ir _ w=Q at*;clear hr O L u;go_in;go_wp2;go_loopw [3,8] (λu X wr=>∃(k:Nat)(v:OA)(C:Nat),k<=n/\X = N k/\u = U v k C/\wr.ownsRow w.heap.size 284 1 (U v k C) k (jJ (l.take k))/\E w wr) (λ_ X _=>n-(intOf X).toNat)
 case atStart=>exact⟨0,_,0,o_,rfl,rfl,cK _ _ _ _,bR⟩
 .obtain⟨k,v,C,hk,rfl,rfl,q,B⟩:=hrel;have f:=J B;have g:=J q;clear B q;by_cases M:k<n
  .have m:k<l.length:=by rw[y];omega
   obtain⟨b,off,rfl,u,x0⟩:=Row.at_ (Hr.below f) (by unfold an;rw[lM];exact m);have hx:(an l)[k]'(by unfold an;rw[lM];exact m) = I (l[k]:Nat):=by unfold an;rw[getElem_map]
   rw[hx]at x0;have L:=z _ (gM m);have F:=J (show jJ (l.take _)=jJ (l.take k)++[.int _ (l[k]:Nat)] by rw[take_succ_eq_append_getElem,QU]);clear hx u;generalize l[k]=z at*;clear m;have u:IntKind.u64.wrap z=z:=by rw[IntKind.wrap_u64];omega
   have R:k<1048576*64:=o_;go_wp2_with(at_builtin;apply iP rfl _ _ _ rfl _ 284 V _ 8 underlying269 H G W D rfl _ _ rfl (U v k C) k _ rfl g rfl R d_ f.size;intro u u d p;obtain⟨z,D,u⟩:=bY d;subst u;have u:=J d;have V:=J (p.below f g o_ f.size);clear d p);exact⟨⟨_,z,D,o_,o_,rfl,by rw[F];exact u,V⟩,o_⟩
  .obtain rfl:k=n:=o_;have r:Row wr wr.heap.size v (jJ l):=by
    have:=dF g;rwa[show l.take k=l by rw[<-y,take_length]]at this
   have Y:=J (HR v C _ r);clear r;go_wp2_with fail;apply Y.mono;rintro e u⟨rfl,y⟩;have u:=J (HQ _ (f.trans (y.mono f.size)));clear y;generalize str _=s at*;go_wp2;exact u
def Lp(k:Nat)(w:World):Calls prog 289 #[N k] w λe w'=>e = .returned (.bool false)/\w=w':=by
 have h:decide ((k:Int)<0)=false:=o_;go_in;go_wp2;go_ret;simp
def Lr:∀(args:AV)(w:World),(callFunc 289 args).run prog w = .ok (.enter 289 args) w:=by
 simp
def LL(A:OA)(c:Nat)(l:LN)(w:World)(p:Row w w.heap.size A (an l))(q:l.length<=1000) :
 Calls prog 325 #[U A l.length c,.func (.func 289) #[] #[]] w λe w'=>e = .returned (I (-1))/\w=w':=by
 have B:=Lr;have s:=J Lp;have v:=J p;obtain⟨n,g⟩:=e_ l.length;have x:=J g;rw[g]at q⊢;clear p g;go_in;go_wp2;go_loopw [8] (λm wr=>∃k:Nat,k<=n/\m = N k/\w=wr) (λm wr=>n-(intOf m).toNat)
 case atStart=>grind
 .obtain⟨k,hk,rfl,rfl⟩:=hrel;by_cases f:k<n
  .have d:k<l.length:=by rw[x];omega
   obtain⟨b,off,rfl,u,x0⟩:=Row.at_ v (by unfold an;rw[lM];exact d);have hx:(an l)[k]'(by unfold an;rw[lM];exact d) = I (l[k]:Nat):=by unfold an;rw[getElem_map]
   rw[hx]at x0;clear hx u;generalize l[k]=z at*;clear d;have y:0<=(k:Int):=o_;have r:k<(n:Int):=o_;go_wp2_with fail;apply(s _ _).mono;rintro e w'⟨rfl,rfl⟩;go_wp2;exact⟨⟨k+1,o_,o_,trivial⟩,o_⟩
  .obtain rfl:k=n:=o_;go_wp2;go_ret;simp
def LM(A:OA)(c:Nat)(l:LN)(w:World)(d:Row w w.heap.size A (an l))(b:l.length<=1000) :
 Calls prog 290 #[U A l.length c,.func (.func 289) #[] #[]] w λe w'=>e = .returned (.bool false)/\w=w':=by
 have f:=J (LL A c l w d b);clear d b;generalize l.length=n at*;go_in;go_wp2_with fail;apply f.mono;rintro e w'⟨rfl,rfl⟩;go_wp2;go_ret;simp
def Fp{P:Program}(w:World){d:Array Oper}{b:List Oper}{o:Oper}{a:Act}{Q:Exit->Act->World->Prop}(p:o.guard=none)(m x:Operand)(ty:TypeId)(ok:Bool)(f:o.op=Op.lookup ty m x ok)
 {mv g v:Value}(n:a.eval m=mv)(hx:a.eval x=g)(c:(Instr.lookup ty mv g ok).run P w = .ok v w)(hK:wpList P d Q b (a.put o.dst v) w):wpList P d Q (o::b) a w:=by
 refine wpList_plain p λq e=> ?_;unfold Oper.wp;simp[execOp,f,n,hx,c];exact e _ _ hK
def Fz(w:World):(zeroValue 89).run prog w = .ok nZ w:=k_
def vE(c:Wt)(w:World)(V:Nat->Prop)(f:List (LN×Ag))(e:Ending)(w':World):Prop:=e = .returned (I 0)/\∃b d,zB c w w' V b f d
def P7{c:Wt}{w:World}{D:DataW Value}{P:List (LN×Ag)}{V:Nat->Prop}{m:Nat}(A:OA)(cc:Nat)(key:LN)(a:Ag)(tab:aa w c.go 299 c.T)(map:aY w 9 c.gm P.length D)(gH:fV w D P c.wd V)(ke:∀k,V k->k<w.heap.size/\k≠c.gm)
 (hr:Row w w.heap.size A (an key))(hk:lz c.wd key)(b0:c.wd<=16)(hP:P.length<=60)(d5:∀x∈P,GA m 2560 x.2)(ha:GA m 2560 a)(hf:cB a)(e3:∀x∈P,cB x.2)(b9:c.go≠c.gm) :
 Calls prog 248 #[Y c.go 0,U A key.length cc,.agg (aA a)] w (vE c w V (P++[(key,a)])):=by
 obtain⟨bJ,r,b7,b5,f5⟩:=Qw d5 hP ha
 have f4:=xq _ _ _ re (λx hx=>r_) b7
 have f2:key.length<=16:=by rw[hk.1];omega
 have a5:keyOf _ 9 (T (str (cS _)))=some (gJ key):=keyOf_string_mk underlying9 (by rw[dR];have:=xl key;unfold maxLen;omega);have b6:=J (λW(g:E w W)=>OQ A cc _ W ((hr.below g).more g.size) hk.2 o_);have d1:=J (λW(g:E w W)=>LM A cc _ W ((hr.below g).more g.size) o_);have d2:=J (λW(g:E w W)=>qW A cc _ W o_ ((hr.below g).more g.size));have HJ:=J (λW=>xt _ a W f4 hf);have a1:c.gm<w.heap.size:=by
  obtain⟨es,cl,h1,_⟩:=map;grind
 have g4:=J (λW(g:E w W)=>aY.look (map.same (g.block _ a1)) jH underlying297 (Fz W) a5);have G:=J (λW(g:E w W) ty=>World.ownsMap.len (map.same (g.block _ a1)) underlying297 ty);have k7:=World.ownsMap.size_le map
 have b2:=J (λv h1(h2:has D _=false->v=nZ)=>show∃A n cx,v=kB A n cx bJ by
  obtain⟨u,n',c',g',e1,e2⟩:=gH.bJ hk h1 h2;rw[b7]at e2;grind)
 have g9:(aR bJ a).getD az=r:=r_
 have h8:(aR bJ a).isSome=true:=r_
 have a4:Kp (∀ W5(u:OA) c',E w W5->W5.ownsRow w.heap.size 3 1 (U u _ _) _ _->∃W6,(Instr.mapUpdate 297 _ _ _).run _ _ = .ok _ _/\vE c w V _ _ _/\W5.grownBy W6 _):=(λW5 u c' g a3=>by
  have h7:=map.same (g.block _ a1);obtain⟨W6,f,ho,hg⟩:=h7.update jH underlying297 (by unfold maxLen;omega) a5 (show mR (kB u key.length c' r)=some _ from rfl);have e6:=hg.size;have M:∀k,k<W5.heap.size->k≠c.gm->W6.heap[k]? = W5.heap[k]?:= λk hk b9=>hg.block k hk (λe=>b9 r_)
  have s:=fN a3 λk hk=>M k (a3.lt k hk).2 (λe=>by have:=(a3.lt k hk).1;omega)
  have a8:∀k,cE u (an key) k->w.heap.size<=k/\k<W6.heap.size:=λk hk=>by
   obtain⟨_,off,e⟩:=hk;subst e;exact s.lt k rfl
  refine⟨_,f,⟨rfl,_,λk=>V k\/cE u _ k,⟨⟨hg.os.trans g.os,hg.tape.trans g.tape,hg.output.trans g.output,aF g.size e6,λk hk hn=>(M k (bh hk g.size) hn).trans (g.block k hk)⟩,o_,gH.put (aF g.size e6) (λk hv hk=>(M k (bh hk g.size) (ke k hv).2).trans (g.block k hk)) (λk hv=> .inl hv) hk f5 (dF s) (rH s) (λk hk=> .inr hk),λk hv=>hv.imp id (a8 k)⟩⟩,hg⟩)
 have c8:=(ah _ w).alloc (ae _) (.cells (aA a) 78);have Z:=J (aa.new w 78 (aA a));have d:=J (λW(g:E w W)=>tab.under g);have a0:=J c8;have i0:¬a.c<1:=by have:=ha.ok.c;omega
 have i8:=decide_eq_false i0;unfold Wt.T at d;have g3:=hk.1;rw[<-g3]at d;obtain⟨W0,h4⟩:=e_ (w.alloc (.cells (aA a) 78))
 rw[h4]at c8 Z a0;have aD:=(aa.cr Z).1;obtain⟨t0,t1,t2,_,_,_⟩:=(d _ a0).three;have e8:=tab.lt
 clear tab map gH ke hr hk d5 ha hf e3 b7 b5 f5 f4 a5 c8 g3 b0;obtain⟨n,hn⟩:=e_ key.length
 rw[hn]at t0 b6 d1 d2 a4 d f2⊢;clear hn;generalize c.gm=gm at*;generalize c.go=go at*
 have l7:∀ W,(binOp .eql 297 (.map (some gm)) (.map none)).run prog W = .ok _ W:=λW=>o_
 go_in;go_wp2_with fail;refine(d1 _ ?_).mono ?_
 .exact a0
 rintro e1 w1⟨rfl,rfl⟩;go_wp2_with fail;apply(b6 _ a0).mono;rintro e2 w2⟨rfl,c5⟩;have L:=ay a0 c5;have F:=bu Z c5;clear c5 aD t0 t1 t2;obtain⟨t0,t1,t2,_,_,_⟩:=(d _ L).three;obtain⟨v,f,e4,e0⟩:=g4 _ L;obtain⟨u,n',cx,rfl⟩:=b2 v e4 e0;clear e4 e0;unfold kB at f;have q:=J f;clear f
 go_upto_region 8 with(first
  |(at_lookup;refine Fp _ rfl _ _ _ _ rfl rfl rfl q ?_)|fail)
 have f1:=L.alloc L.size (.cells #[U u n' cx,I bJ.c,I bJ.s0,I bJ.n0,I bJ.x0,I bJ.s1,I bJ.n1,I bJ.x1,I bJ.s2,I bJ.n2,I bJ.x2] 89);have a6:=J (aa.new w2 89 #[U u n' cx,I bJ.c,I bJ.s0,I bJ.n0,I bJ.x0,I bJ.s1,I bJ.n1,I bJ.x1,I bJ.s2,I bJ.n2,I bJ.x2]);have H:=J (F.alloc (.cells #[U u n' cx,I bJ.c,I bJ.s0,I bJ.n0,I bJ.x0,I bJ.s1,I bJ.n1,I bJ.x1,I bJ.s2,I bJ.n2,I bJ.x2] 89));have R:=J f1;clear f1;generalize h9:w2.alloc _=w3 at*;generalize has D _=met at*;generalize h3:w2.heap.size=j0 at*;clear g4 b6 d1 q t0 t1 t2;clear h9 h3;obtain⟨t0,t1,t2,_,_,_⟩:=(d _ R).three
 generalize Maps.size D=sz at*;have d8:decide (500<=(sz:Int))=false:=o_;obtain _|_:=met
 case' false=>
  apply wp_region_noPanic;refine br (t:=99) (S:=(λw'=>C w' _ 1 (I _)/\C w' _ 2 _/\∀ty,(Builtin.len_ #[297] ty _).run _ w' = .ok (N _) w')) k_ ⟨t1,t2,λty=>G _ R.drew _⟩ (λb=> ?_);apply tD 0 1 2 3 b;apply tD 4 5 6 7 b;apply tD 8 9 10 11 b;apply tB 12 13 b;refine bQ k_ ?_ _
  try clear b
  apply NoPanic.normal;have f0:=R.drew;have a2:=J (a6.under bR.drew);have X:=J (H.under bR.drew);have O:=J f0;clear f0;generalize w3.drew=w4 at*
 case' true=>
  go_quiet (fail)
  have a2:=J (a6.drewN nq);have X:=J (H.drewN nq);have O:=J (below_drewN R nq);generalize w3.drewN _=w4 at*
 all_goals
  clear t0 t1 t2 d8 a6 H R Z F L b2 G;have aD:=(aa.cr X).1;have oD:=aa.dk a2;have i3:=bh e8 O.size;go_wp2_with fail;apply(HJ _).mono;rintro e5 w5⟨rfl,c4⟩;rw[g9,h8];have h5:=c4.size;have M:=(O.trans (c4.mono O.size)).alloc (by have:=O.size;omega) (.cells (aA r) 78);have d7:=J (aa.new w5 78 (aA r));have g0:=J M;have k2:=aF O.size h5;clear c4 M aD oD;go_upto_region 13 with fail
  have f7:=g0.size;have k6:=d7.lt;generalize h0:w5.alloc _=w6 at*;generalize i2:w5.heap.size=gr at*;clear h0 i2 a2 X;have i6:=bh e8 f7;have p:=J g0.drew;have e9:Kp (aa _ _ _ _):=d7.under bR.drew;have f3:w6.drew.heap.size=w6.heap.size:=rfl;have j2:=J f3;clear f3;apply wp_region_noPanic;refine br (t:=9) (S:=(λw'=>C w' _ 2 (.map _)/\gZ w' _ r)) k_ ⟨(d _ p).cell 2,(aa.cr e9).1⟩ (λb=> ?_);generalize w6.drew=wd at*;apply tD 0 1 2 3 b;apply eR 4 5 7 b;refine oT 6 (λK hK=> ?_)
  go_simp
  apply(d2 _ p).mono;rintro e7 w7⟨v7,rfl,z,f9⟩;obtain⟨A7,c7,rfl⟩:=bY z;have c9:=J z;have b8:=J f9;clear z f9
  try go_simp
  refine oK hK ?_ (λB=> ?_)
  .exact⟨(d _ (p.trans (b8.mono p.size))).cell 2,(aa.cr (e9.under b8)).1⟩
  clear hK K b;have b:=B;clear B;apply tk 8 b;obtain⟨w8,f,b1,i1⟩:=a4 _ _ _ (p.trans (b8.mono p.size)) (dZ c9 p.size);unfold kB at f;have d9:=J b1;have q:=J f;clear b1 i1 f;refine fC k_ (by first|exact g_|rfl) k_ (λK hK=> ?_)
  go_simp
  rw[q]
  go_simp
  apply hK.out _ _;clear hK K b;apply NoPanic.normal
  try simp only[Act.put,setIfInBounds_toArray,set_cons_zero,set_cons_succ]
  clear a4 q d2 d;generalize vE c w V _=Q at*;go_wp2;exact d9
end Tc
end Go.Proofs.YtibjlpkpljnicaaGreatDoor
