/- Parts of a proof. -/
import Derived.Test.YtibjlpkpljnicaaGreatDoorL34
import Derived.Test.YtibjlpkpljnicaaGreatDoorL44
import Derived.Test.YtibjlpkpljnicaaGreatDoorL46
set_option maxRecDepth 100000
set_option maxHeartbeats 8000000
set_option linter.all false
namespace Go.Proofs.YtibjlpkpljnicaaGreatDoor
namespace Tc
open List Go.RowKit Base Go.Maps Go.WideMaps Crc Pg Txt Go.Proofs.YtibjlpkpljnicaaGreatDoor.Nm Go.Proofs.Tryz
section
structure zv(b:List UInt8)(A:OA)(ys:List Fa)(m:Nat)(p:aQ)(x:Nat):Prop where
 at_:∃r,b.drop x=(bX (jv (decide (p.aj+1=ys.length)) m p).length++jv (decide (p.aj+1=ys.length)) m p)++r
 rd:∀w,cG w w.heap.size A ys->sD (jv (decide (p.aj+1=ys.length)) m p) w.heap.size A m ys p w
 n1:1<=ys.length
 n16:ys.length<=16
 aj:p.aj<ys.length
 sm:p.lists.length<=4/\∀l∈p.lists,l.length<=1000
 back:p.aj+1=ys.length\/∀c∈cR p,c.child<x
def fi(c:dd)(A:OA)(ys:List Fa)(w:World)(F:Nat->Prop):Prop:=∃F0,eU c w F0/\cG w w.heap.size A ys/\(∀k,cz A ys k->¬F0 k)/\F=λk=>F0 k\/cz A ys k
def eU.lt{c:dd}{w:World}{F:Nat->Prop}(h:eU c w F){k:Nat}(hk:F k):k<w.heap.size:=by
 obtain⟨r,fe,kv,os,D,n,hh,m,d,rfl⟩:=h;exact d.fY hk
def eU.same{c:dd}{w w':World}{F:Nat->Prop}(h:eU c w F)(hs:∀k,F k->w'.heap[k]? = w.heap[k]?):eU c w' F:=by
 obtain⟨r,fe,kv,os,D,n,hh,m,d,rfl⟩:=h;exact⟨r,fe,kv,os,D,n,hh,m,d.same hs,rfl⟩
def fi.ok(c:dd)(A:OA)(ys:List Fa):qK (fi c A ys):=by
 refine⟨λw F hF k hk=> ?_,λw w' F hF hz hs=> ?_⟩
 .obtain⟨F0,h1,h2,h3,rfl⟩:=hF;obtain hk|hk:=hk
  .exact h1.lt hk
  .exact h2.bU hk
 .obtain⟨F0,h1,h2,h3,rfl⟩:=hF;exact⟨F0,h1.same λk hk=>hs k (.inl hk),(h2.same λk hk=>hs k (.inr hk)).more hz,h3,rfl⟩
section
variable{c:dd}{w:World}{F:Nat->Prop}
def Ej(A:OA)(nx cx m:Nat)(hI:eU c w F)(ok:c.Ok){at_ k:Nat}(hk:at_+k<=c.b.length) :
 Calls prog 116 #[.agg #[Y c.gp 0,U A nx cx,N m],N at_,N k] w (nQ c F (.tuple #[T (str ((c.b.drop at_).take k)),I 0]) w):=by
 have hb:=(ah w.heap.size w).alloc (ae _) (.cells #[Y c.gp 0,U A nx cx,N m] 120);have HB:=J (aa.new w 120 #[Y c.gp 0,U A nx cx,N m]);have HC:=J (Ng (hI.below hb) ok hk);have M0:=J ((Mv.start F w).below hb);obtain⟨b0,b1,b2,_⟩:=HB.three;clear hI ok hk hb;generalize str ((c.b.drop at_).take k)=t at*;generalize hW1:w.alloc (.cells #[Y c.gp 0,U A nx cx,N m] 120)=w1 at*;go_in;go_wp2_with fail;apply HC.mono;rintro e w2⟨rfl,F2,i2,m2⟩;have I2:=J i2;have M2:=J (M0.trans m2);clear i2 m2;go_wp2_with fail;go_ret2;exact⟨rfl,F2,I2,M2⟩
def OT(w:World)(a b d e f g:Value):(Instr.field 122 (.agg #[a,b,d,e,f,g]) 4).run prog w = .ok f w:=by
 simp[Instr.field,asAgg,go_sem]
attribute [local go_sem] OT
def LG{n:Nd}:n.ls.flatMap Ll.cs++[n.all]=cR (aK n):=by unfold cR aK;simp[flatMap_def]
def rC{B:Nat}{n:Nd}(h:gW B n){k:Nat}(hk:mE n k):B<=k:=by
 obtain⟨h1,off,e⟩|⟨l,hl,h1,off,e⟩:=hk
 .exact h.1 k off e h1
 .exact h.2 l hl k off e h1
def NG{A:OA}{ys:List Fa}{cx m:Nat}{p:aQ}{x:Nat}(hI:fi c A ys w F)(ok:c.Ok)(hb:zv c.b A ys m p x) :
 Calls prog 48 #[.agg #[Y c.gp 0,U A ys.length cx,.int .i64 (m:Nat)],.int .i64 (x:Nat)] w (nP p (fi c A ys) F w):=by
 obtain⟨F0,hI,hys,hdj,rfl⟩:=hI;obtain⟨r,hat⟩:=hb.at_;obtain⟨S,hS⟩:=e_ (jv (decide (p.aj+1=ys.length)) m p)
 rw[hS]at hat;obtain⟨L,hL⟩:=e_ S.length
 have hz:=j7 L;have hlen:=congrArg length hat;rw[length_drop,aE,aE,j6,hL]at hlen;have hbl:=ok.sO;obtain⟨nb,hnb⟩:=e_ c.b.length
 rw[hnb]at hlen hbl;obtain⟨k1,hk1⟩:=e_ (min 9 (nb-x))
 have ht1:bl (str ((c.b.drop x).take k1))=bX L++(S++r).take (k1-aM L):=by
  show(c.b.drop x).take k1=_;rw[hat,hL,append_assoc,take_append,j6,take_of_length_le (by rw[j6];omega)]
 have ht2:(c.b.drop x).take (L+aM L)=bX S.length++S:=by
  rw[hat,take_left' (by rw[aE,j6,hL];omega)]
 have HCz:=J (λW=>AU (str ((c.b.drop x).take k1)) L ((S++r).take (k1-aM L)) W ht1 o_ (by rw[dR,length_take];omega));have HB1:=J (λW F1(h1:eU c W F1)=>Ej A ys.length cx m h1 ok (at_:=x) (k:=k1) o_);have HB2:=J (λW F1(h1:eU c W F1)=>by have:=Ej A ys.length cx m h1 ok (at_:=x) (k:=L+aM L) o_;rw[ht2]at this;exact this);have HTk:=J (λW(h1:cG W W.heap.size A ys)=>by have:=Iw S A cx m ys p W hS.symm (hS▸hb.rd W h1) hb.n1;exact this)
 have HRt:Kp (∀W,E w W->Calls prog 47 #[Y c.gp 0] W (R_ (.agg #[.int .i64 c.rg,.int .i64 c.rp,.int .i64 c.rm,.int .i64 1,.int .i64 (nb:Nat),.int .i64 c.rt]) W)):=(λW hW=>by
  obtain⟨r1,fe,kv,os,D,n,hh,mm,d,_⟩:=hI.below hW;have:=Dz d;rw[hnb]at this
  exact this)
 have HI:=J (λW(hW:E w W)=>hI.below hW);have Hlt:=J (λk=>eU.lt hI (k:=k));have hq1:IntKind.i64.wrap ((nb:Int)-(x:Int))=((nb-x:Nat):Int):=by rw[IntWalk.i64_in _ o_];omega
 have hq2:max ((nb-x:Nat):Int) 1=((nb-x:Nat):Int):=o_
 have hq3:min (9:Int) ((nb-x:Nat):Int)=(k1:Int):=o_
 have hb0:=(ah w.heap.size w).alloc (ae _) (.cells #[Y c.gp 0,U A ys.length cx,.int .i64 (m:Nat)] 120);have HP0:=J ((aa.new w 120 #[Y c.gp 0,U A ys.length cx,.int .i64 (m:Nat)]).alloc (.cells zN 157));have HR0:=J (aa.lay (w:=w.alloc (.cells #[Y c.gp 0,U A ys.length cx,.int .i64 (m:Nat)] 120)) (g:=w.heap.size+1) (t:=157) (cs:=zN) s_);have Hb0:=J (hb0.alloc hb0.size (.cells zN 157));obtain⟨t1,hT1⟩:=e_ (str ((c.b.drop x).take k1))
 obtain⟨t2,hT2⟩:=e_ (str (bX S.length++S))
 rw[hT1]at HCz HB1;rw[hT2]at HB2 HTk;have Hys:=J hys;have Hdj:=J hdj;have Hsm:=J hb.sm;have Hbk:=J hb.back;have Hdm:=J (And.intro hb.n1 (And.intro hb.n16 hb.aj));rw[hL]at HTk;obtain⟨nx,hnx⟩:=e_ ys.length
 rw[hnx]at HB1 HB2 HTk HP0 HR0 Hb0 Hbk Hdm⊢;clear hI hys hdj hb hat hS hL hz hlen hbl hnb hk1 ht1 ht2 hT1 hT2 hb0 ok hnx;generalize L+aM L=N at*;obtain⟨gq,hgq⟩:=e_ w.heap.size
 have Hgq:=J hgq;rw[hgq]at HP0 HR0;generalize hW0:(w.alloc (.cells #[Y c.gp 0,U A nx cx,.int .i64 (m:Nat)] 120)).alloc (.cells zN 157)=W0 at*;obtain⟨b0,b1,b2,_⟩:=HP0.three;have Hng:Kp (∀k,F0 k->k<gq):=(λk hk=>by rw[<-Hgq.o];exact Hlt k hk);obtain⟨wA,rfl⟩:∃wA,wA=w:=⟨w,rfl⟩
 go_in;go_upto_region 1 with fail
 clear hW0;apply wp_region_noPanic;refine br (t:=99) (S:=(λw'=>C w' gq 0 (Y c.gp 0)/\C w' gq 1 (U A nx cx)/\C w' gq 2 (.int .i64 (m:Nat)))) k_ ⟨b0,b1,b2⟩ (λhHeld=> ?_);have Hbd:=J (Hb0.trans ((ah W0.heap.size W0).drew.mono Hb0.size));have HPd:=J (HP0.under (ah W0.heap.size W0).drew);have HRd:=J (HR0.under (ah W0.heap.size W0).drew);generalize W0.drew=wd at*;apply tD 0 1 2 3 hHeld;apply tk 6 hHeld;refine oT 4 (λK hK=> ?_)
 go_simp
 apply(HRt wd Hbd).mono;rintro e w2⟨rfl,hb2⟩;have Hb2:=ay Hbd hb2;have HP2:=bu HPd hb2;have HR2:=bu HRd hb2;clear hb2
 try go_simp
 refine oK hK ?_ (λhHeld2=> ?_)
 .exact⟨HP2.cell 0,HP2.cell 1,HP2.cell 2⟩
 clear hK K hHeld;have hHeld:=hHeld2;clear hHeld2;apply tD 5 7 8 9 hHeld;refine oT 10 (λK hK=> ?_)
 go_simp
 apply(HB1 w2 F0 (HI w2 Hb2)).mono;rintro e w3⟨rfl,F3,i3,m3⟩;have I3:=J i3;have M3:=J (((Mv.start F0 wA).below Hb2).trans m3);have HP3:=J (m3.box HP2 (λe=>Nat.lt_irrefl _ (Hng _ e))).1;have HR3:=J (m3.box HR2 (λe=>by have:=Hng _ e;omega)).1;have HN3:=J (And.intro (m3.box HP2 (λe=>Nat.lt_irrefl _ (Hng _ e))).2 (m3.box HR2 (λe=>by have:=Hng _ e;omega)).2);clear i3 m3
 try go_simp
 refine oK hK ?_ (λhHeld2=> ?_)
 .exact⟨HP3.cell 0,HP3.cell 1,HP3.cell 2⟩
 clear hK K hHeld;have hHeld:=hHeld2;clear hHeld2;apply tD 11 12 13 14 hHeld;apply tk 15 hHeld;refine bQ k_ ?_ _
 try clear hHeld
 apply NoPanic.normal;clear HPd HRd Hbd HP2 HR2 Hb2 HP0 HR0 Hb0 b0 b1 b2 hq1 hq2 hq3 HB1 HRt;go_wp2_with fail;apply(HCz _).mono;rintro e w4⟨rfl,hb4⟩;have I4:=J (I3.below hb4);have M4:=J (M3.below hb4);have HP4:=bu HP3 hb4;have HR4:=bu HR3 hb4;obtain⟨b0,b1,b2,_⟩:=HP4.three;clear hb4 HP3 HR3 I3 M3 HCz;go_wp2_with fail;apply(HB2 w4 F3 I4).mono;rintro e w5⟨rfl,F5,i5,m5⟩;have I5:=J i5;have M5:=J (M4.trans m5);have HP5:=J (m5.box HP4 HN3.1).1;have HR5:=J (m5.box HR4 HN3.2).1;have HN5:=J (m5.box HR4 HN3.2).2;have HT5:=J (HTk w5 ((Hys.same λk hk=>M5.still (Hys.bU hk) (Hdj k hk)).more M5.ax.size));clear i5 m5 b0 b1 b2 HP4 HR4 HN3 I4 M4 HB2 HTk HI;obtain⟨b0,b1,b2,_⟩:=HP5.three;go_wp2_with fail;apply HT5.mono;rintro e w6⟨nd,rfl,hp,hat,hfr,hcp,hb6⟩;have hcl:=LG (n:=nd);rw[hp]at hcl;have hls:nd.ls.length<=4/\∀l∈nd.ls,l.cs.length<=1000:=by
  have hsm:=Hsm.o;rw[<-hp]at hsm;unfold aK at hsm;exact⟨by simpa using hsm.1,λl hl=>hsm.2 _ (mem_map_of_mem hl)⟩
 have hpd:p.aj=nd.aj:=by rw[<-hp];rfl
 have hcn:(cR p).length<=4001:=by
  rw[<-hcl,aE,sS];have h1:=count_le hls.2 nd.ls.length;rw[take_of_length_le (ae _)]at h1;have:=hls.1;rw[length_singleton];omega
 have HE:Kp (∀w',E w6 w'->Calls prog 119 #[.agg (aZ nd)] w' (mL (cR p) w')):=(λw' hb=>by have:=x9 nd w' ((hat.below hb).more hb.size) hls.1 hls.2;rw[hcl]at this;exact this)
 have HLa:Kp (∀w',Calls prog 120 #[.agg #[U A nx cx,.int .i64 (m:Nat)],I nd.aj] w' (R_ (.bool (decide (nd.aj+1=nx))) w')):=(λw'=>by
  have hd:=Hdm.o
  exact mD A nx cx m nd.aj w' o_ o_ o_)
 have I6:=J (I5.below hb6);have M6:=J (M5.below hb6);have HP6:=bu HP5 hb6;have HR6:=bu HR5 hb6;have Hz5:=J HR5.lt;have Hat:=J hat;have Hfr:=J hfr;have Hcp:=J hcp;have Hpp:=J hp;rw[hpd]at Hbk
 have HQ:Kp (∀wr,E w6 wr->nP p (fi c A ys) (λk=>F0 k\/cz A ys k) wA (.returned (.tuple #[.agg (aZ nd),I 0])) (aH wr (gq+1) 0 (cO nd))):=(λwr hb=>by
  have Hoth:∀k,k≠gq+1->(aH wr (gq+1) 0 (cO nd)).heap[k]? = wr.heap[k]?:= λk hk=>ee hk _ _ _
  have hz:=nH (gq+1) (cO nd) wr 0;have h5:=Hz5.o;have hA:=Hgq.o;have hm:=((M6.below hb).aH (g:=gq+1) o_ 0 (cO nd))
  have hsz:=M5.ax.size;refine⟨nd,λk=>F5 k\/cz A ys k,rfl,Hpp,?_,λk hk=> ?_,Hcp,⟨F5,(I6.below hb).same λk hk=>Hoth k (λe=>HN5 (e▸hk)),(Hys.same λk hk=>hm.still (Hys.bU hk) (Hdj k hk)).more hm.ax.size,λk hk=>hm.off (Hys.bU hk) (Hdj k hk),rfl⟩,⟨hm.ax.more λk e=> .inl e,λk e=> ?_⟩⟩
  .rw[hz];have ha:=(Hat.below hb).more hb.size;exact⟨fO ha.row λk hk=>Hoth k (by have:=rC Hfr (.inl hk);omega),λl hl=>fO (ha.each l hl) λk hk=>Hoth k (by have:=rC Hfr (.inr ⟨l,hl,hk⟩);omega)⟩
  .have h1:=rC Hfr hk;refine⟨o_,λe=> ?_⟩;obtain e|e:=e
   .have:=I5.lt e;omega
   .have:=Hys.bU e;omega
  .obtain e|e:=e
   .obtain q|q:=hm.sub k e
    .exact .inl (.inl q)
    .exact .inr q
   .exact .inl (.inr e))
 have hb7:=(ah w6.heap.size w6).alloc (ae _) (.cells zN 157);have HZ:=J (aa.new w6 157 zN);have Hb8:=J (fq (ae _) (cO nd) _ 0 hb7);have HB8:Kp (aa (aH (w6.alloc (.cells zN 157)) w6.heap.size 0 (cO nd)) w6.heap.size 157 (aZ nd)):=dS HZ (cO nd) rfl;obtain⟨⟨r0,r1,r2,r3,r4,r5,r6,r7,r8,r9,r10,r11,r12,r13⟩,⟨f0,f1,f2,f3,f4,f5,f6,f7,f8,f9,f10,f11,f12,f13⟩⟩:=aa.bK HZ;clear hat hfr hcp hb6 hp hb7 HZ hcl hls hpd b0 b1 b2 HP5 HR5 Hz5 Hat Hfr Hcp Hpp I5 M5 I6 M6 Hsm HT5 HN5 Hys Hdj Hlt Hng;obtain⟨aj,nA,ls,nc,⟨key,child,⟨ac,s0,n0,x0,s1,n1,x1,s2,n2,x2⟩⟩⟩:=nd;dsimp only[aZ,cO]at HE HB8 Hb8 HLa HQ Hbk;generalize hW7:w6.alloc (.cells zN 157)=W7 at*;generalize hW8:aH W7 w6.heap.size 0 _=W8 at*;simp only[aH,Nat.zero_add,Nat.reduceAdd]at hW8;go_upto_region 11 with fail
 clear hW7 hW8 r0 r1 r2 r3 r4 r5 r6 r7 r8 r9 r10 r11 r12 r13 f0 f1 f2 f3 f4 f5 f6 f7 f8 f9 f10 f11 f12 f13;obtain⟨z0,z1,z2,z3,z4,z5,z6,z7,z8,z9,z10,z11,z12,z13⟩:=(aa.bK HB8).1;go_wp2_with fail;apply(HE W8 Hb8).mono;rintro e w9⟨v9,rfl,hcs,hb9⟩;obtain⟨A9,c9,rfl⟩:=cI hcs;have Hcs:=J (dF hcs);have Hb9:=ay Hb8 hb9;have HB9:=bu HB8 hb9;have HP9:=J (HP6.under Hb9);have HR9:=J (HR6.under Hb9);obtain⟨q,hq⟩:=e_ ((cR p).length)
 have Hq:=J hq;rw[hq]at hcn⊢;clear hcs hb9 hq z0 z1 z2 z3 z4 z5 z6 z7 z8 z9 z10 z11 z12 z13 HB8 HE HP6 HR6 Hb8;go_wp2_with fail
 go_loopw [67] (λv67 wr=>∃(k:Nat),k<=q/\v67 = .int .i64 (k:Nat)/\E w9 wr) (λv67 _=>q-(intOf v67).toNat)
 case atStart=>exact⟨0,av _,rfl,ah _ _⟩
 .obtain⟨k,hk,rfl,hbe⟩:=hrel;have Hbe:=J hbe;clear hbe;by_cases hlt:k<q
  .have hkc:k<(cR p).length:=by rw[Hq.o];exact hlt
   obtain⟨bc,oc,hAc,hbc,e0,e1,e2,e3,e4,e5,e6,e7,e8,e9,e10,e11⟩:=nV (Hcs.below Hbe) k hkc;have Hbk1:Kp ((aj+1=nx)\/((cR p)[k]'hkc).child<x):=Hbk.imp id λh=>h _ (gM hkc);generalize((cR p)[k]'hkc)=cc at*;obtain⟨ck,cch,⟨ca,s0c,n0c,x0c,s1c,n1c,x1c,s2c,n2c,x2c⟩⟩:=cc;dsimp only at e0 e1 e2 e3 e4 e5 e6 e7 e8 e9 e10 e11 Hbk1;have hb8:=(ah wr.heap.size wr).alloc (ae _) (.cells zC 155);have HZ8:=J (aa.new wr 155 zC);have hb10:=fq (ae _) [.int .i64 (ck:Nat),.int .i64 (cch:Nat),I ca,I s0c,I n0c,I x0c,I s1c,I n1c,I x1c,I s2c,I n2c,I x2c] _ 0 hb8;have HBc:Kp (aa (aH (wr.alloc (.cells zC 155)) wr.heap.size 0 [.int .i64 (ck:Nat),.int .i64 (cch:Nat),I ca,I s0c,I n0c,I x0c,I s1c,I n1c,I x1c,I s2c,I n2c,I x2c]) wr.heap.size 155 #[.int .i64 (ck:Nat),.int .i64 (cch:Nat),I ca,I s0c,I n0c,I x0c,I s1c,I n1c,I x1c,I s2c,I n2c,I x2c]):=dS HZ8 _ rfl;obtain⟨⟨r0,r1,r2,r3,r4,r5,r6,r7,r8,r9,r10,r11⟩,⟨f0,f1,f2,f3,f4,f5,f6,f7,f8,f9,f10,f11⟩⟩:=aa.gu HZ8;generalize hWc:wr.alloc (.cells zC 155)=Wc at*;generalize hWd:aH Wc wr.heap.size 0 _=Wd at*;simp only[aH,Nat.zero_add,Nat.reduceAdd]at hWd;have hz1:C Wd wr.heap.size 1 (.int .i64 (cch:Nat)):=HBc.cell 1;have Hbd:=ay Hbe hb10;obtain⟨p0,p1,p2,_⟩:=(HP9.under Hbd).three;have z0:C Wd w6.heap.size 0 (.int .i64 (aj:Nat)):=(HB9.under Hbd).cell 0;have j0:(0:Int)<=(k:Int):=o_
   have j1:(k:Int)<(q:Int):=o_
   clear hb8 HZ8 HBc hb10;rw[hAc];by_cases hge:x<=cch
   .have q1:decide ((x:Int)<=(cch:Int))=true:=decide_eq_true o_;have HLd:=J (HLa Wd);rw[decide_eq_true (Hbk1.resolve_right o_)]at HLd;go_wp2_with fail;apply HLd.mono;rintro e wl⟨rfl,hbl⟩;have HbN:=ay Hbd hbl;clear hbl;go_wp2_with fail;exact⟨⟨k+1,o_,by go_num,HbN⟩,by simp[intOf];omega⟩
   .have q1:decide ((x:Int)<=(cch:Int))=false:=decide_eq_false o_;go_wp2_with fail;exact⟨⟨k+1,o_,by go_num,Hbd⟩,by simp[intOf];omega⟩
  .obtain rfl:k=q:=o_
   have HRr:=J (HR9.under Hbe);have Hf:=J (HQ wr (Hb9.trans (Hbe.mono Hb9.size)));have HF:=J (dS HRr [.int .i64 (aj:Nat),U nA ls.length nc,.int .i64 (key:Nat),.int .i64 (child:Nat),I ac,I s0,I n0,I x0,I s1,I n1,I x1,I s2,I n2,I x2] rfl);obtain⟨z0,z1,z2,z3,z4,z5,z6,z7,z8,z9,z10,z11,z12,z13⟩:=(aa.bK (HB9.under Hbe)).1;obtain⟨⟨r0,r1,r2,r3,r4,r5,r6,r7,r8,r9,r10,r11,r12,r13⟩,⟨f0,f1,f2,f3,f4,f5,f6,f7,f8,f9,f10,f11,f12,f13⟩⟩:=aa.bK HRr;generalize hWf:aH wr (gq+1) 0 _=Wf at*;simp only[aH,Nat.zero_add,Nat.reduceAdd]at hWf;obtain⟨y0,y1,y2,y3,y4,y5,y6,y7,y8,y9,y10,y11,y12,y13⟩:=(aa.bK HF).1;go_wp2_with fail;refine bodyPost_ret (v:= .tuple #[.agg #[.int .i64 (aj:Nat),U nA ls.length nc,.int .i64 (key:Nat),.int .i64 (child:Nat),I ac,I s0,I n0,I x0,I s1,I n1,I x1,I s2,I n2,I x2],I 0]) ?_ rfl Hf;simp[results,results48,go_sem,y0,y1,y2,y3,y4,y5,y6,y7,y8,y9,y10,y11,y12,y13]
end
end
section
def xV(A:OA)(l:List Nd)(k:Nat):Prop:=cE A (l.flatMap cO) k\/∃n∈l,mE n k
def gX.same{w w':World}{B:Nat}{A:OA}{l:List Nd}(h:gX w B A l)(c:∀k,xV A l k->w'.heap[k]? = w.heap[k]?):gX w' B A l:=
 ⟨fO h.row λk hk=>c k (.inl hk),λn b=>⟨fO (h.each n b).row λk hk=>c k (.inr ⟨n,b,.inl hk⟩),λx hx=>fO ((h.each n b).each x hx) λk hk=>c k (.inr ⟨n,b,.inr ⟨x,hx,hk⟩⟩)⟩⟩
def gX.bU{w:World}{B:Nat}{A:OA}{l:List Nd}(h:gX w B A l){k:Nat}(hk:xV A l k):k<B:=by
 obtain hk|⟨n,b,hk|⟨x,hx,hk⟩⟩:=hk
 .exact Row.bU h.row hk
 .exact Row.bU (h.each n b).row hk
 .exact Row.bU ((h.each n b).each x hx) hk
def dr(ga:Nat)(X:List LN)(m:Nat)(e:List aQ)(Ax:OA)(ys:List Fa)(w:World)(F:Nat->Prop):Prop:=∃(A d:OA)(c f most:Nat)(xs:List Fa)(b:List Nd),
 aa w ga 217 (eV A xs.length c m d b.length f most)/\cG w w.heap.size A xs/\xs.map Fa.keys=X/\gX w w.heap.size d b/\b.map aK=e/\cG w w.heap.size Ax ys/\F=λk=>k=ga\/cz A xs k\/xV d b k\/cz Ax ys k
section
variable{ga:Nat}{X:List LN}{m:Nat}{ns:List aQ}{Ax:OA}{ys:List Fa}{w w':World}{F:Nat->Prop}
def dr.at_(h:dr ga X m ns Ax ys w F):jf w ga X m ns:=by
 obtain⟨A,f,c,n,most,xs,b,h1,h2,g,d,e,p,rfl⟩:=h;exact⟨A,f,c,n,_,_,b,h1,h2,g,d,e⟩
def dr.ok(ga:Nat)(X:List LN)(m:Nat)(u:List aQ)(Ax:OA)(ys:List Fa):qK (dr ga X m u Ax ys):=by
 refine⟨λw F n k hk=> ?_,λw w' F n f d=> ?_⟩
 .obtain⟨A,r,c,s,most,xs,b,h1,h2,q,g,p,e,rfl⟩:=n;obtain rfl|hk|hk|hk:=hk
  .exact h1.lt
  .exact h2.bU hk
  .exact g.bU hk
  .exact e.bU hk
 .obtain⟨A,r,c,s,most,xs,b,h1,h2,q,g,p,e,rfl⟩:=n;exact⟨A,r,c,s,_,_,b,(d _ (.inl rfl)).trans h1,(h2.same λk hk=>d k (.inr (.inl hk))).more f,q,(g.same λk hk=>d k (.inr (.inr (.inl hk)))).more f,p,(e.same λk hk=>d k (.inr (.inr (.inr hk)))).more f,rfl⟩
def dr.below(h:dr ga X m ns Ax ys w F)(b:E w w'):dr ga X m ns Ax ys w' F:=(dr.ok _ X m _ _ _).same w _ F h b.size λk hk=>b.block k ((dr.ok _ X m _ _ _).lt w F h k hk)
def dr.node(d:lu X m ns){i:Nat}{n:aQ}(hi:ns[i]? = some n)(h:dr ga X m ns Ax ys w F):Calls prog 45 #[Y ga 0,N i] w (nP n (dr ga X m ns Ax ys) F w):=by
 apply(h.at_.node d hi).mono;rintro e w'⟨nd,rfl,h1,h2,⟨c,f⟩,b⟩;refine⟨_,F,rfl,h1,h2,λk hk=>⟨rC c hk,λe=> ?_⟩,f,h.below b,(Mv.start F w).below b⟩;have p:=rC c hk;have g:=(dr.ok _ X m _ _ _).lt w F h k e;omega
def Cv(last:Bool)(n:aQ):cH last id n=n:=by
 unfold cH;split
 .rfl
 .have e:eY id=id:=o_
  obtain⟨d,ls,a⟩:=n;rw[e];simp
def sI(I:World->(Nat->Prop)->Prop)(N:Nat)(b:Value)(top:Int)(F:Nat->Prop)(w:World)(e:Ending)(w':World):Prop:=∃gs,e = .returned (Y gs 0)/\iq I N b gs top w' (λk=>k=gs\/F k)/\E w w'/\w.heap.size<=gs
def Pu(c:lu X m ns)(h:dr ga X m ns Ax ys w F):Calls prog 16 #[Y ga 0] w (sI (dr ga X m ns Ax ys) 45 (Y ga 0) ((ns.length:Int)-1) F w):=by
 have f:=J (h.at_.top c);have b:=(ah _ w).alloc (ae _) (.cells #[.func (.func 45) #[Y ga 0] #[],I (ns.length-1),I 0] 118);have n:Kp (sI _ 45 _ _ F w _ (w.alloc (.cells #[.func (.func 45) _ _,I _,I 0] _))):=⟨_,rfl,⟨0,F,aa.new _ _ _,λe=>Nat.lt_irrefl _ ((dr.ok _ X m _ _ _).lt w F h _ e),h.below b,rfl⟩,b,o_⟩;clear h c b;generalize(ns.length:Int)-1=t at*;go_in;go_wp2_with fail;apply f.mono;rintro e w'⟨rfl,rfl⟩;go_wp2;go_ret;exact n
def OU(w:World)(a b d e f g:Value):(Instr.field 122 (.agg #[a,b,d,e,f,g]) 4).run prog w = .ok f w:=by
 rfl
def OV(w:World)(a b d e f g:Value):(Instr.field 122 (.agg #[a,b,d,e,f,g]) 5).run prog w = .ok g w:=by
 rfl
attribute [local go_sem] OU OV
def fi.below{c:dd}{w w':World}{F:Nat->Prop}(h:fi c Ax ys w F)(b:E w w'):fi c Ax ys w' F:=(fi.ok c _ _).same w _ F h b.size λk hk=>b.block k ((fi.ok c _ _).lt w F h k hk)
def dd.top(c:dd):Int:=if 0<c.b.length then c.rt else -1
def Ex{c:dd}{cx:Nat}(h:fi c Ax ys w F):Calls prog 17 #[Y c.gp 0,.agg #[U Ax ys.length cx,N m]] w (sI (fi c Ax ys) 48 (.agg #[Y c.gp 0,U Ax ys.length cx,N m]) c.top F w):=by
 have r:Kp (∀W,E w W->Calls _ _ _ W _):=(λW z=>by
  obtain⟨u,h1,_⟩:=h.below z;obtain⟨u,u,u,os,D,n,u,u,d,_⟩:=h1;exact Dz d)
 have L:Kp (∀W,E w W->sI _ 48 _ _ F w _ (W.alloc (.cells #[.func (.func 48) _ _,I _,I 0] _))):=(λW z=>by
  have u:=z.alloc z.size (.cells #[.func (.func 48) #[.agg #[Y c.gp 0,U Ax ys.length cx,N m]] #[],I c.top,I 0] 118);exact⟨_,rfl,⟨0,F,aa.new _ _ _,λe=>by have:=(fi.ok c _ _).lt w F h _ e;have:=z.size;omega,h.below u,rfl⟩,u,z.size⟩)
 have ht:c.top=if 0<c.b.length then c.rt else -1:=rfl;obtain⟨x,H⟩:=e_ ys.length;rw[H]at L⊢;generalize c.top=tp at*;obtain⟨nb,G⟩:=e_ c.b.length;rw[G]at r ht;have y:=(ah _ w).alloc (ae _) (.cells #[U Ax x cx,N m] 43);have R:=J (aa.new w 43 #[U Ax x cx,N m]);obtain⟨T,z,_⟩:=R.two;have p:=J (y.alloc o_ (.cells #[Y c.gp 0,U Ax x cx,N m] 120));have s:=J (aa.lay (w:=w.alloc (.cells #[U Ax x cx,N m] 43)) (g:=w.heap.size+1) (t:=120) (cs:=#[Y c.gp 0,U Ax x cx,N m]) s_);clear h y R H G;generalize v:w.alloc _=u at*;have C:u.heap.size=w.heap.size+1:=by rw[<-v];simp
 generalize A:u.alloc _=u at*;go_in;by_cases Z:0<nb
 .obtain rfl:tp=c.rt:=o_
  clear ht;go_wp2_with fail;apply(r _ p).mono;rintro e X⟨rfl,f⟩;clear v A C T z;have q:=ay p f;have B:=bu s f;clear f s p;go_wp2_with fail;apply(r _ q).mono;rintro e y⟨rfl,u⟩;have O:=ay q u;obtain⟨G,p1,p2,_⟩:=(B.under u).three;have M:=J (L y O);clear u B q L;go_wp2;go_ret;exact M
 .obtain rfl:tp = -1:=o_
  clear ht;go_wp2_with fail;apply(r _ p).mono;rintro e X⟨rfl,f⟩;clear v A C T z;have q:=ay p f;obtain⟨G,p1,p2,_⟩:=(s.under f).three;have M:=J (L X q);clear f s p L;go_wp2;go_ret;exact M
def LH:∀(args:AV)(w:World),(callFunc 45 args).run prog w = .ok (.enter 45 args) w:=by
 simp
def NH:∀(args:AV)(w:World),(callFunc 48 args).run prog w = .ok (.enter 48 args) w:=by
 simp
def Gj{gs:Nat}{top:Int}(b:lu X m ns):mh (iq (dr ga X m ns Ax ys) 45 (Y ga 0) gs top) gs top X.length ns id:=
 ⟨(iq.ok (dr.ok _ X m _ _ _)).lt,(iq.ok (dr.ok _ X m _ _ _)).same,λw F h=>EF h,λw F i n h hi=>by
  rw[Cv];exact Eu (dr.ok _ X m _ _ _) LH (λw F h1=>dr.node b hi h1) h⟩
def MS{gs d cx:Nat}{c:dd}{S:LN}(ok:c.Ok)(hx:ys.length=d)(e:∀(i:Nat)(n:aQ),ns[i]? = some n->zv c.b Ax ys m (ph d S n) (S.getD i 0)) :
 mh (iq (fi c Ax ys) 48 (.agg #[Y c.gp 0,U Ax ys.length cx,N m]) gs c.top) gs c.top d ns (dV S):=
 ⟨(iq.ok (fi.ok c _ _)).lt,(iq.ok (fi.ok c _ _)).same,λw F h=>EF h,λw F i n h hi=>Eu (fi.ok c _ _) NH (λw F h1=>NG h1 ok (e i n hi)) h⟩
end
end
end Tc
end Go.Proofs.YtibjlpkpljnicaaGreatDoor
