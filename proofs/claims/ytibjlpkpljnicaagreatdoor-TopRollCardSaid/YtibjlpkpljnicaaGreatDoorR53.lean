/- Parts. -/
import Derived.Test.YtibjlpkpljnicaaGreatDoorR51
import Derived.Test.YtibjlpkpljnicaaGreatDoorR52
set_option maxRecDepth 100000
set_option maxHeartbeats 8000000
set_option linter.all false
namespace Go.Proofs.YtibjlpkpljnicaaGreatDoor
namespace Tc
open List Go.RowKit Base Crc
def aiy{I:World->(Nat->Prop)->Prop}{N gs:Nat}{c:Value}{top:Int}{w:World}{F:Nat->Prop}(h:iq I N c gs top w F):∃b,I w b/\∀k,b k->F k:=by
 obtain⟨_,b,_,_,h1,rfl⟩:=h;grind
def adD{c:dd}{Ax:OA}{ys:List Fa}{N gs:Nat}{b:Value}{top:Int}(w:World)(F:Nat->Prop)(h:iq (fi c Ax ys) N b gs top w F):cG w w.heap.size Ax ys:=by
 obtain⟨_,_,_,_,⟨_,_,d,_⟩,_⟩:=h;omega
def agA{w:World}{B k:Nat}{A:OA}{l:List Gp}(h:iR w B A l)(hk:pM A l k):k<B:=by
 obtain hk|⟨g,b,hk⟩:=hk
 .exact Row.bU h.row hk
 .exact Row.bU (h.each g b) hk
def UO.cz{w:World}{B g c:Nat}{ps:List Pk}(h:UO w B g c ps.length ps){k:Nat}(hk:a8D (some ⟨g,0,none⟩) ps k):B<=k/\k<w.heap.size:=by
 obtain hk|⟨p,d,hk⟩:=hk
 .obtain⟨_,off,e⟩:=hk;injection e with e;injection e with e _ _;subst e;exact h.lt
 .obtain⟨j,b⟩:=getElem?_of_mem d;exact⟨((h.each j p b).2 k hk).2 (aO b).1,Row.bU (h.each j p b).1.set hk⟩
def aiC(s:aN)(A:OA)(rows:List Rw)(c:Nat)(X:OA)(l:List Pq)(Z:Nat)(aj:Int)(w:World)(h:cQ w w.heap.size s)(hr:fT w w.heap.size A rows)(hq:jt w w.heap.size X l) :
 Calls Tryz.prog 4 #[.agg (aG s),.slice A rows.length c,.agg #[.slice X l.length Z],.int .i64 aj] w (cy (λr=>r=true) w):=by
 have HR:=kp (λr w' h hb=>cy.mono (P:=λr=>r=true) (w:=w) (r:=r) (w':=w') h hb);have O:=(ah _ w).alloc (ae _) (.cells (aG s) 25);have V:=kp (aa.new w 25 (aG s));obtain⟨J,Sf⟩:∃J,w.alloc (.cells (aG s) 25)=J:=⟨_,rfl⟩;rw[Sf]at O V;have ng:=O.alloc O.size (.cells #[.slice X l.length Z] 29);have G:=kp (aa.new J 29 #[.slice X l.length Z]);have L:=kp (V.o.alloc (.cells #[.slice X l.length Z] 29));obtain⟨w2,Sr⟩:∃w2,J.alloc (.cells #[.slice X l.length Z] 29)=w2:=⟨_,rfl⟩;rw[Sr]at ng G L;have xD:=kp ng;have r0:=kp O.size;have E:=kp (λW(u:Below _ w W)=>(h.below u).more u.size);have e9:=kp (λW(u:Below _ w W)=>(hq.below u).more u.size);have o7:=kp (show∀W,Below _ w W->Calls _ 5 #[.agg _,.slice A _ c,.int _ 4,.int _ 30] W _ fromλW u=>Gq s A _ c 4 30 W (E W u) ((hr.below u).more u.size) d_ d_);have m5:=kp (λW u=>On X l Z W (e9 W u));have e4:=kp (λW u=>Pt s X l Z W (E W u) (e9 W u));have h0:=kp (λW u D=>Oj s A _ c W (E W u) ((hr.below u).more u.size) D);have j1:=kp (λW u D hg=>AY s A _ c W (E W u) ((hr.below u).more u.size) D hg);have HX:=kp (λW u D=>DK s W (E W u) D);have q6:=kp OD;have s5:=kp Rc;have w0:=kp (λr hx x hv=>Fk ((hr.each r hx).wf x hv));have b0:=kp (show∀W,Below _ w W->Calls _ 8 _ W (λe w'=>e = .returned _/\Below _ w w')fromλW u=>(q6 W).mono (by
  rintro e w'⟨_,rfl,rfl,hb⟩;exact⟨rfl,u.trans (hb.mono u.size)⟩))
 generalize cy (λr=>r=true) w=Q at*;unfold aG at V L o7 e4 h0 j1 HX Sf⊢;obtain⟨nl,Vd⟩:∃nl,l.length=nl:=⟨_,rfl⟩;rw[Vd]at G m5 e4 Sr⊢;have XV:=kp Vd;clear h hr hq O ng q6 Vd;obtain⟨I,H,_,_⟩:=L.o.two;have O:=kp (o7 _ xD);go_enter Tryz.func4,Tryz.ntmps4;go_wp2_with fail;refine O.o.mono ?_;clear Sf Sr I H O o7 V;rintro e w3⟨V,rfl,XK,O⟩;have RN:=ay xD O;have TN:=bu L O;have Wp:=bu G O;have z6:=kp (show w.heap.size<w2.heap.size/\J.heap.size<w2.heap.size/\w.heap.size<=J.heap.size/\w2.heap.size<=w3.heap.size from⟨L.o.lt,G.o.lt,r0,O.size⟩);clear O L G xD r0;cases V with
 |false=>
  go_wp2_with fail;refine(b0 _ RN).mono ?_;rintro e O⟨rfl,G⟩;have V:=kp (HR _ O rfl G);go_wp2;exact V
 |true=>
 obtain⟨D,_,L⟩:=XK rfl;have Ho:=kp D;have b1:=kp (aF L (d_:30<=40));have c3:=kp (m5 _ RN);clear XK D L m5;obtain⟨M,_⟩:=Wp.o.one;go_wp2_with fail;refine c3.o.mono ?_;clear c3 M;rintro e O⟨D,rfl,_,G⟩;have L:=ay RN G;have n8:=bu TN G;have l7:=bu Wp G;have t6:=kp (aF z6.2.2.2 G.size);clear G TN Wp RN;cases D with
 |false=>
  go_wp2_with fail;refine(b0 O L).mono ?_;rintro e w5⟨rfl,D⟩;have V:=kp (HR _ _ rfl D);go_wp2;exact V
 |true=>
 have G:=kp (e4 O L);clear e4;obtain⟨M,_⟩:=l7.o.one;obtain⟨I,H,_,_⟩:=n8.o.two;go_wp2_with fail;refine G.o.mono ?_;clear G M I H;rintro e w5⟨G,rfl,YP,D⟩;have O:=ay L D;have i4:=bu n8 D;have n5:=bu l7 D;have v0:=kp (aF t6 D.size);clear D n8 l7 L t6;by_cases D:G=0;rotate_left
 .have L:(G == 0)=false:=o_
  clear YP;go_wp2_with fail;refine(b0 _ O).mono ?_;rintro e L⟨rfl,G⟩;have V:=kp (HR _ L rfl G);go_wp2;exact V
 subst D;have Zo:=YP rfl;obtain⟨D6,ZQ⟩:=O9 Zo;have D:=kp D6;have Vm:=kp (λW u=>Ns (e9 W u) ZQ);clear YP Zo D6 ZQ e9;obtain⟨qs,n3⟩:∃qs,l.map nE=qs:=⟨_,rfl⟩;have Uh:qs.length=nl:=by rw[<-n3,lM,XV]
 rw[n3]at D Vm;have a2:=kp Uh;have p0:=kp (D.o.len.symm.trans Uh);clear n3 Uh;have g0:=kp (b0 _ O);obtain⟨I,H,_,_⟩:=i4.o.two;obtain⟨M,_⟩:=n5.o.one;by_cases o4:aj<0
 .go_wp2_with fail;refine g0.o.mono ?_;rintro e L⟨rfl,G⟩;have V:=kp (HR _ L rfl G);go_wp2;exact V
 have Sd:=decide_eq_false o4;by_cases m4:(s.af.length:Int)<=aj
 .go_wp2_with fail;refine g0.o.mono ?_;rintro e L⟨rfl,G⟩;have V:=kp (HR _ L rfl G);go_wp2;exact V
 obtain⟨n,rfl⟩:∃n:Nat,aj=n:=⟨aj.toNat,o_⟩;have WO:=p0.o;have k0:0<=(n:Int):=o_
 have k1:n<(nl:Int):=o_
 have Xx:=kp (show n<qs.length by rw[a2];omega);have Vi:=kp (show n<s.af.length by omega);obtain⟨bq,oq,A4,_,_,_,_,_,_,p5,_⟩:=(Vm _ O).pick n Xx.o;rw[A4]at M;clear A4 WO Sd o4 m4;have Sd:decide ((n:Int)<0)=false:=o_;obtain⟨gq,m6⟩:∃b,(qs[n]'Xx.out).g=b:=⟨_,rfl⟩;rw[m6]at p5;have b8:=kp m6;clear m6;cases gq with
 |false=>
  go_wp2_with fail;refine g0.o.mono ?_;rintro e L⟨rfl,G⟩;have V:=kp (HR _ L rfl G);go_wp2;exact V
 |true=>
 clear g0;have t5:=kp (h0 _ O Ho);go_wp2_with fail;refine t5.o.mono ?_;clear I H t5 h0 p5 M Sd;rintro e L⟨Aa,ca,la,rfl,YK,YG,G⟩;have Sq:=ay O G;have t7:=bu i4 G;have z3:=bu n5 G;have r6:=kp (aF v0 G.size);have y5:=kp YK;have v1:=kp YG;have S6:la.length<=40:=by rw[YG.1];exact b1
 have i5:=kp (s5 _ _ ca L YK o_ (λf Y=>by
  obtain⟨i,hi,rfl⟩:=getElem_of_mem Y;have L:i<rows.length:=by rw[<-YG.1];omega
  have hk:=(C0 Ho.o.bO (YG.2 i _ _ (gE L) (gE hi)).1).len;omega))
 clear G i4 n5 O v0 YK YG s5 S6;obtain⟨L,G⟩:∃L,la.length=L:=⟨_,rfl⟩;rw[G]at i5⊢;clear G;go_wp2_with fail;refine i5.o.mono ?_;clear i5;rintro e w7⟨r7,rfl,L,G⟩;have O:=ay Sq G;have j0:=bu t7 G;have D3:=bu z3 G;have h7:=kp (aF r6 G.size);have x5:=kp ((y5.o.below G).more G.size);clear G t7 z3 Sq r6 y5;cases r7 with
 |false=>
  clear L;go_wp2_with fail;refine(b0 _ O).mono ?_;rintro e w8⟨rfl,G⟩;have V:=kp (HR _ _ rfl G);go_wp2;exact V
 |true=>
 obtain⟨Wk,u4,D1⟩:=IW Ho b1 w0 v1 (L rfl);have d8:=kp u4;have y9:=kp D1;have A6:=kp (j1 _ O Ho Wk);clear L Wk u4 D1 j1 w0 v1;obtain⟨I,H,_,_⟩:=j0.o.two;go_wp2_with fail;refine A6.o.mono ?_;clear A6 I H;rintro e w8⟨G,⟨rfl,_⟩|⟨fs,L,S,b,ga,cp,F0,F,rfl,u2,z8,Wb,ok,y0,v2,A7,X5,n6,hF⟩⟩
 .have Tw:=ay O G;clear G;go_wp2_with fail;refine(b0 _ Tw).mono ?_;rintro e v⟨rfl,L⟩;have V:=kp (HR _ v rfl L);go_wp2;exact V
 have Tw:=ay O G;have n7:=bu j0 G;have D4:=bu D3 G;have t0:=kp ((x5.o.below G).more G.size);have f7:=kp u2;have v5:=kp z8;have Xy:=kp Wb;have Sv:=kp ok;have g6:=kp (And.intro y0 v2);have k9:=kp A7;have Z5:=kp X5;have HF:=kp (λk hk=>aF h7 (hF k hk));have x7:=kp (HX _ Tw Ho.o.bO);have j2:=kp (aF h7 G.size);obtain⟨gp,XF⟩:∃gp,cp.gp=gp:=⟨_,rfl⟩;rw[XF];have f1:=kp XF;clear G u2 z8 Wb ok y0 v2 A7 X5 n6 hF XF j0 D3 x5 O HX;obtain⟨I,H,_,_⟩:=n7.o.two;go_wp2_with fail;refine x7.o.mono ?_;clear x7 I H;rintro e v⟨Ax,cx,ys,rfl,O,y4,L⟩;have RS:=(ah _ v).alloc (ae _) (.cells #[.slice Ax ys.length cx,.int .i64 s.aC.length] 43);have p3:=kp (aa.new v 43 #[.slice Ax ys.length cx,.int .i64 s.aC.length]);generalize P4:v.alloc _=G at*;have T:=L.trans (RS.mono L.size);have q8:=kp y4;have u1:=kp (λk hk=>(⟨tz O hk,O.at_.bU hk⟩:w8.heap.size<=k/\k<v.heap.size));have i7:=kp ((O.at_.below RS).more RS.size);have UM:=ay Tw T;have p6:=bu n7 T;have h8:=bu D4 T;have i0:=kp (Z5.o.same λk hk=>T.block k (Z5.o.lt hk));have v3:=kp (And.intro (λk hk=>(dr.ok _ _ _ _ _ _).lt _ _ k9 k hk) (λk(hk:F k)=>Z5.o.lt hk));have s3:=kp p3.o;have a4:=kp (show w8.heap.size<=v.heap.size/\v.heap.size<G.heap.size from⟨L.size,p3.o.lt⟩);have v4:=kp (show Calls _ _ #[.agg #[.slice _ _ _,.slice _ _ _],.agg _,.int _ _] G (a0R _ n (Vx (s.af[n]'Vi.out) (qs[n]'Xx.out)) G)from by
  have h:=air s _ X Z n G (E G UM) Ho.o.bO (Vm G UM) D Vi.o Xx.o b8;unfold aG at h;generalize a0R _ n _ G=R at*;rw[a2]at h;omega)
 clear RS L T O y4 p3 n7 D4 t0 k9 Z5 Tw;obtain⟨I,H,_,_⟩:=p6.o.two;obtain⟨M,_⟩:=h8.o.one;go_wp2_with fail;refine v4.o.mono ?_;clear v4 I H M P4;rintro e L⟨gu,cu,qr,rfl,ZQ,T9,e3⟩;have l4:qr.length=nl:=by
  have:=congrArg length T9;rw[lM,lM,length_set,a2]at this;omega
 have d9:=kp l4;rw[l4];have f9:=kp (aa.new L 29 #[.slice (some ⟨gu,0,none⟩) nl cu]);have f8:=(ah _ L).alloc (ae _) (.cells #[.slice (some ⟨gu,0,none⟩) nl cu] 29);generalize T2:L.alloc _=z at*;have O:=e3.trans (f8.mono e3.size);have g4:=kp (ais D o_ Xx b8 T9);have TF:=kp T9;have s7:=kp (λk hk=>ZQ.cz (k:=k) hk);have t4:=kp ((ZQ.at_.below f8).more f8.size);have D0:=ay UM O;have i8:=bu p6 O;have i9:=bu h8 O;have n9:=bu s3 O;have a6:=kp (show G.heap.size<=L.heap.size/\L.heap.size<z.heap.size from⟨e3.size,f9.o.lt⟩);have y3:=kp (show fi _ _ _ z (λk=>F k\/cz _ _ k)from⟨F,i0.o.same λk hk=>O.block k (i0.o.lt hk),(i7.o.below O).more O.size,λk hk Y=>by have h1:=u1 k hk;have h2:=v3.2 k Y;omega,rfl⟩);clear f8 e3 O ZQ T9 l4 p6 h8 s3 i7 i0 UM;go_upto_region 12 with fail;clear T2;have e8:=kp (show Below z.heap.size z _ from bR.drew);have a0:=kp (Ex (cx:=cx) (m:=s.aC.length) (y3.o.below e8));rw[f1]at a0;obtain⟨I,H,_,_⟩:=(aa.two (show aa z.drew _ _ _ from i8));obtain⟨M,_⟩:=(aa.one (show aa z.drew _ _ _ from i9));obtain⟨x0,x1,_,_⟩:=(aa.two (show aa z.drew _ _ _ from n9));obtain⟨u0,_⟩:=(aa.one (show aa z.drew _ _ _ from f9));refine wp_region_noPanic ?_;refine br (t:=99) (S:=(λw'=>w'.cell? _=some (.slice _ _ _)/\w'.cell? _=some (.slice _ _ _)/\w'.cell? _=some _/\w'.cell? _=some _/\w'.cell? _=some _/\w'.cell? _=some _)) k_ ⟨I,H,M,x0,x1,u0⟩ (λq=> ?_);generalize z.drew=wd at*;refine tD 0 1 3 4 q ?_;refine tk 5 q ?_;refine oT 2 (λK hK=> ?_);go_simp;refine a0.o.mono ?_;rintro e O⟨gs,rfl,x8,s4,u6⟩;have u5:=kp x8;have G:=kp s4;have Ya:=kp u6;clear x8 s4 u6;try go_simp
 refine oK hK ?_ (λB=> ?_)
 .exact⟨al G q.1,al G q.2.1,al G q.2.2.1,al G q.2.2.2.1,al G q.2.2.2.2.1,al G q.2.2.2.2.2⟩
 clear hK K q;have q:=B;clear B;have jc:=kp (e8.o.trans (G.o.mono e8.o.size));have b2:=kp (D0.o.trans (jc.o.mono D0.o.size));have i2:=kp (i8.o.under jc);have l0:=kp (i9.o.under jc);have i3:=kp (n9.o.under jc);have k8:=kp (f9.o.under jc);have a1:w.heap.size<O.heap.size/\J.heap.size<O.heap.size/\v.heap.size<O.heap.size/\L.heap.size<O.heap.size:=⟨i2.o.lt,l0.o.lt,i3.o.lt,k8.o.lt⟩;have Sh:=z6.o;have b4:=kp (show∀k,(k=gs\/(F k\/cz _ _ k))->w2.heap.size<=k/\k≠v.heap.size/\(k<v.heap.size\/z.heap.size<=k)fromλk hk=>by
  have h1:=j2.o;have h2:=a4.o;have h3:=a6.o;have h4:=e8.o.size;have h5:=Ya.o;obtain rfl|hk|hk:=hk
  .omega
  .have h6:=v3.2 k hk;exact⟨HF k hk,o_,.inl o_⟩
  .have h6:=u1 k hk;omega)
 obtain⟨G,G⟩:=Ad (gs:=gs) (cx:=cx) (Ax:=Ax) f7 b1 v5 D q8 Xy Sv g6.1 g6.2;rw[f1]at G;have H0:=kp (λr ht=>G.keys (ps:=r) ht);have HA:=kp (wE G _ X cx Z _ O u5 adD (λW u=>E W (b2.o.trans (u.toBelow (λk hk=>by have:=(b4 k hk).1;omega) o_))) (λW u=>Vm W (b2.o.trans (u.toBelow (λk hk=>by have:=(b4 k hk).1;omega) o_))));unfold aG at HA;rw[a2]at HA;have O:=kp (show∀k,(k=w.heap.size\/k=J.heap.size\/k=v.heap.size\/k=L.heap.size)->¬(k=gs\/(F k\/cz _ _ k))fromλk hk Y=>by
  have h1:=b4 k Y;have h2:=a4.o;have h3:=a6.o;obtain rfl|rfl|rfl|rfl:=hk
  .omega
  .omega
  .omega
  .omega)
 clear G;refine oT 6 (λK hK=> ?_);go_simp;refine HA.o.mono ?_;rintro e ZY⟨A1,l1,c1,r1,XP,rfl,c7,XF,⟨RX,B6⟩,t3,hI,hm⟩;have k2:=kp c7;have z7:=kp XF;have z4:=kp RX;have R3:=kp B6;have G4:=kp t3;have D7:=kp hI;have G:=kp hm;clear c7 XF RX B6 t3 hI hm;try go_simp
 refine oK hK ?_ (λB=> ?_)
 .exact⟨(bF (G.o.still o_ (O _ (.inl rfl)))).trans q.1,(bF (G.o.still o_ (O _ (.inl rfl)))).trans q.2.1,(bF (G.o.still o_ (O _ (.inr (.inl rfl))))).trans q.2.2.1,(bF (G.o.still o_ (O _ (.inr (.inr (.inl rfl)))))).trans q.2.2.2.1,(bF (G.o.still o_ (O _ (.inr (.inr (.inl rfl)))))).trans q.2.2.2.2.1,(bF (G.o.still o_ (O _ (.inr (.inr (.inr rfl)))))).trans q.2.2.2.2.2⟩
 clear hK K q;have q:=B;clear B;refine tD 7 8 9 10 q ?_;refine tk 11 q ?_;refine bQ k_ ?_ _;try clear q
 refine NoPanic.normal ?_;have k6:=kp (G.o.box i2 (O _ (.inl rfl))).1;have m0:=kp (G.o.box l0 (O _ (.inr (.inl rfl)))).1;have o2:=kp (G.o.box i3 (O _ (.inr (.inr (.inl rfl))))).1;have m9:=kp (G.o.box k8 (O _ (.inr (.inr (.inr rfl))))).1;have x4:=kp (b2.o.trans (G.o.ax.toBelow (λk hk=>by have:=(b4 k hk).1;omega) o_));have M1:=kp (a8E ((t4.o.below jc).more jc.o.size) G.o.ax λk hk Y=>by
  have h1:=b4 k Y;have h2:=s7 k hk;have h3:=a4.o;have h4:=a6.o;omega)
 have S1:=kp (λk hk=>by
  obtain h|⟨h,_⟩:=G.o.sub k hk
  .exact b4 k h
  .have h1:=j2.o;have h2:=a4.o;have h4:=jc.o.size;omega)
 have K2:=kp (aF jc.o.size G.o.ax.size);obtain⟨F3,G,O⟩:=aiy D7;have G2:=kp G;have c3:=kp O;clear I H M x0 x1 u0 a1 G O HA a0 u5 D7 i2 l0 i3 k8 i8 i9 n9 f9 t4 y3;go_upto_region 13 with fail;have c8:=kp (show Below ZY.heap.size ZY _ from bR.drew);have a0:=kp (Ex (cx:=cx) (m:=s.aC.length) (G2.o.below c8));rw[f1]at a0;obtain⟨I,H,_,_⟩:=(aa.two (show aa ZY.drew _ _ _ from k6));obtain⟨M,_⟩:=(aa.one (show aa ZY.drew _ _ _ from m0));obtain⟨x0,x1,_,_⟩:=(aa.two (show aa ZY.drew _ _ _ from o2));obtain⟨u0,_⟩:=(aa.one (show aa ZY.drew _ _ _ from m9));refine wp_region_noPanic ?_;refine br (t:=99) (S:=(λw'=>w'.cell? _=some (.slice _ _ _)/\w'.cell? _=some (.slice _ _ _)/\w'.cell? _=some _/\w'.cell? _=some _/\w'.cell? _=some _/\w'.cell? _=some _)) k_ ⟨I,H,M,x0,x1,u0⟩ (λq=> ?_);generalize ZY.drew=G at*;refine tD 0 1 3 4 q ?_;refine tk 5 q ?_;refine oT 2 (λK hK=> ?_);go_simp;refine a0.o.mono ?_;rintro e O⟨g2,rfl,D2,y2,XE⟩;have A0:=kp D2;have G:=kp y2;have r9:=kp XE;clear D2 y2 XE;try go_simp
 refine oK hK ?_ (λB=> ?_)
 .exact⟨al G q.1,al G q.2.1,al G q.2.2.1,al G q.2.2.2.1,al G q.2.2.2.2.1,al G q.2.2.2.2.2⟩
 clear hK K q;have q:=B;clear B;have U7:=kp (c8.o.trans (G.o.mono c8.o.size));have e5:=kp (x4.o.trans (U7.o.mono x4.o.size));have j3:=kp (k6.o.under U7);have m7:=kp (m0.o.under U7);have s6:=kp (o2.o.under U7);have p7:=kp (m9.o.under U7);have a7:w.heap.size<O.heap.size/\J.heap.size<O.heap.size/\v.heap.size<O.heap.size/\L.heap.size<O.heap.size:=⟨j3.o.lt,m7.o.lt,s6.o.lt,p7.o.lt⟩;have e6:=kp (show∀k,(k=g2\/F3 k)->w2.heap.size<=k/\k≠v.heap.size/\(k<v.heap.size\/z.heap.size<=k)fromλk hk=>by
  have h1:=j2.o;have h2:=a4.o;have h3:=a6.o;have h4:=c8.o.size;have h5:=r9.o;have h6:=K2.o;obtain rfl|hk:=hk
  .omega
  .exact S1 k (c3 k hk))
 obtain⟨G,p4⟩:=Ad (gs:=g2) (cx:=cx) (Ax:=Ax) f7 b1 v5 g4.1 q8 Xy Sv g6.1 g6.2;rw[f1]at p4;have y8:=kp (show∀k,a8D _ _ k->¬(k=g2\/F3 k)fromλk hk Y=>by
  have h1:=e6 k Y;have h2:=s7 k hk;have h3:=a4.o;have h4:=a6.o;omega)
 have B3:=kp ((M1.o.below U7).more U7.o.size);have HA:=kp (wE p4 _ _ cx cu _ O A0 adD (λW u=>E W (e5.o.trans (u.toBelow (λk hk=>by have:=(e6 k hk).1;omega) o_))) (λW u=>a8E B3 u y8));unfold aG at HA;rw[d9]at HA;have G:=kp (show∀k,(k=w.heap.size\/k=J.heap.size\/k=v.heap.size\/k=L.heap.size)->¬(k=g2\/F3 k)fromλk hk Y=>by
  have h1:=e6 k Y;have h2:=a4.o;have h3:=a6.o;obtain rfl|rfl|rfl|rfl:=hk
  .omega
  .omega
  .omega
  .omega)
 clear p4;refine oT 6 (λK hK=> ?_);go_simp;refine HA.o.mono ?_;rintro e C⟨A2,l2,c2,O,O,rfl,c7,XF,⟨RX,_⟩,_,_,hm⟩;have K3:=kp c7;have M7:=kp XF;have H2:=kp RX;have O:=kp hm;clear c7 XF RX hm;try go_simp
 refine oK hK ?_ (λB=> ?_)
 .exact⟨(bF (O.o.still o_ (G _ (.inl rfl)))).trans q.1,(bF (O.o.still o_ (G _ (.inl rfl)))).trans q.2.1,(bF (O.o.still o_ (G _ (.inr (.inl rfl))))).trans q.2.2.1,(bF (O.o.still o_ (G _ (.inr (.inr (.inl rfl)))))).trans q.2.2.2.1,(bF (O.o.still o_ (G _ (.inr (.inr (.inl rfl)))))).trans q.2.2.2.2.1,(bF (O.o.still o_ (G _ (.inr (.inr (.inr rfl)))))).trans q.2.2.2.2.2⟩
 clear hK K q;have q:=B;clear B;refine tD 7 8 9 10 q ?_;refine tk 11 q ?_;refine bQ k_ ?_ _;try clear q
 refine NoPanic.normal ?_;have S3:=kp (O.o.box j3 (G _ (.inl rfl))).1;have H9:=kp (O.o.box m7 (G _ (.inr (.inl rfl)))).1;have T0:=kp (O.o.box p7 (G _ (.inr (.inr (.inr rfl))))).1;have N:=kp (e5.o.trans (O.o.ax.toBelow (λk hk=>by have:=(e6 k hk).1;omega) o_));have M4:=kp (a8E B3 O.o.ax y8);have I3:=kp (xh ((z4.o.below U7).more U7.o.size) O.o.ax λk hk Y=>by
  have h2:=agA z4 hk;have h3:=G4 k hk;have h4:=c8.o.size;have h5:=r9.o;obtain rfl|Y:=Y
  .omega
  .exact h3.2 (c3 k Y))
 have O:=kp (Bt f7 b1 D y9 k2);have B0:=kp (show(dH _ (s.af.zip qs)).length<=40 from by
  unfold dH;rw[lM];exact aF (length_filter_le _ _) (by rw[kH];exact d8.o.n))
 have P1:=kp (show∀x∈dH _ (s.af.zip qs),GA _ 1 x.2 fromλx hx=>by
  unfold dH at hx;obtain⟨y,G,rfl⟩:=mem_map.1 hx;exact d8.o.ga y (mem_filter.1 G).1)
 have M6:=kp (show l1.length<=40 from by
  have h1:=congrArg length z7;rw[lM,lM]at h1;have h2:=uy O;have h3:=B0.o;omega)
 have d6:=kp (λW u=>ail s _ _ n _ X c1 Z _ _ W (E W (N.o.trans (u.mono N.o.size))) Ho.o.bO (Vm W (N.o.trans (u.mono N.o.size))) D (λi d p h1 h2=>wF h1 h2) (by rw[length_zip];have:=D.o.len;omega) o_ (λp G=>by
  rw[gE Xx.o]at G;injection G with G;rw[<-G];exact b8) ((I3.o.below u).more u.size) M6 R3 z7 (H0 _ k2) (aiA O B0 P1))
 have f5:=kp (show n<qr.length from by rw[d9,<-a2];exact Xx);have T3:=kp (show∀W,Below _ C W->Calls _ _ #[.agg #[.slice _ _ _,.slice _ _ _],.agg _,.int _ _] W (a0R _ n (Xh (s.af[n]'Vi.out) (qr[n]'f5.out)) W)fromλW u=>by
  have h:=agv s _ _ cu n W (E W (N.o.trans (u.mono N.o.size))) Ho.o.bO ((M4.o.below u).more u.size) g4.1 Vi.o f5.o;unfold aG at h;generalize a0R _ n _ W=R at*;rw[d9]at h;omega)
 have I5:=kp (agw D Vi.o Xx f5.o b8 TF);unfold aG at d6;have L1:=kp (show nl<=1000 from by have h1:=p0.o;omega);obtain⟨n1,G⟩:∃n1,l1.length=n1:=⟨_,rfl⟩;obtain⟨n2,u⟩:∃n2,l2.length=n2:=⟨_,rfl⟩;rw[G]at d6⊢;rw[u];rw[a2]at d6;have H3:=kp u;clear G u I H M x0 x1 u0 a7 Sh HA a0 A0 j3 m7 s6 p7 o2 k6 m0 m9;go_upto_region 14 with fail;obtain⟨I,H,_,_⟩:=(aa.two (show aa C.drew _ _ _ from S3));obtain⟨M,_⟩:=(aa.one (show aa C.drew _ _ _ from H9));obtain⟨u0,_⟩:=(aa.one (show aa C.drew _ _ _ from T0));have G:=kp (show Below C.heap.size C _ from bR.drew);refine wp_region_noPanic ?_;refine br (t:=99) (S:=(λw'=>w'.cell? _=some (.slice _ _ _)/\w'.cell? _=some (.slice _ _ _)/\w'.cell? _=some _/\w'.cell? _=some _)) k_ ⟨I,H,M,u0⟩ (λq=> ?_);generalize C.drew=wf at*;refine tD 0 1 2 3 q ?_;refine tD 4 5 6 7 q ?_;refine tD 8 9 10 11 q ?_;refine oT 12 (λK hK=> ?_);go_simp;refine(d6 _ G).mono ?_;rintro e M3⟨Ao,co,out,U,rfl,Wk,O,L,v9⟩;have Y9:=kp Wk;have G3:=kp O;have P2:=kp L;have u:=kp v9;clear Wk O L v9;try go_simp
 refine oK hK ?_ (λB=> ?_)
 .exact⟨al u q.1,al u q.2.1,al u q.2.2.1,al u q.2.2.2⟩
 clear hK K q;have q:=B;clear B;have L:=kp (G.o.trans (u.o.mono G.o.size));have G:=ait f7 b1 Ho.o.bO D y9 (by rw[kH];exact d8.o.n) d8.o.ga g4.1 g4.2 (λx hx=>by
  obtain⟨O,u⟩:=qy hx;have h1:=D.o.ok n _ _ O u;rw[gE Xx.o]at u;injection u with u;exact⟨by rw[<-u];exact b8,h1.bG⟩) k2 K3 P2 M7 G3
 have u:=kp (zT _ _ _ _ c2 co _ ((H2.o.below L).more L.o.size) Y9 G.1 o_ G.2.2);rw[H3]at u;clear G;refine oT 13 (λK hK=> ?_);go_simp;refine u.o.mono ?_;rintro e O⟨_,rfl,rfl,D⟩;have u:=kp D;clear D;try go_simp
 refine oK hK ?_ (λB=> ?_)
 .exact⟨al u q.1,al u q.2.1,al u q.2.2.1,al u q.2.2.2⟩
 clear hK K q;have q:=B;clear B;have G:=kp (L.o.trans (u.o.mono L.o.size));refine tD 14 15 16 17 q ?_;refine tB 18 20 q ?_;refine oT 19 (λK hK=> ?_);go_simp;refine(T3 O G).mono ?_;rintro e L⟨gd,cd,qd,rfl,O,To,D⟩;have S8:=kp O;have u:=kp To;have d1:=kp D;clear O To D;try go_simp
 refine oK hK ?_ (λB=> ?_)
 .exact⟨al d1 q.1,al d1 q.2.1,al d1 q.2.2.1,al d1 q.2.2.2⟩
 clear hK K q;have q:=B;clear B;have D:=kp (N.o.trans ((G.o.trans (d1.o.mono G.o.size)).mono N.o.size));have G:=kp (aiv _ X _ _ cd Z L S8.o.at_ (Vm L D) (u.o.trans I5) (by have h1:=congrArg length u;rw[lM,lM,length_set,d9]at h1;have:=L1.o;omega));rw[a2]at G;refine oT 21 (λK hK=> ?_);go_simp;refine G.o.mono ?_;rintro e L⟨_,rfl,rfl,G⟩;have u:=kp G;clear G;try go_simp
 refine oK hK ?_ (λB=> ?_)
 .exact⟨al u q.1,al u q.2.1,al u q.2.2.1,al u q.2.2.2⟩
 clear hK K q;have q:=B;clear B;have G:=kp (D.o.trans (u.o.mono D.o.size));have u:=kp (OD L);refine tB 22 23 q ?_;refine oT 24 (λK hK=> ?_);go_simp;refine u.o.mono ?_;rintro e D⟨_,rfl,rfl,u⟩;have d0:=kp u;clear u;try go_simp
 refine oK hK ?_ (λB=> ?_)
 .exact⟨al d0 q.1,al d0 q.2.1,al d0 q.2.2.1,al d0 q.2.2.2⟩
 clear hK K q;have q:=B;clear B;refine tB 25 26 q ?_;refine bQ k_ ?_ _;try clear q
 refine NoPanic.normal ?_;have V:=kp (HR _ D rfl (G.o.trans (d0.o.mono G.o.size)));go_wp2;exact V
end Tc
namespace topRoll
open List Go.ChangeShapes Go.WideShapes Go.RowKit Base Tc
def walk{H:Type}{b:TypeId×Value->H}{base:Nat}{d0 d1 d2 d3:DataW H}{O p1 p2 E:List MemPlace}(x c d u:Value)(w:World)
 (n:Value.okWide Tryz.prog w .any base 25 x)(g:DataW.Trod b Tryz.prog w 0 (λ_=>true) true 25 x d0 O)
 (G:Value.okWide Tryz.prog w .any base 26 c)(R:DataW.Trod b Tryz.prog w 0 (λ_=>true) true 26 c d1 p1)
 (m:Value.okWide Tryz.prog w .any base 29 d)(C:DataW.Trod b Tryz.prog w 0 (λ_=>true) true 29 d d2 p2)
 (f:Value.okWide Tryz.prog w .any base 3 u)(D:DataW.Trod b Tryz.prog w 0 (λ_=>true) true 3 u d3 E) :
 Calls Tryz.prog 4 #[x,c,d,u] w λe w'=>e = .returned (.bool true)/\Below w.heap.size w w':=by
 obtain⟨s,rfl,M⟩:=Mz n g;obtain⟨N,n1,A,rfl⟩:=okWide_slice Tryz.underlying26 G;obtain⟨f1,h1⟩:=R;obtain⟨A1,L,c1,q,J,y,F,p⟩:=My h1;rw[q];obtain⟨A2,l2,c2,rfl,T,I⟩:=Mx m C;obtain⟨B,rfl,_,_,_⟩:=open_int Tryz.underlying3 f D;refine(aiC s _ L _ _ _ _ B w M ⟨o_,F,p⟩ I).mono ?_;rintro e w'⟨r,rfl,rfl,z⟩;grind
end topRoll
end Go.Proofs.YtibjlpkpljnicaaGreatDoor
