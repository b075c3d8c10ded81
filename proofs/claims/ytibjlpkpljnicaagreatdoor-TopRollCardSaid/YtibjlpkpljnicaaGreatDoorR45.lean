/- Parts. -/
import Derived.Test.YtibjlpkpljnicaaGreatDoorR33
import Derived.Test.YtibjlpkpljnicaaGreatDoorR42
import Derived.Test.YtibjlpkpljnicaaGreatDoorR44
set_option maxRecDepth 100000
set_option maxHeartbeats 8000000
set_option linter.all false
namespace Go.Proofs.YtibjlpkpljnicaaGreatDoor
namespace Tc
open List Go.RowKit Base Go.Maps Go.WideMaps Crc Pg Txt Go.Proofs.YtibjlpkpljnicaaGreatDoor.Nm Go.Proofs.Tryz
section
structure zv(b:List UInt8)(A:OA)(ys:List Fa)(m:Nat)(p:aQ)(x:Nat):Prop where
 at_:∃r,b.drop x=(bX (jv (decide (p.aj+1=ys.length)) m p).length++jv (decide (p.aj+1=ys.length)) m p)++r
 rd:∀w,cG w w.heap.size A ys->sD (jv (decide (p.aj+1=ys.length)) m p) w.heap.size A m ys p w
 n1:1<=ys.length
 n16:ys.length<=16
 aj:p.aj<ys.length
 sm:p.lists.length<=4/\∀l∈p.lists,l.length<=1000
 back:p.aj+1=ys.length\/∀c∈cR p,c.child<x
def fi(c:dd)(A:OA)(ys:List Fa)(w:World)(F:Nat->Prop):Prop:=∃b,eU c w b/\cG w w.heap.size A ys/\(∀k,cz A ys k->¬b k)/\F=λk=>b k\/cz A ys k
def eU.lt{c:dd}{w:World}{F:Nat->Prop}(h:eU c w F){k:Nat}(hk:F k):k<w.heap.size:=by
 obtain⟨r,e,f,os,D,n,b,m,d,rfl⟩:=h;exact d.fY hk
def eU.same{c:dd}{w w':World}{F:Nat->Prop}(h:eU c w F)(f:∀k,F k->w'.heap[k]? = w.heap[k]?):eU c w' F:=by
 obtain⟨r,e,g,os,D,n,b,m,d,rfl⟩:=h;exact⟨r,e,g,_,D,n,b,m,d.same f,rfl⟩
def fi.ok(c:dd)(A:OA)(ys:List Fa):qK (fi c A ys):=by
 refine⟨λw F b k hk=> ?_,λw w' F b g e=> ?_⟩
 .obtain⟨f,h1,h2,d,rfl⟩:=b;obtain hk|hk:=hk
  .exact h1.lt hk
  .exact h2.bU hk
 .obtain⟨f,h1,h2,d,rfl⟩:=b;exact⟨f,h1.same λk hk=>e k (.inl hk),(h2.same λk hk=>e k (.inr hk)).more g,d,rfl⟩
section
variable{c:dd}{w:World}{F:Nat->Prop}
def Ej(A:OA)(d cx m:Nat)(n:eU c w F)(ok:c.Ok){at_ k:Nat}(hk:at_+k<=c.b.length) :
 Calls prog 116 #[.agg #[Y c.gp 0,U A d cx,N m],N at_,N k] w (nQ c F (.tuple #[T (str ((c.b.drop at_).take k)),I 0]) w):=by
 have f:=(ah _ w).alloc (ae _) (.cells #[Y c.gp 0,U A d cx,N m] 120);obtain⟨s,r,u⟩:=j3_ (aa.new w 120 #[Y c.gp 0,U A d cx,N m]) (Ng (n.below f) ok hk) ((Mv.start F w).below f);obtain⟨D,y,C,_⟩:=s.three;clear n ok hk f;generalize str _=t at*;generalize x:w.alloc _=z at*;go_in;go_wp2_with fail;apply r.mono;rintro e B⟨rfl,q,g,m2⟩;have p:=J g;have v:=J (u.trans m2);clear g m2;go_wp2;go_ret2;exact⟨rfl,q,p,v⟩
def OT(w:World)(a b d e f g:Value):(Instr.field 122 (.agg #[a,b,d,e,f,g]) 4).run prog w = .ok f w:=by
 rfl
attribute [local go_sem] OT
def LG{n:Nd}:n.ls.flatMap Ll.cs++[n.all]=cR (aK n):=by rfl
def rC{B:Nat}{n:Nd}(h:gW B n){k:Nat}(hk:mE n k):B<=k:=by
 obtain⟨h1,off,e⟩|⟨l,b,h1,off,e⟩:=hk
 .exact h.1 k _ e h1
 .exact h.2 l b k _ e h1
def NG{A:OA}{ys:List Fa}{cx m:Nat}{p:aQ}{x:Nat}(hI:fi c A ys w F)(ok:c.Ok)(y:zv c.b A ys m p x) :
 Calls prog 48 #[.agg #[Y c.gp 0,U A ys.length cx,.int .i64 (m:Nat)],.int .i64 (x:Nat)] w (nP p (fi c A ys) F w):=by
 obtain⟨F0,hI,l4,l0,rfl⟩:=hI;obtain⟨r,u⟩:=y.at_;obtain⟨S,hS⟩:=e_ (jv (decide (p.aj+1=ys.length)) m p)
 rw[hS]at u;obtain⟨L,hL⟩:=e_ S.length
 have hz:=j7 L;have a2:=congrArg length u;rw[length_drop,aE,aE,j6,hL]at a2;have V:=ok.sO;obtain⟨nb,g9⟩:=e_ c.b.length
 rw[g9]at a2 V;obtain⟨k1,v1⟩:=e_ (min 9 (nb-x))
 have p9:bl (str ((c.b.drop x).take k1))=bX L++(S++r).take (k1-aM L):=by
  show(c.b.drop x).take k1=_;rw[u,hL,append_assoc,take_append,j6,take_of_length_le (by rw[j6];omega)]
 have q9:(c.b.drop x).take (L+aM L)=bX S.length++S:=by
  rw[u,take_left' (by rw[aE,j6,hL];omega)]
 have h6:=J (λW=>AU _ L _ W p9 o_ (by rw[dR,length_take];omega));have b8:=J (λW F1(h1:eU c W F1)=>Ej A ys.length cx m h1 ok (at_:=x) (k:=k1) o_);have c5:=J (λW F1(h1:eU c W F1)=>by have:=Ej A ys.length cx m h1 ok (at_:=x) (k:=L+aM L) o_;rw[q9]at this;exact this);have a3:=J (λW h1=>by have:=Iw S A cx m ys p W hS.symm (hS▸y.rd W h1) y.n1;exact this)
 have j2:Kp (∀W,E w W->Calls _ _ _ W _):=(λW hW=>by
  obtain⟨r1,fe,kv,os,D,n,hh,mm,d,_⟩:=hI.below hW;have:=Dz d;rw[g9]at this
  omega)
 have HI:=J (λW(hW:E w W)=>hI.below hW);have k7:=J (λk=>eU.lt hI (k:=k));have v5:IntKind.i64.wrap (nb-x)=(nb-x:Nat):=by rw[IntWalk.i64_in _ o_];omega
 have A8:max ((nb-x:Nat):Int) 1=(nb-x:Nat):=o_
 have t5:min 9 ((nb-x:Nat):Int)=k1:=o_
 have d8:=(ah _ w).alloc (ae _) (.cells #[Y c.gp 0,U A ys.length cx,.int .i64 m] 120);have O:=J ((aa.new w 120 #[Y c.gp 0,U A ys.length cx,.int .i64 m]).alloc (.cells zN 157));have b5:=J (aa.lay (w:=w.alloc (.cells #[Y c.gp 0,U A ys.length cx,.int .i64 m] 120)) (g:=w.heap.size+1) (t:=157) (cs:=zN) s_);have b9:=J (d8.alloc o_ (.cells zN 157));obtain⟨t1,q7⟩:=e_ (str ((c.b.drop x).take k1))
 obtain⟨t2,p7⟩:=e_ (str (bX S.length++S))
 rw[q7]at h6 b8;rw[p7]at c5 a3;have B:=J l4;have a9:=J l0;have n7:=J y.sm;have a7:=J y.back;have m0:=J (And.intro y.n1 (And.intro y.n16 y.aj));rw[hL]at a3;obtain⟨nx,n8⟩:=e_ ys.length
 rw[n8]at b8 c5 a3 O b5 b9 a7 m0⊢;clear hI l4 l0 y u hS hL hz a2 V g9 v1 p9 q9 q7 p7 d8 ok n8;generalize L+aM L=N at*;obtain⟨gq,p5⟩:=e_ w.heap.size
 have k2:=J p5;rw[p5]at O b5;generalize t9:(w.alloc _).alloc _=W0 at*;obtain⟨b0,b1,b2,_⟩:=O.three;have Z:Kp (∀k,F0 k->k<gq):=(λk hk=>by rw[<-k2];exact k7 k hk);obtain⟨wA,rfl⟩:∃wA,wA=w:=⟨w,rfl⟩
 go_in;go_upto_region 1 with fail
 clear t9;apply wp_region_noPanic;refine br (t:=99) (S:=(λw'=>C w' _ 0 _/\C w' _ 1 _/\C w' _ 2 _)) k_ ⟨b0,b1,b2⟩ (λf=> ?_);have z:=J (b9.trans (bR.drew.mono b9.size));have n6:=J (O.under bR.drew);have s4:=J (b5.under bR.drew);generalize W0.drew=wd at*;apply tD 0 1 2 3 f;apply tk 6 f;refine oT 4 (λK hK=> ?_)
 go_simp
 apply(j2 _ z).mono;rintro e w2⟨rfl,b4⟩;have g8:=ay z b4;have H:=bu n6 b4;have i1:=bu s4 b4;clear b4
 try go_simp
 refine oK hK ?_ (λs=> ?_)
 .exact⟨H.cell 0,H.cell 1,H.cell 2⟩
 clear hK K f;have f:=s;clear s;apply tD 5 7 8 9 f;refine oT 10 (λK hK=> ?_)
 go_simp
 apply(b8 _ _ (HI _ g8)).mono;rintro e w3⟨rfl,F3,i3,m3⟩;have I3:=J i3;have M3:=J (((Mv.start _ _).below g8).trans m3);have a4:=J (m3.box H (λe=>Nat.lt_irrefl _ (Z _ e))).1;have q0:=J (m3.box i1 (λe=>by have:=Z _ e;omega)).1;have c6:=J (And.intro (m3.box H (λe=>Nat.lt_irrefl _ (Z _ e))).2 (m3.box i1 (λe=>by have:=Z _ e;omega)).2);clear i3 m3
 try go_simp
 refine oK hK ?_ (λs=> ?_)
 .exact⟨a4.cell 0,a4.cell 1,a4.cell 2⟩
 clear hK K f;have f:=s;clear s;apply tD 11 12 13 14 f;apply tk 15 f;refine bQ k_ ?_ _
 try clear f
 apply NoPanic.normal;clear n6 s4 z H i1 g8 O b5 b9 b0 b1 b2 v5 A8 t5 b8 j2;go_wp2_with fail;apply(h6 _).mono;rintro e w4⟨rfl,R⟩;have I4:=J (I3.below R);have M4:=J (M3.below R);have g5:=bu a4 R;have h3:=bu q0 R;obtain⟨b0,b1,b2,_⟩:=g5.three;clear R a4 q0 I3 M3 h6;go_wp2_with fail;apply(c5 _ _ I4).mono;rintro e w5⟨rfl,F5,i5,m5⟩;have I5:=J i5;have M5:=J (M4.trans m5);have h2:=J (m5.box g5 c6.1).1;have d5:=J (m5.box h3 c6.2).1;have n9:=J (m5.box h3 c6.2).2;have k5:=J (a3 _ ((B.same λk hk=>M5.still (B.bU hk) (a9 k hk)).more M5.ax.size));clear i5 m5 b0 b1 b2 g5 h3 c6 I4 M4 c5 a3 HI;obtain⟨b0,b1,b2,_⟩:=h2.three;go_wp2_with fail;apply k5.mono;rintro e w6⟨nd,rfl,hp,u,q5,k4,M⟩;have b6:=LG (n:=nd);rw[hp]at b6;have a1:nd.ls.length<=4/\∀l∈nd.ls,l.cs.length<=1000:=by
  have a6:=n7.o;rw[<-hp]at a6;unfold aK at a6;grind
 have i9:p.aj=nd.aj:=by rw[<-hp];rfl
 have A2:(cR p).length<=4001:=by
  rw[<-b6,aE,sS];have h1:=count_le a1.2 nd.ls.length;rw[take_of_length_le o_]at h1;have:=a1.1;rw[length_singleton];omega
 have HE:Kp (∀w',E _ w'->Calls prog 119 #[.agg (aZ nd)] w' (mL (cR p) w')):=(λw' y=>by have:=x9 _ _ ((u.below y).more y.size) o_ a1.2;grind)
 have p8:Kp (∀w',Calls _ _ #[.agg #[U A nx cx,.int _ _],I nd.aj] _ (R_ _ w')):=(λw'=>by
  have hd:=m0.o
  exact mD A _ _ m _ _ o_ o_ o_)
 have I6:=J (I5.below M);have M6:=J (M5.below M);have q8:=bu h2 M;have p6:=bu d5 M;have m9:=J d5.lt;have m7:=J u;have c4:=J q5;have k9:=J k4;have k8:=J hp;rw[i9]at a7
 have HQ:Kp (∀wr,E _ wr->nP p (fi c A _) (λk=>F0 k\/cz A _ k) _ (.returned (.tuple #[.agg _,I 0])) _):=(λwr y=>by
  have T:∀k,k≠gq+1->(aH _ _ 0 (cO nd)).heap[k]? = wr.heap[k]?:= λk hk=>ee hk _ _ _
  have hz:=nH (gq+1) (cO nd) wr 0;have h5:=m9.o;have hm:=((M6.below y).aH (g:=gq+1) o_ 0 (cO nd))
  refine⟨_,λk=>F5 k\/cz A _ k,rfl,k8,?_,λk hk=> ?_,k9,⟨_,(I6.below y).same λk hk=>T k (λe=>n9 (e▸hk)),(B.same λk hk=>hm.still (B.bU hk) (a9 k hk)).more hm.ax.size,λk hk=>hm.off (B.bU hk) (a9 k hk),rfl⟩,⟨hm.ax.more λk e=> .inl e,λk e=> ?_⟩⟩
  .rw[hz];have ha:=(m7.below y).more y.size;exact⟨fO ha.row λk hk=>T k (by have:=rC c4 (.inl hk);omega),λl hl=>fO (ha.each l hl) λk hk=>T k (by have:=rC c4 (.inr ⟨l,hl,hk⟩);omega)⟩
  .have h1:=rC c4 hk;refine⟨o_,λe=> ?_⟩;obtain e|e:=e
   .have:=I5.lt e;omega
   .have:=B.bU e;omega
  .obtain e|e:=e
   .obtain q|q:=hm.sub k e
    .exact .inl (.inl q)
    .exact .inr q
   .exact .inl (.inr e))
 have n3:=(ah _ w6).alloc (ae _) (.cells zN 157);have HZ:=J (aa.new w6 157 zN);have c3:=J (fq (ae _) (cO nd) _ 0 n3);have b7:Kp (aa _ _ _ (aZ _)):=dS HZ (cO nd) rfl;obtain⟨⟨r0,r1,r2,r3,r4,r5,r6,r7,r8,r9,h4,h9,k0,n5⟩,⟨f0,f1,f2,f3,f4,f5,f6,f7,f8,f9,d3,d4,q2,p3⟩⟩:=aa.bK HZ;clear u q5 k4 M hp n3 HZ b6 a1 i9 b0 b1 b2 h2 d5 m9 m7 c4 k9 k8 I5 M5 I6 M6 n7 k5 n9 B a9 k7 Z;obtain⟨aj,nA,ls,nc,⟨key,child,⟨ac,s0,n0,x0,s1,n1,x1,s2,n2,x2⟩⟩⟩:=nd;dsimp only[aZ,cO]at HE b7 c3 p8 HQ a7;generalize t7:w6.alloc _=W7 at*;generalize q6:aH _ _ 0 _=W8 at*;simp only[aH,Nat.zero_add,Nat.reduceAdd]at q6;go_upto_region 11 with fail
 clear t7 q6 r0 r1 r2 r3 r4 r5 r6 r7 r8 r9 h4 h9 k0 n5 f0 f1 f2 f3 f4 f5 f6 f7 f8 f9 d3 d4 q2 p3;obtain⟨z0,z1,z2,z3,z4,z5,z6,z7,z8,z9,m4,m6,j3,o2⟩:=(aa.bK b7).1;go_wp2_with fail;apply(HE _ c3).mono;rintro e w9⟨v9,rfl,d9,h7⟩;obtain⟨A9,c9,rfl⟩:=cI d9;have x7:=J (dF d9);have a8:=ay c3 h7;have k3:=bu b7 h7;have x8:=J (q8.under a8);have v6:=J (p6.under a8);obtain⟨q,hq⟩:=e_ ((cR p).length)
 have Hq:=J hq;rw[hq]at A2⊢;clear d9 h7 hq z0 z1 z2 z3 z4 z5 z6 z7 z8 z9 m4 m6 j3 o2 b7 HE q8 p6 c3;go_wp2
 go_loopw [67] (λg0 wr=>∃(k:Nat),k<=q/\g0 = .int .i64 (k:Nat)/\E w9 wr) (λg0 _=>q-(intOf g0).toNat)
 case atStart=>exact⟨0,o_,rfl,bR⟩
 .obtain⟨k,hk,rfl,k6⟩:=hrel;have X:=J k6;clear k6;by_cases u8:k<q
  .have b3:k<(cR p).length:=by rw[Hq];omega
   obtain⟨bc,oc,u6,H5,e0,e1,e2,e3,e4,e5,e6,e7,e8,e9,u3,t8⟩:=nV (x7.below X) k b3;have d0:Kp _:=a7.imp id λh=>h _ (gM b3);generalize((cR p)[k]'b3)=cc at*;obtain⟨ck,G,⟨ca,d6,i0,d7,d2,h0,g3,h8,g7,g6⟩⟩:=cc;dsimp only at e0 e1 e2 e3 e4 e5 e6 e7 e8 e9 u3 t8 d0;have q3:=(ah _ wr).alloc (ae _) (.cells zC 155);have g4:=J (aa.new wr 155 zC);have c7:=fq (ae _) [.int .i64 ck,.int .i64 G,I ca,I d6,I i0,I d7,I d2,I h0,I g3,I h8,I g7,I g6] _ 0 q3;have l7:Kp (aa _ _ _ #[.int .i64 ck,.int .i64 G,I ca,I d6,I i0,I d7,I d2,I h0,I g3,I h8,I g7,I g6]):=dS g4 _ rfl;obtain⟨⟨r0,r1,r2,r3,r4,r5,r6,r7,r8,r9,h4,h9⟩,⟨f0,f1,f2,f3,f4,f5,f6,f7,f8,f9,d3,d4⟩⟩:=aa.gu g4;generalize S7:wr.alloc _=Wc at*;generalize v4:aH _ _ 0 _=Wd at*;simp only[aH,Nat.zero_add,Nat.reduceAdd]at v4;have O2:C _ _ 1 (.int _ _):=l7.cell 1;have z:=ay X c7;obtain⟨p0,p1,p2,_⟩:=(x8.under z).three;have z0:C _ _ 0 (.int _ _):=(k3.under z).cell 0;have j0:0<=(k:Int):=o_
   have j1:k<(q:Int):=o_
   clear q3 g4 l7 c7;rw[u6];by_cases S9:x<=G
   .have q4:=J (p8 Wd);rw[decide_eq_true (d0.resolve_right o_)]at q4;go_wp2_with fail;apply q4.mono;rintro e wl⟨rfl,V⟩;have A4:=ay z V;clear V;go_wp2;exact⟨⟨k+1,o_,o_,A4⟩,o_⟩
   .go_wp2;exact⟨⟨k+1,o_,o_,z⟩,o_⟩
  .obtain rfl:k=q:=o_
   have m8:=J (v6.under X);have Hf:=J (HQ _ (a8.trans (X.mono a8.size)));have HF:=J (dS m8 [.int .i64 aj,U nA ls.length nc,.int .i64 key,.int .i64 child,I ac,I s0,I n0,I x0,I s1,I n1,I x1,I s2,I n2,I x2] rfl);obtain⟨z0,z1,z2,z3,z4,z5,z6,z7,z8,z9,m4,m6,j3,o2⟩:=(aa.bK (k3.under X)).1;obtain⟨⟨r0,r1,r2,r3,r4,r5,r6,r7,r8,r9,h4,h9,k0,n5⟩,⟨f0,f1,f2,f3,f4,f5,f6,f7,f8,f9,d3,d4,q2,p3⟩⟩:=aa.bK m8;generalize t4:aH _ _ 0 _=Wf at*;simp only[aH,Nat.zero_add,Nat.reduceAdd]at t4;obtain⟨y0,y1,y2,y3,y4,y5,y6,y7,y8,y9,v2,w8,w1,x6⟩:=(aa.bK HF).1;go_wp2;refine bodyPost_ret (v:= .tuple #[.agg #[.int _ _,U _ _ _,.int _ _,.int _ _,I _,I _,I _,I _,I _,I _,I _,I _,I _,I _],I 0]) ?_ rfl Hf;simp[results,go_sem,y0,y1,y2,y3,y4,y5,y6,y7,y8,y9,v2,w8,w1,x6]
end
end
section
def xV(A:OA)(l:List Nd)(k:Nat):Prop:=cE A (l.flatMap cO) k\/∃n∈l,mE n k
def gX.same{w w':World}{B:Nat}{A:OA}{l:List Nd}(h:gX w B A l)(c:∀k,xV A l k->w'.heap[k]? = w.heap[k]?):gX w' B A l:=
 ⟨fO h.row λk hk=>c k (.inl hk),λn b=>⟨fO (h.each n b).row λk hk=>c k (.inr ⟨n,b,.inl hk⟩),λx hx=>fO ((h.each n b).each x hx) λk hk=>c k (.inr ⟨n,b,.inr ⟨x,hx,hk⟩⟩)⟩⟩
def gX.bU{w:World}{B:Nat}{A:OA}{l:List Nd}(h:gX w B A l){k:Nat}(hk:xV A l k):k<B:=by
 obtain hk|⟨n,b,hk|⟨x,hx,hk⟩⟩:=hk
 .exact Row.bU h.row hk
 .exact Row.bU (h.each n b).row hk
 .exact Row.bU ((h.each n b).each x hx) hk
def dr(ga:Nat)(X:List LN)(m:Nat)(e:List aQ)(Ax:OA)(ys:List Fa)(w:World)(F:Nat->Prop):Prop:=∃(A d:OA)(c f most:Nat)(xs:List Fa)(b:List Nd),
 aa w ga 217 (eV A xs.length c m d b.length f most)/\cG w w.heap.size A xs/\xs.map Fa.keys=X/\gX w w.heap.size d b/\b.map aK=e/\cG w w.heap.size Ax ys/\F=λk=>k=ga\/cz A xs k\/xV d b k\/cz Ax ys k
section
variable{ga:Nat}{X:List LN}{m:Nat}{ns:List aQ}{Ax:OA}{ys:List Fa}{w w':World}{F:Nat->Prop}
def dr.at_(h:dr ga X m ns Ax ys w F):jf w ga X m ns:=by
 obtain⟨A,f,c,n,most,xs,b,h1,h2,g,d,e,p,rfl⟩:=h;exact⟨A,f,c,n,_,_,b,h1,h2,g,d,e⟩
def dr.ok(ga:Nat)(X:List LN)(m:Nat)(u:List aQ)(Ax:OA)(ys:List Fa):qK (dr ga X m u Ax ys):=by
 refine⟨λw F n k hk=> ?_,λw w' F n f d=> ?_⟩
 .obtain⟨A,r,c,s,most,xs,b,h1,h2,q,g,p,e,rfl⟩:=n;obtain rfl|hk|hk|hk:=hk
  .exact h1.lt
  .exact h2.bU hk
  .exact g.bU hk
  .exact e.bU hk
 .obtain⟨A,r,c,s,most,xs,b,h1,h2,q,g,p,e,rfl⟩:=n;exact⟨A,r,c,s,_,_,b,(d _ (.inl rfl)).trans h1,(h2.same λk hk=>d k (.inr (.inl hk))).more f,q,(g.same λk hk=>d k (.inr (.inr (.inl hk)))).more f,p,(e.same λk hk=>d k (.inr (.inr (.inr hk)))).more f,rfl⟩
def dr.below(h:dr ga X m ns Ax ys w F)(b:E w w'):dr ga X m ns Ax ys w' F:=(dr.ok _ X m _ _ _).same w _ F h b.size λk hk=>b.block k ((dr.ok _ X m _ _ _).lt w F h k hk)
def sI(I:World->(Nat->Prop)->Prop)(N:Nat)(b:Value)(top:Int)(F:Nat->Prop)(w:World)(e:Ending)(w':World):Prop:=∃gs,e = .returned (Y gs 0)/\iq I N b gs top w' (λk=>k=gs\/F k)/\E w w'/\w.heap.size<=gs
def OU(w:World)(a b d e f g:Value):(Instr.field 122 (.agg #[a,b,d,e,f,g]) 4).run prog w = .ok f w:=by
 rfl
def OV(w:World)(a b d e f g:Value):(Instr.field 122 (.agg #[a,b,d,e,f,g]) 5).run prog w = .ok g w:=by
 rfl
attribute [local go_sem] OU OV
def fi.below{c:dd}{w w':World}{F:Nat->Prop}(h:fi c Ax ys w F)(b:E w w'):fi c Ax ys w' F:=(fi.ok c _ _).same w _ F h b.size λk hk=>b.block k ((fi.ok c _ _).lt w F h k hk)
def dd.top(c:dd):Int:=if 0<c.b.length then c.rt else -1
def Ex{c:dd}{cx:Nat}(h:fi c Ax ys w F):Calls prog 17 #[Y c.gp 0,.agg #[U Ax ys.length cx,N m]] w (sI (fi c Ax ys) 48 (.agg #[Y c.gp 0,U Ax ys.length cx,N m]) c.top F w):=by
 have r:Kp (∀W,E w W->Calls _ _ _ W _):=(λW z=>by
  obtain⟨u,h1,_⟩:=h.below z;obtain⟨u,u,u,os,D,n,u,u,d,_⟩:=h1;exact Dz d)
 have L:Kp (∀W,E w W->sI _ 48 _ _ F w _ (W.alloc (.cells #[.func (.func 48) _ _,I _,I 0] _))):=(λW z=>by
  have u:=z.alloc z.size (.cells #[.func (.func 48) #[.agg #[Y c.gp 0,U Ax ys.length cx,N m]] #[],I c.top,I 0] 118);exact⟨_,rfl,⟨0,F,aa.new _ _ _,λe=>by have:=(fi.ok c _ _).lt w F h _ e;have:=z.size;omega,h.below u,rfl⟩,u,z.size⟩)
 have ht:c.top=if 0<c.b.length then c.rt else -1:=rfl;obtain⟨x,H⟩:=e_ ys.length;rw[H]at L⊢;generalize c.top=tp at*;obtain⟨nb,G⟩:=e_ c.b.length;rw[G]at r ht;have y:=(ah _ w).alloc (ae _) (.cells #[U Ax x cx,N m] 43);have R:=J (aa.new w 43 #[U Ax x cx,N m]);obtain⟨T,z,_⟩:=R.two;have p:=J (y.alloc o_ (.cells #[Y c.gp 0,U Ax x cx,N m] 120));have s:=J (aa.lay (w:=w.alloc (.cells #[U Ax x cx,N m] 43)) (g:=w.heap.size+1) (t:=120) (cs:=#[Y c.gp 0,U Ax x cx,N m]) s_);clear h y R H G;generalize v:w.alloc _=u at*;have C:u.heap.size=w.heap.size+1:=by rw[<-v];simp
 generalize A:u.alloc _=u at*;go_in;by_cases Z:0<nb
 .obtain rfl:tp=c.rt:=o_
  clear ht;go_wp2_with fail;apply(r _ p).mono;rintro e X⟨rfl,f⟩;clear v A C T z;have q:=ay p f;have B:=bu s f;clear f s p;go_wp2_with fail;apply(r _ q).mono;rintro e y⟨rfl,u⟩;have O:=ay q u;obtain⟨G,p1,p2,_⟩:=(B.under u).three;have M:=J (L y O);clear u B q L;go_wp2;go_ret;exact M
 .obtain rfl:tp = -1:=o_
  clear ht;go_wp2_with fail;apply(r _ p).mono;rintro e X⟨rfl,f⟩;clear v A C T z;have q:=ay p f;obtain⟨G,p1,p2,_⟩:=(s.under f).three;have M:=J (L X q);clear f s p L;go_wp2;go_ret;exact M
def NH:∀(args:AV)(w:World),(callFunc 48 args).run prog w = .ok (.enter 48 args) w:=by
 simp
def MS{gs d cx:Nat}{c:dd}{S:LN}(ok:c.Ok)(hx:ys.length=d)(e:∀(i:Nat)(n:aQ),ns[i]? = some n->zv c.b Ax ys m (ph d S n) (S.getD i 0)) :
 mh (iq (fi c Ax ys) 48 (.agg #[Y c.gp 0,U Ax ys.length cx,N m]) gs c.top) gs c.top d ns (dV S):=
 ⟨(iq.ok (fi.ok c _ _)).lt,(iq.ok (fi.ok c _ _)).same,λw F h=>EF h,λw F i n h hi=>Eu (fi.ok c _ _) NH (λw F h1=>NG h1 ok (e i n hi)) h⟩
end
end
end Tc
end Go.Proofs.YtibjlpkpljnicaaGreatDoor
