/- Parts. -/
import Derived.Test.YtibjlpkpljnicaaGreatDoorR27
import Derived.Test.YtibjlpkpljnicaaGreatDoorR32
set_option maxRecDepth 100000
set_option maxHeartbeats 8000000
set_option linter.all false
namespace Go.Proofs.YtibjlpkpljnicaaGreatDoor
namespace Tc
open List Go.RowKit Base Go.Proofs.Tryz
def Is A(l:List ByteArray) c x w(n:l.length<=1000000)(m:Row w w.heap.size A (l.map .string)):Calls prog 246 #[U A l.length c,T x] w λe w'=>e = .returned (.bool (l.any λy=>y.toList == x.toList))/\w'=w:=by
 obtain h|⟨b,off,rfl,p,f⟩:=m
 .have h0:=map_eq_nil_iff.1 h;subst h0;exact Tryz.slices_Contains_string_empty A c x w
 .have:=Tryz.slices_Contains_string b _ _ c l x w (ae _) o_ (λj d=>f j _ r_);refine this.mono λe w'⟨h1,h2⟩=>⟨?_,h2⟩;rw[h1,take_length];congr 2;rw[Bool.eq_iff_iff,Lib.containsS_iff,any_eq_true];constructor
  .grind
  .rintro⟨y,g,e⟩;rw[<-wM e];omega
def IM:∀(args:AV)(w:World),(callFunc 242 args).run prog w = .ok (.enter 242 args) w:=by
 simp
def IN:∀(args:AV)(w:World),(callFunc 244 args).run prog w = .ok (.enter 244 args) w:=by
 simp
def IP:∀(args:AV)(w:World),(callFunc 245 args).run prog w = .ok (.enter 245 args) w:=by
 simp
abbrev oP(b:Bool)(w:World)(e:Ending)(w':World):Prop:=e = .returned (.bool b)/\E w w'
def N6 k w:Calls prog 242 #[N k] w (oP true w):=by
 go_in;go_wp2;go_ret;exact⟨rfl,bR⟩
def N7 k a b ga gb w(e:C w ga 0 (N a))(f:C w gb 0 (N b)):Calls prog 244 #[N k,Y ga 0,Y gb 0] w (oP (decide (a<=k)&&decide (k<b)) w):=by
 have h1:(a<=(k:Int))↔a<=k:=o_;have h2:(k<(b:Int))↔k<b:=o_;by_cases c1:a<=k
 .by_cases c2:k<b
  .rw[decide_eq_true c1,decide_eq_true c2];go_in;go_wp2;go_ret;exact⟨rfl,bR⟩
  .rw[decide_eq_true c1,decide_eq_false c2];go_in;go_wp2;go_ret;exact⟨rfl,bR⟩
 .rw[decide_eq_false c1,Bool.false_and];go_in;go_wp2;go_ret;exact⟨rfl,bR⟩
def N8 k gp gt ct cs A At(set ar:List ByteArray) x w(hk:ar[k]? = some x)(s:C w gp 4 (U A set.length cs))(ht:C w gt 0 (U At ar.length ct))(I:set.length<=1000000)(u:Row w w.heap.size A (set.map .string))(v:Row w w.heap.size At (ar.map .string)):Calls prog 245 #[N k,Y gp 0,Y gt 0] w (oP (set.any λy=>y.toList == x.toList) w):=by
 obtain⟨m,p⟩:=aO hk;obtain⟨b,off,rfl,_,c0⟩:=v.at_ (by rw[lM];exact m);rw[getElem_map,p]at c0;have z:=J (λW(B:E w W)=>Is A _ cs x W I ((u.below B).more B.size));have D:Kp (∀W,E w W->oP (set.any λy=>y.toList == x.toList) w _ W):=λW h=>⟨rfl,h⟩;generalize H:oP _ w=Q at*;generalize(set.any λy=>y.toList == x.toList)=R at*;clear H u v hk p;obtain⟨F,n⟩:=e_ set.length;obtain⟨nt,q⟩:=e_ ar.length;rw[n]at s z;rw[q]at ht m;clear n q;have O:0<=(k:Int):=o_;have M:k<(nt:Int):=o_;have hd:=(ah w.heap.size w).drew;have Hd:=J hd;have f:=al hd s;have d:=al hd ht;have g:=al hd c0;go_in;go_upto_region 1 with fail;apply wp_region_noPanic;refine br (t:=7) (S:=(λw'=>C w' _ 4 _/\C w' _ 0 _/\C w' b _ (T x))) k_ ⟨f,d,g⟩ (λc=> ?_);generalize w.drew=wd at*;apply tD 0 1 2 3 c;apply tB 4 5 c;refine oT 6 (λK hK=> ?_);go_simp;apply(z _ Hd).mono;rintro e L⟨rfl,r⟩;subst r;try go_simp
 refine oK hK ?_ (λc=> ?_)
 .omega
 clear hK K c;refine fC k_ (by first|exact g_|rfl) k_ (λK hK=> ?_);go_simp;apply hK.out _ _;clear hK K c;apply NoPanic.normal
 have G:=J (D _ Hd);clear s ht c0 f d g hd;go_wp2;exact G
def qI(d:au)(p:Pk)(g:Nat)(w:World)(e:Ending)(w':World):Prop:=∃(c:Nat)(b:AV),e = .returned (.func (.func c) #[] b)/\(∀(args:AV)(w:World),(callFunc c args).run prog w = .ok (.enter c args) w)/\E w w' /\
 ∀(k:Nat)(W:World),(p.f≠0->k<(bE d p.t).length)->aq (·=g) w' W->Calls prog c (#[N k]++b) W (oP (dY d p k) W)
def sU{g w w'}(h:aq (·=g) w w'){k o}(hk:k≠g){v}(b:C w k o v):C w' k o v:=
 (bF (h.block k (mq b) hk)).trans b
def wI{B g w c w'}(b:Below B w c)(h:aq (·=g) c w')(e:B<=g)(d:B<=c.heap.size):Below B w w':=
 ⟨h.os.trans b.os,h.tape.trans b.tape,h.output.trans b.output,aF b.size h.size,λk hk=>(h.block k o_ o_).trans (b.block k hk)⟩
def Na d p q B0 w(c8:B0<=q)(h4:q<w.heap.size)(a5:dB w B0 d)(ho:da d)(a3:jO w B0 p)(hk:gz d p):Calls prog 183 #[.agg (aU d),.agg (cT p)] w (qI d p q w):=by
 have hd:=a5.more (show B0<=w.heap.size by omega);have M:=a3.more (show B0<=w.heap.size by omega);have X:=(ah _ w).alloc (ae _) (.cells (aU d) 70);have z:=J (aa.new w 70 (aU d));obtain⟨w1,V⟩:=e_ (w.alloc (.cells (aU d) 70));rw[V]at X z;have G:=X.alloc X.size (.cells (cT p) 58);have v:=J (aa.new w1 58 (cT p));have a7:=J (z.alloc (.cells (cT p) 58));obtain⟨I,O⟩:=e_ (w1.alloc (.cells (cT p) 58));rw[O]at G v a7;have F:=J G;have m:=hk.t;have D:=ho.ai _ m;have hA:=hd.ai _ (gM m);have L:bE d p.t=(d.ai[p.t]'m).ar:=by unfold bE;rw[gE m];rfl
 have d2:Kp (∀W,E w W->Row W _ _ ((bE d _).map _)):=(λW r=>by rw[L];exact(hA.ar.below r).more r.size);have HB:Kp (∀W,E w W->Calls _ _ #[U _ _ (d.ai[p.t]'m).ct,T p.lo,T p.hi] W _):=λW r=>Gw _ _ _ _ _ W (by rw[L];have:=D.n2;omega) (d2 W r) (by rw[L];exact D.row);obtain⟨bt,ot,eA,c0,c1,c2⟩:=(((hd.below G).more G.size).rY _ m);rw[show(d.ai[p.t]'m).ar.length=(bE d _).length by rw[L]]at c1;have e4:(bE d p.t).length<=1000000:=by rw[L];have:=D.n2;omega
 have c5:=a5.ai _ (gM m);have H:Kp (∀W,Below _ w W->Row W _ _ _):=λW r=>(a3.set.below r).more (aF o_ r.size);have a0:Kp (∀W,Below _ w W->Row W _ _ ((bE d _).map _)):=(λW r=>by rw[L];exact(c5.ar.below r).more (aF o_ r.size));have e8:=M.n;have H0:Kp (p.f=0->∀W,E w W->qI d p q w _ W):=λh0 W r=>⟨_,#[],rfl,IM,r,λk u _ s=>by
  have:dY d p k=true:=by unfold dY;grind
  rw[this];exact N6 k u⟩
 have H1:Kp (p.f=1->∀W a b ga gb,E w W->(∀ k y,(bE d _)[k]? = some y->(decide _&&decide _)=(!Op.bytesLess _ _ && !Op.bytesLess _ _))->ga≠q->gb≠q->C W _ 0 (N a)->C W _ 0 (N b)->qI d p q w (.returned (.func _ _ #[Y _ 0,Y _ 0])) W):=λh0 W a b ga gb r R na nb ca Z=>⟨_,_,rfl,IN,r,λk u a9 s=>by
  have x:=a9 o_;have:dY d p k=(decide (a<=k)&&decide (k<b)):=by
   unfold dY;rw[if_neg o_,if_pos h0];have hn:eI d p.t k=(bE d _)[k]:=by unfold eI;rw[gE x];rfl
   rw[hn,R k _ (gE x)]
  rw[this];exact N7 k a b _ _ u (sU s na ca) (sU s nb Z)⟩
 have H2:Kp (p.f=2->∀W gp gt,E w W->gp≠q->gt≠q->C W _ 4 (U _ _ p.c)->C W _ 0 (U _ _ (d.ai[p.t]'m).ct)->qI d p q w (.returned (.func _ _ #[Y _ 0,Y _ 0])) W):=λh0 W gp gt r na nb ca Z=>⟨_,_,rfl,IP,r,λk u a9 s=>by
  have x:=a9 o_;have:dY d p k=(p.set.any λy=>y.toList == ((bE d _)[k]'x).toList):=by
   unfold dY;rw[if_neg o_,if_neg o_];have hn:eI d p.t k=(bE d _)[k]:=by unfold eI;rw[gE x];rfl
   rw[hn]
  rw[this];exact N8 k _ _ _ _ _ _ _ _ _ u (gE x) (sU s na ca) (sU s nb Z) e8 (H u (wI (r.mono o_) s c8 (aF o_ r.size))) (a0 u (wI (r.mono o_) s c8 (aF o_ r.size)))⟩
 have Z:p.f=0\/p.f=1\/p.f=2:=by rcases hk.kind with⟨h,_⟩|⟨h,_⟩|⟨h,_⟩<;>omega
 generalize(d.ai[p.t]'m)=u at*;clear hd ho M hk X G D hA L d2 a5 a3 c5 H a0;generalize y:qI d p q w=Q at*;clear y;obtain⟨G,y,D,y⟩:=d;dsimp only at eA;subst eA;obtain⟨f,t,lo,hi,A,set,c,g,b⟩:=p;dsimp only[cT,aU]at*;generalize bE _ t=ar at*;obtain⟨nd,y⟩:=e_ D.length;obtain⟨D,D⟩:=e_ set.length;obtain⟨nt,G⟩:=e_ ar.length;rw[y]at z a7 V m⊢;rw[D]at v O H2⊢;rw[G]at c1 HB H2 e4;clear D y G;obtain⟨p0,p1,p2,p3,y,p5,p6⟩:=aa.seven v;obtain⟨L,e1,_,_⟩:=a7.two;have D:0<=(t:Int):=o_;have t1:t<(nd:Int):=o_;have D:=J Z;clear Z;obtain Z|Z|Z:=D
 .have G:=J (H0 Z);have f0:((f:Int) == 0)=true:=o_;clear Z;go_in;go_wp2;exact G _ F
 .have G:=J (H1 Z);have f0:((f:Int) == 0)=false:=o_;have f1:((f:Int) == 1)=true:=o_;clear Z;have B:=F.alloc F.size (.cells #[U u.At nt u.ct] 23);obtain⟨b0,b1,M⟩:=j3_ (aa.new I 23 #[U u.At nt u.ct]) (v.alloc (.cells #[U u.At nt u.ct] 23)) B;clear B;go_in;go_upto_region 4 with fail;generalize I.alloc _=w3 at*;generalize I.heap.size=g5 at*;clear V O p0 p1 p2 p3 y p5 p6 L e1 c0 c1 c2;obtain⟨p0,p1,p2,p3,y,p5,p6⟩:=aa.seven b1;obtain⟨q0,_⟩:=b0.one;go_wp2_with fail;apply(HB _ M).mono;rintro e D⟨a,b',rfl,g6,R,b8⟩;have a8:=ay M b8;have e9:=J R;clear b8 R p0 p1 p2 p3 y p5 p6 q0;have a2:=a8.alloc a8.size (.cells #[N a] 3);have b9:=a2.alloc a2.size (.cells #[N b'] 3);have c6:=((aa.new D 3 #[N a]).alloc (.cells #[N b'] 3)).cell 0;have a4:=(aa.new (D.alloc (.cells #[N a] 3)) 3 #[N b']).cell 0;have c4:(D.alloc (.cells #[N a] 3)).heap.size=D.heap.size+1:=s_;rw[c4]at a4;have D:=a8.size;have D:=J (G _ a _ _ _ b9 e9 o_ o_ c6 a4);clear a2 b9 c6 a4 c4;go_wp2;exact D
 .have G:=J (H2 Z);have f0:((f:Int) == 0)=false:=o_;have f1:((f:Int) == 1)=false:=o_;clear Z;have B:=F.alloc F.size (.cells #[U u.At nt u.ct] 23);obtain⟨b0,b1,M⟩:=j3_ (aa.new I 23 #[U u.At nt u.ct]) (v.alloc (.cells #[U u.At nt u.ct] 23)) B;clear B;go_in;go_upto_region 4 with fail;generalize I.alloc _=w3 at*;have b5:=v.lt;have d4:=z.lt;generalize I.heap.size=g5 at*;clear V O p0 p1 p2 p3 y p5 p6 L e1 c0 c1 c2;obtain⟨p0,p1,p2,p3,y,p5,p6⟩:=aa.seven b1;obtain⟨q0,_⟩:=b0.one;have D:=J (G _ _ _ M o_ o_ y q0);go_wp2;exact D
def NO(p:Pk)(w:World)(C:p.t<=1000000)(x:p.bG<=1000000):Calls Tryz.prog 182 #[.agg (cT p)] w λe w'=>e = .returned (.int .i64 (iN p))/\Below w.heap.size w w':=by
 have u:=(ah _ w).alloc (ae _) (.cells (cT p) 58);have y:=kp (aa.new w 58 (cT p));have r:=kp (show∀z W,z=iN p->Below w.heap.size w W->(λ(e:Ending) w'=>e = .returned (.int .i64 (iN p))/\Below w.heap.size w w') (.returned (.int .i64 z)) W fromλz W h1 h2=>r_);have q:=kp u;have v:=kp (show iN p=if p.f=0 then(if p.g=true then(p.bG:Int)else -1)else if p.g=true then(min p.t p.bG:Nat)else p.t from by
  unfold iN gj;grind)
 generalize s:(λ(e:Ending) w'=>e = .returned _/\Below _ w _)=Q at*;generalize iN p=V at*;clear s u;obtain⟨f,t,lo,hi,A,set,c,g,b⟩:=p;dsimp only[cT]at*;by_cases h0:f=0
 .have B:((f:Int) != 0)=false:=o_
  have m:=v.o;rw[if_pos h0]at m;clear h0;obtain _|_:=g
  .have d:=kp (r (-1) _ r_ q);clear m;go_enter Tryz.func182,Tryz.ntmps182;go_wp2;exact d
  .have d:=kp (r b _ r_ q);clear m;go_enter Tryz.func182,Tryz.ntmps182;go_wp2;exact d
 .have B:((f:Int) != 0)=true:=o_
  have m:=v.o;rw[if_neg h0]at m;clear h0;obtain _|_:=g
  .have d:=kp (r t _ r_ q);clear m;go_enter Tryz.func182,Tryz.ntmps182;go_wp2;exact d
  .have d:=kp (r (min t b:Nat) _ r_ q);clear m;obtain h|h:=Nat.lt_or_ge b t
   .rw[Nat.min_eq_right o_]at d;go_enter Tryz.func182,Tryz.ntmps182;go_wp2
    all_goals first|exact d.o|(exfalso;omega;done)|(simp only[Int.min_def];split<;>first|exact d.o|omega)
   .rw[Nat.min_eq_left h]at d;go_enter Tryz.func182,Tryz.ntmps182;go_wp2
    all_goals first|exact d.o|(exfalso;omega;done)|(simp only[Int.min_def];split<;>first|exact d.o|omega)
structure zG(w:World)(B:Nat)(s:Sn):Prop where
 take:w.ownsRow B 3 1 (U s.At s.take.length s.ct) s.take.length (an s.take)
 dz:w.ownsRow B 3 1 (U s.Ai s.dz.length s.ci) s.dz.length (an s.dz)
def sG(d:au)(p:Pk)(w:World)(e:Ending)(w':World):Prop:=∃s:Sn,e = .returned (.agg (uv s))/\jh d p s/\zG w' w.heap.size s/\E w w'
def yi{w w':World}{g base e sz n:Nat}{v:Value}{xs:LV}(h:w.ownsRow base e sz v n xs)(ht:aq (·=g) w w')(b:g<base):w'.ownsRow base e sz v n xs:=fN h λk hk=>ht.block k (h.lt k hk).2 (by have:=(h.lt k hk).1;omega)
def Pv(d:au)(p:Pk)(w:World)(hd:dB w w.heap.size d)(ho:da d)(hp:jO w w.heap.size p)(hk:gz d p):Calls prog 104 #[.agg (aU d),.agg (cT p)] w (sG d p w):=by
 have y:=(ah _ w).alloc (ae _) (.cells (aU d) 70);have V:=J (aa.new w 70 (aU d));obtain⟨w1,q4⟩:=e_ (w.alloc (.cells (aU d) 70));rw[q4]at y V;have u:=y.alloc y.size (.cells (cT p) 58);have f4:=J (aa.new w1 58 (cT p));have z:=J (V.alloc (.cells (cT p) 58));obtain⟨w2,r0⟩:=e_ (w1.alloc (.cells (cT p) 58));rw[r0]at u f4 z;have L:=u.alloc u.size (.cells #[I 0,Z,Z] 203);have O:=J (aa.new w2 203 #[I 0,Z,Z]);have G:=J (f4.alloc (.cells #[I 0,Z,Z] 203));have p9:=J (z.alloc (.cells #[I 0,Z,Z] 203));obtain⟨w3,v8⟩:=e_ (w2.alloc (.cells #[.int .i64 0,.slice none 0 0,.slice none 0 0] 203));rw[v8]at L O G p9;have H9:=J L;have F0:=ho.n2;have v9:=hk.t;have E2:=hk.bG;have x8:=J (λW=>NO p W o_ o_);have y7:Kp (∀W,E w W->dB W _ d):=λW hb=>(hd.below hb).more hb.size;have n5:=J (λW(hb:E w W) g h1 h2=>Na d p g _ W h1 h2 (hd.below hb) ho (hp.below hb) hk);have l4:=J ho;have E5:=J hk;have D:=O.lt;have v3:=u.size;unfold aU cT at*;obtain⟨nd,D⟩:=e_ d.ai.length;obtain⟨ns,t5⟩:=e_ p.set.length;rw[D]at V z p9 q4 F0 v9 E2 n5⊢;rw[t5]at f4 G r0 x8 n5⊢;have a1:=J D;clear t5 D hd ho hp hk y u L;generalize u:sG d p w=Q at*;have HQ:=J u;clear u;obtain⟨y,p1,p2,V,z,p5,L⟩:=aa.seven G;go_in;go_wp2_with fail;apply(x8 _).mono;rintro e D⟨rfl,u⟩;have x3:=bu O u;have E3:=bu G u;have F3:=bu p9 u;have i1:=ay H9 u;have G:=u.size;clear u q4 r0 v8 y p1 p2 V z p5 L;rcases ht:gj p with _|t
 .have a3:iN p = -1:=by unfold iN;rw[ht]
  rw[a3];have h5:=aa.new D 203 #[I (-1),Z,Z];have h0:=J (x3.alloc (.cells #[I (-1),Z,Z] 203));have i2:=J (i1.alloc o_ (.cells #[I (-1),Z,Z] 203));have H5:=J h5;clear h5;have u:Kp (jh d p ⟨_,none,_,0,none,_,0⟩):=⟨a3.symm,by unfold nG;rw[ht],by unfold ql;rw[ht]⟩;clear ht a3;go_upto_region 2 with fail;generalize D.alloc _=w5 at*;generalize D.heap.size=s at*;have b0:Kp (Q (.returned (.agg #[I (-1),Z,Z])) (aH _ _ 0 [I (-1),Z,Z])):=(by
   rw[<-HQ];exact⟨_,rfl,u,⟨cK _ _ _ _,cK _ _ _ _⟩,fq v3 _ _ _ i2⟩)
  have HB:Kp (aa _ _ _ #[I (-1),Z,Z]):=dS h0 _ rfl;obtain⟨q0,q1,q2,f0,f1,f2⟩:=h0.three;obtain⟨d0,O,G,_⟩:=H5.three;generalize o7:aH _ _ 0 _=Wf at*;simp only[aH,Nat.zero_add,Nat.reduceAdd]at o7;obtain⟨z0,z1,z2,_⟩:=HB.three;go_wp2;refine bodyPost_ret ?_ rfl b0;simp[results,go_sem,z0,z1,z2]
 .obtain⟨u,u2,u3⟩:=lU E5 ht;have a3:iN p=t:=by unfold iN;rw[ht]
  rw[a3];have S4:t<nd:=by rw[<-a1];omega
  have o1:=J (aa.new D 203 #[N t,Z,Z]);have h0:=J (x3.alloc (.cells #[N t,Z,Z] 203));have y3:=J (E3.alloc (.cells #[N t,Z,Z] 203));have y5:=J (F3.alloc (.cells #[N t,Z,Z] 203));have i2:=J (i1.alloc o_ (.cells #[N t,Z,Z] 203));obtain⟨n0,c3⟩:=e_ ((d.ai[t]'u).ar.length);have G4:n0<=200:=by rw[<-c3];exact(l4.ai t u).n2
  have z9:(bE d t).length=n0:=by unfold bE;rw[gE u];exact c3
  have y4:Kp (∀tt n,t+n=tt->tt<d.ai.length->∀W,E w W->Calls _ _ #[.agg _,N t,N _] W _):=(λtt n h1 h2 W hb=>by
   have h3:=Co d t n _ _ W (y7 W hb) l4 h1 h2 u c3;unfold aU at h3;rw[a1]at h3;omega)
  have D7:Kp (∀W,E w W->∃b off,d.A=some ⟨b,off,none⟩/\C W b (off+t*3+1) (U (d.ai[t]'u).At n0 (d.ai[t]'u).ct)):=(λW hb=>by
   obtain⟨b,off,e,_,c1,_⟩:=(y7 W hb).rY t u;grind)
  obtain⟨m1,p8⟩:=e_ (max p.t t);obtain⟨m2,u4⟩:=e_ (max p.bG t);have t8:t<=m1/\m1<nd:=o_;have B0:t<=m2/\m2<nd:=o_;have A3:∀k,k<n0->p.f≠0->dp d t (m1-t) k<(bE d p.t).length:=λk hk hf=>by
   have h4:=u2 hf;have e4:m1=p.t:=o_;rw[e4];have h5:=rz l4 (a:=t) (k:=p.t-t) (by rw[a1.o];omega) (i:=k) o_;have h6:(bE d p.t)=(d.ai[t+(p.t-t)]'(by rw[a1.o];omega)).ar:=by
    unfold bE;rw[gE (by rw[a1.o];exact v9)];simp only[Nat.add_sub_cancel' h4];rfl
   grind
  have E4:=J A3;have E7:Kp (∀k,dY d p (fu d t (max _ t) k)=dY d p (dp d t _ k)):=(λk=>by rw[p8];rfl);have G1:Kp (p.g=true->∀k,fu d t _ k=dp d t (m2-t) k):=(λhg k=>by
   have:=u3 hg;have e4:m2=p.bG:=o_;rw[e4];rfl)
  have D4:Kp (∀A1 c1 A2 c2,jh d p ⟨t,A1,_,c1,A2,_,c2⟩):=λA1 c1 A2 c2=>⟨a3.symm,by unfold nG;rw[ht],by unfold ql;rw[ht]⟩;have H3:=J z9;have z8:=J p8;have x6:=J u4;have td:decide ((t:Int)<0)=false:=o_;clear ht a3 c3 z9 A3 u2 u3 p8 u4;go_upto_region 2 with fail;generalize D.alloc _=w5 at*;generalize H7:D.heap.size=s at*;have D:w2.heap.size<s:=o_;have D:=o1.lt;clear H7;obtain⟨y,p1,p2,V,z,p5,L⟩:=aa.seven y3;obtain⟨e0,e1,_,_⟩:=y5.two;obtain⟨d0,O,G,_⟩:=o1.three;go_wp2_with fail;apply(n5 _ i2 s o_ D).mono;rintro e w6⟨D,D,rfl,a8,D,e5⟩;have M5:=D.size;have x4:=bu o1 D;have D6:=bu h0 D;have A4:=bu y3 D;have v1:=bu y5 D;have y2:=ay i2 D;have n7:=J e5;have t4:=J a8;clear D a8 e5 y p1 p2 V z p5 L e0 e1 d0 O G;obtain⟨y,p1,p2,V,z,p5,L⟩:=aa.seven A4;obtain⟨e0,e1,_,_⟩:=v1.two;obtain⟨d0,O,G,_⟩:=x4.three;have y8:max (p.t:Int) t=(m1:Nat):=by have:=z8.o;omega
  have B4:max (p.bG:Int) t=(m2:Nat):=by have:=x6.o;omega
  go_wp2_with fail;refine(y4 _ (m1-t) o_ (by rw[a1];omega) _ y2).mono ?_;rintro e D⟨D,rfl,D,X⟩;obtain⟨A7,c7,rfl⟩:=bY D;have u6:(ej d t (m1-t) n0).length=n0:=by unfold ej;simp
  rw[u6]at D⊢;have u5:=bu x4 X;have H6:=bu D6 X;have v0:=bu A4 X;have A0:=bu v1 X;have u0:=ay y2 X;have k3:=J X;have m4:=J D;clear X D y p1 p2 V z p5 L e0 e1 d0 O G;obtain⟨y,p1,p2,V,z,p5,L⟩:=aa.seven v0;obtain⟨e0,e1,_,_⟩:=A0.two;obtain⟨d0,O,G,_⟩:=u5.three;go_wp2_with fail;refine(y4 _ (m2-t) o_ (by rw[a1];omega) _ u0).mono ?_;rintro e w8⟨D,rfl,D,H⟩;obtain⟨A8,c8,rfl⟩:=bY D;have z6:(ej d t (m2-t) n0).length=n0:=by unfold ej;simp
  rw[z6]at D⊢;have B:=bu u5 H;have q3:=bu H6 H;have n3:=bu v0 H;have H4:=bu A0 H;have o2:=ay u0 H;have k5:=ay k3 H;have j2:=J (bS m4 H);have e6:=J (dZ D k3.size);clear H D y p1 p2 V z p5 L e0 e1 d0 O G y8 B4 u6 z6;obtain⟨e0,e1,_,_⟩:=H4.two;obtain⟨d0,O,G,_⟩:=B.three;obtain⟨D,D,D,c1⟩:=D7 _ o2;rw[D]at e1;generalize(d.ai[t]'u).At=T0 at*;generalize(d.ai[t]'u).ct=u at*;have u:0<=(t:Int):=o_;have t1:t<(nd:Int):=o_;clear D;go_wp2;clear e0 e1 d0 O G c1;obtain⟨i0,z3,z4,x5,B3⟩:=info_parts iK;have u:=k5.size;go_loopw [46] (λu wr=>∃(k:Nat)(m q:LN)(At:OA)(ct:Nat)(Ai:OA)(ci:Nat),k<=n0/\u = N k/\Kp (m=mJ d p t k)/\Kp (q=(if p.g=true then m.map (fu d t p.bG)else []))/\aa wr s 203 #[N t,U At m.length ct,U Ai q.length ci]/\wr.ownsRow w8.heap.size 3 1 (U At m.length ct) m.length (an m)/\wr.ownsRow w8.heap.size 3 1 (U Ai q.length ci) q.length (an q)/\lX (U At m.length ct) (U Ai q.length ci)/\aq (·=s) w8 wr) (λu _=>n0-(intOf u).toNat)
  case atStart=>exact⟨0,[],[],_,0,_,0,o_,rfl,J rfl,J o_,B,cK _ _ _ _,cK _ _ _ _,.inl rfl,aq.refl _ _⟩
  .obtain⟨k,m,q,At,ct,Ai,ci,hk,rfl,u,y,D,z,V,A9,ht⟩:=hrel;have q8:=u;have h7:=y;replace u:=u.out;replace y:=y.out;have s7:=J D;have f3:=J z;have e3:=J V;have L:=J A9;have Ht:=J ht;have u8:Kp (m.length<=k):=(by rw[u];exact EK d p t k);have v7:Kp (q.length<=k):=(by rw[y];split;rw[lM,u];grind;exact av _);clear u y D z V A9 ht;by_cases u:k<n0
   .have hl:=kG (yi j2 Ht o_);obtain⟨bl,y,rfl,_,l0⟩:=hl.at_ (by unfold an ej;simpa using u);have D:(an (ej d t (m1-t) _))[k]'(by unfold an ej;simpa using u) = I (dp d t (m1-t) k:Nat):=by unfold an ej;simp
    rw[D]at l0;have hg:=kG (yi e6 Ht o_);obtain⟨bg,og,rfl,_,z⟩:=hg.at_ (by unfold an ej;simpa using u);have y:(an (ej d t (m2-t) _))[k]'(by unfold an ej;simpa using u) = I (dp d t (m2-t) k:Nat):=by unfold an ej;simp
    rw[y]at z;have s8:Kp (∀W,aq (·=s) _ W->C W _ _ _):=(λW ht=>by
     obtain⟨V,o',e,_,V⟩:=(kG (yi e6 ht o_)).at_ (by unfold an ej;simpa using u);injection e with e;injection e with e1 e2 _;subst e1 e2;rw[y]at V;omega)
    have y0:=J (n7 _ _ (E4 k u) ((aq.below k5).trans Ht));have e8:=J (E7 k);have k6:=J (Qz d p t k);have z7:=J (λhg=>G1 hg k);have z5:Kp (bg<w8.heap.size):=mq (s8 _ (aq.refl _ _));clear D y hl hg;generalize dp d t _ k=lk at*;generalize dp d t _ k=gk at*;have u:0<=(k:Int):=o_;have u:k<(n0:Int):=o_;have a8:=t4.o;go_wp2;apply y0.mono;rintro e y⟨rfl,u⟩;have V:=bu s7 u;have F:=J (bS f3 u);have a2:=J (bS e3 u);have h8:=J (Ht.trans (aq.below u));have t7:=h8.size;clear u l0 z y0 a8;obtain⟨d0,O,G,f0,f1,f2⟩:=V.three;have D:m.length<1048576*64:=by have:=u8.o;omega
    rcases u:dY d p _ with _|_
    .have b3:Kp (m=mJ d p t _):=(by rw[k6,e8,u,if_neg d_];omega);clear u d0 O G f0 f1 f2;go_wp2;exact⟨⟨_,m,q,_,_,_,_,o_,o_,b3,h7,V,F,a2,L,h8⟩,o_⟩
    .have b3:=kp (show m++[k]=mJ d p t _ from by rw[k6,e8,u,if_pos rfl,q8]);clear u;have d7:Kp (∀u w',App y w' _ u->w'.heap[s]? = y.heap[s]?):=λu w' z=>z.bI o_ (λe=>by have h1:=(F.lt _ e).1;have:=B.lt;omega);have H0:Kp (∀u w',App y _ _ u->C w' s 1 _/\w'.frozen? (M s 1)=false):=λu w' z=>⟨(bF (d7 u _ z)).trans O,by have h:=f1;unfold World.frozen? at h⊢;rw[d7 u _ z];omega⟩;go_upto_region 12 with(at_builtin;apply iP rfl _ _ _ rfl _ 3 _ _ 8 underlying84 z3 z4 x5 B3 rfl y _ rfl (U _ _ _) _ _ rfl F rfl D d_ t7;intro u z y R;obtain⟨A5,D,h5⟩:=bY y;subst h5;obtain⟨F2,D3⟩:=H0 _ _ R;have l7:=J y;have u:=J R;clear y R O f1);have f9:Kp (aa (z.setCell (M s 1) _) s _ #[N t,U A5 (m.length+1) D,U _ _ _]):=(show aa z s _ _ from(d7 _ _ u).trans V).set 1 _;have b4:=J (l5 l7 (p:=(M s 1)) o_ (U A5 (m.length+1) D));have b2:=J (l5 (u.other a2 L.symm) (p:=(M s 1)) o_ (U A5 (m.length+1) D));have V:=J (u.apart a2 L.symm).symm;have L:=J ((s9 h8 u (λj hj=>(F.lt j hj).1)).trans (.set _ (M s 1) (U A5 (m.length+1) D) rfl));generalize z.setCell _ _=y at*;have u:Kp (aa y _ _ _):=n3.ax L (by have:=f4.lt;omega);have p7:=L.size;clear d0 G f0 f2 F2 D3;obtain⟨_,_,_,_,_,p5,_⟩:=aa.seven u;have z:=kp (show(m++[k]).length=m.length+1 from s_);have B1:Kp (an (m++[k])=an m++[N k]):=(by unfold an;rw[map_append];rfl);obtain⟨gb,e7⟩:=e_ p.g;rw[e7]at p5;obtain _|_:=gb
     .have u:=e7;have g4:Kp (q=(if p.g=true then(m++[k]).map (fu d t p.bG)else [])):=(by rw[h7,u];rfl);clear u e7;go_wp2;exact⟨⟨_,_,q,_,D,_,_,o_,o_,b3,g4,by rw[z];exact f9,by rw[z,B1];exact b4,b2,by rw[z];exact V,L⟩,o_⟩
     .have u:=e7;have g4:=kp (show q++[gk]=(if p.g=true then(m++[k]).map _ else [])from by
       have h1:=h7.o;rw[if_pos u]at h1;rw[if_pos u,map_append,<-h1,map_cons,map_nil,z7 u])
      clear u e7;go_upto_region 13 with fail;have u:=(ah y.heap.size y).drew;have f6:Kp (aa _ s _ _):=f9.under u;have i8:=s8 _ (L.trans (aq.below u));have Y:Kp (y.drew.ownsRow _ 3 1 _ _ _):=b2;have d8:Kp (y.drew.ownsRow _ 3 1 (U _ _ D) _ (an m++[N k])):=b4;have F7:=J (L.trans (aq.below u));have L:q.length<1048576*64:=by have:=v7.o;omega
      have k7:=f6.lt;have v4:bg<y.drew.heap.size:=mq i8;have y1:w8.heap.size<=y.drew.heap.size:=p7;obtain⟨d0,O,G,f0,f1,f2⟩:=f6.three;have g3:Kp (∀j,(Value.slice _ _ _).ownBlock=some j->j≠s/\j≠bg):=(λj hj=>by
       have h1:=(Y.lt j hj).1;have h2:=B.lt;have h3:=z5.o;omega)
      apply wp_region_noPanic;refine br (t:=9) (S:=(λw'=>C w' s 2 _/\C w' _ _ (N _))) k_ ⟨G,i8⟩ (λr=> ?_);generalize y.drew=wd at*;apply tD 0 1 2 3 r;apply tB 4 5 r;refine oT 6 (λK hK=> ?_);go_simp;refine oK hK ?_ (λu=> ?_)
      .exact⟨al (bR.alloc o_ _) r.1,al (bR.alloc o_ _) r.2⟩
      clear hK K r;clear u;refine oT 7 (λK hK=> ?_);apply jq rfl _ _ _ rfl _ 3 _ _ 8 underlying84 z3 z4 x5 B3 rfl _ _ rfl (U _ _ _) _ _ rfl Y rfl L d_ y1;intro y k2 a5 d9;obtain⟨y,L,h6⟩:=bY a5;subst h6;have q5:=J a5;have x:=J d9;clear a5 d9;go_simp;refine oK hK ?_ (λu=> ?_)
      .exact⟨(bF (x.bI k7 (λe=>(g3 _ e).1 rfl))).trans G,(bF (x.bI v4 (λe=>(g3 _ e).2 rfl))).trans i8⟩
      clear hK K;have r:=u;clear u;have u:= x.bI k7 (λe=>(g3 _ e).1 rfl);have q7:Kp (aa (k2.setCell (M s 2) _) s _ #[N t,U _ _ D,U y (q.length+1) L]):=(show aa _ s _ _ from u.trans f6).set 2 _;have j3:=J (l5 q5 (p:=(M s 2)) o_ (U y (q.length+1) L));have h9:=J (l5 (x.other d8 V) (p:=(M s 2)) o_ (U y (q.length+1) L));have m9:=J (x.apart d8 V);have V:=J ((s9 F7 x (λj hj=>(Y.lt j hj).1)).trans (.set _ (M s 2) (U y (q.length+1) L) rfl));have I2:k2.frozen? (M s 2)=false:=by have h:=f2;unfold World.frozen? at h⊢;rw[u];omega
      clear d0 O G f0 f1 f2 i8 u p5;apply tk 8 r;refine fC k_ (by first|exact g_|rfl) k_ (λK hK=> ?_);go_simp;apply hK.out _ _;clear hK K r;apply NoPanic.normal
      have u:=kp (show(q++[gk]).length=q.length+1 from s_);have w0:Kp (an (q++[gk])=an q++[N _]):=(by unfold an;rw[map_append];rfl);clear I2;go_wp2;exact⟨⟨_,_,_,_,D,y,L,o_,o_,b3,g4,by rw[z,u];exact q7,by rw[z,B1];exact h9,by rw[u,w0];exact j3,by rw[z,u];exact m9,V⟩,o_⟩
   .obtain rfl:k=n0:=o_;have u:Kp (aa _ _ _ _):=q3.ax Ht o_;have b0:Kp (Q (.returned (.agg #[N t,U At m.length ct,U Ai q.length ci])) (aH _ _ 0 [N t,U At m.length ct,U Ai q.length ci])):=(by
     rw[<-HQ];have e1:m=bL d p t:=by rw[q8,<-H3,Qy]
     have hb:=o2.size;refine⟨⟨t,_,m,_,_,q,_⟩,rfl,?_,⟨?_,?_⟩,fq v3 _ _ _ (wI o2 Ht o_ hb)⟩
     .have h1:=D4 At ct Ai ci;rw[<-e1,<-h7]at h1;omega
     .exact fN (dZ f3 hb) λj hj=>ee (by have:=(f3.lt j hj).1;have:=q3.lt;omega) _ _ _
     .exact fN (dZ e3 hb) λj hj=>ee (by have:=(e3.lt j hj).1;have:=q3.lt;omega) _ _ _)
    have HB:Kp (aa _ _ _ #[N t,U At m.length ct,U Ai q.length ci]):=dS u _ rfl;obtain⟨q0,q1,q2,f0,f1,f2⟩:=u.three;obtain⟨d0,O,G,_⟩:=s7.three;obtain⟨D,u⟩:=e_ m.length;obtain⟨z,y⟩:=e_ q.length;rw[u,y]at b0 HB;rw[u]at O;rw[y]at G;clear u y;generalize o7:aH _ _ 0 _=Wf at*;simp only[aH,Nat.zero_add,Nat.reduceAdd]at o7;obtain⟨z0,z1,z2,_⟩:=HB.three;go_wp2;refine bodyPost_ret ?_ rfl b0;simp[results,go_sem,z0,z1,z2]
def dV(S:LN)(i:Nat):Nat:=S.getD i 0
def jG(nd m:Nat)(S:LN)(p:aQ):ByteArray:=kY (decide (p.aj+1=nd)) m (cH (decide (p.aj+1=nd)) (dV S) p)
def eJ(nd m most:Nat)(b:List aQ):Nat->Option (LN×ByteArray)
 |0=>some ([],.empty)
 |k+1=>(eJ nd m most b k).bind λst=>match b[k]? with
  |none=>some st
  |some p=>if most<st.2.size+(jG nd m st.1 p).size then none else some (st.1++[st.2.size],st.2++jG nd m st.1 p)
def iu(S:LN):Nat:=S.getLast?.getD 0
def kL(nd m most:Nat)(b:List aQ):ByteArray×Nat×Nat:=match eJ nd m most b b.length with
 |none=>(.empty,0,7)
 |some st=>(st.2,iu st.1,0)
def Fv{nd m most b k}(h:eJ nd m most b k=none):∀j,eJ nd m most b (k+j)=none
 |0=>h
 |j+1=>by
  show(eJ nd m most b (k+j)).bind _=none;rw[Fv h j];rfl
def uH{nd m most b}:∀k,k<=b.length->∀st,eJ nd m most b k=some st->st.1.length=k/\st.2.size<=most/\∀x∈st.1,x<=most
 |0,_,st,h=>by
  injection h with h
  subst h;simp
 |k+1,hk,st,h=>by
  have h':(eJ _ m _ b k).bind _=some _:=h;cases e:eJ nd m most b k with
  |none=>grind
  |some s0=>
   rw[e]at h';obtain⟨d,f,c⟩:=uH k o_ _ e;grind
def im.move{last X m p f}(h:im last X m p)(r:∀i,f i<=2000000):im last X m (cH last f p):=by
 unfold cH;cases last with
 |true=>grind
 |false=>
  rw[if_neg d_];have n:∀(k:Nat) l,(p.lists.map λl=>l.map (eY f))[k]? = some l->∃b,p.lists[k]? = some b/\l=b.map (eY f):=λk l d=>r_
  refine⟨by rw[lM];exact h.ls,by rw[lM];exact h.n1,by rw[lM];exact h.n4,λl d=> ?_,h.size,λk l y d u=> ?_,λk l v d q=> ?_,h.xw,r _,h.all⟩
  .obtain⟨b,h0,rfl⟩:=mem_map.1 d;rw[lM];exact h.rB b h0
  .obtain⟨b,h0,rfl⟩:=n k l d;have g:=h.each k b y h0 u;refine⟨by rw[lM];exact g.n1,λc e=> ?_,λc e=> ?_,λc e=> ?_,λi hi=> ?_⟩
   .obtain⟨c0,h1,rfl⟩:=mem_map.1 e;exact g.key c0 h1
   .obtain⟨c0,h1,rfl⟩:=mem_map.1 e;exact r _
   .obtain⟨c0,h1,rfl⟩:=mem_map.1 e;exact g.cell c0 h1
   .rw[getElem_map,getElem_map];rw[lM]at hi;exact g.ja i hi
  .obtain⟨b,h0,rfl⟩:=n k l d;obtain⟨s,h1,rfl⟩:=n _ v q;rw[lM,lM];exact h.pI k b s h0 h1
def xQ{last f p}(h:∀l∈p.lists,l.length<=1000):∀l∈(cH last f p).lists,l.length<=1000:=by
 unfold cH;grind
def Cu{last f p}:(cH last f p).aj=p.aj:=by
 unfold cH;split<;>rfl
def AM{S b}(h:∀x∈S,x<=b) i:dV S i<=b:=by
 unfold dV;rw[getD_eq_getElem?_getD];cases e:S[i]? with
 |none=>exact av _
 |some x=>exact h x (mem_of_getElem? e)
def GL a b:Lib.byteCells (a++b).data.toList=Lib.byteCells a.data.toList++Lib.strCells b:=by
 rw[Lib.strCells_eq];unfold Lib.byteCells;simp
def AH(a:ByteArray):(Lib.byteCells a.data.toList).length=a.size:=by
 rw[Lib.byteCells_length,Array.length_toList];rfl
structure jP(W3 W5 wr:World)(gs gb:Nat)(As:OA)(cs:Nat)(S:LN)(p v:Value)(b:ByteArray):Prop where
 low:Below gs W3 wr
 up:Over (gb+1) W5 wr
 lt:gs<gb
 box:aa wr gs 84 #[U As S.length cs]
 own:wr.ownsRow W5.heap.size 3 1 (U As S.length cs) S.length (an S)
 bd:Bd wr gb W5.heap.size p v (Lib.byteCells b.data.toList)
section
variable{W3 W5 wr w':World}{gs gb:Nat}{As:OA}{cs:Nat}{S:LN}{p v:Value}{b:ByteArray}
def jP.below(h:jP W3 W5 wr gs gb As cs S p v b)(c:E wr w'):jP W3 W5 w' gs gb As cs S p v b:=
 ⟨h.low.trans (c.mono (Nat.le_of_lt h.box.lt)),h.up.trans (Over.under c),h.lt,h.box.under c,bS h.own c,h.bd.below c⟩
def jP.push(h:jP W3 W5 wr gs gb As cs S p v b){m:OA}{n x:Nat}(f:App wr w' (U As S.length cs) (U m (S.length+1) n))(r:w'.ownsRow W5.heap.size 3 1 (U m (S.length+1) n) (S.length+1) (an S++[N x])) :
 jP W3 W5 (w'.setCell (M gs 0) (U m (S.length+1) n)) gs gb m n (S++[x]) p v b:=by
 have g:=h.bd.lt;have c:=Nat.lt_trans h.lt g;have s:=h.up.size;have d:∀k,k<W5.heap.size->(Value.slice _ _ _).ownBlock≠some k:=λk hk e=>by have:=(h.own.lt k e).1;omega
 have q:aa _ _ _ _:=(f.bI o_ (d _ c)).trans h.box;refine⟨((f.ew h.low h.own o_ o_).setCell o_ _),⟨?_,λk h1 h2=> ?_⟩,h.lt,?_,?_,?_⟩
 .have:=f.grown.size;simp;omega
 .rw[Below.heap_setCell _ _ _ _ (show k≠gs by have:=h.lt;omega),f.bI o_ (d k h2)];exact h.up.block k h1 h2
 .rw[aE];exact q.set 0 _
 .rw[aE,oh];exact l5 r c _
 .refine h.bd.kept ?_ (l5 (h.bd.own.kept f.grown (u9 h.bd.own h.own d_)) c _);rw[Below.heap_setCell _ _ _ _ (show gb≠gs by have:=h.lt;omega)];exact f.bI o_ (d _ g)
def jP.write(h:jP W3 W5 wr gs gb As cs S p v b){s:ByteArray}{n m:Value}(hd:Bd w' gb W5.heap.size n m (Lib.byteCells b.data.toList++Lib.strCells s))(q:Below gb wr w')(hk:∀k,k<wr.heap.size->k≠gb->v.ownBlock≠some k->w'.heap[k]? = wr.heap[k]?):jP W3 W5 w' gs gb As cs S n m (b++s):=by
 have A:=h.bd.lt;have x:=h.up.size;have u:∀k,k<W5.heap.size->v.ownBlock≠some k:=λk hk e=>by have:=(h.bd.own.lt k e).1;omega
 refine⟨h.low.trans (q.mono (Nat.le_of_lt h.lt)),⟨aF x q.size,λk h1 h2=>(hk k o_ o_ (u k h2)).trans (h.up.block k h1 h2)⟩,h.lt,(hk _ h.box.lt (by have:=h.lt;omega) (u _ (by have:=h.lt;omega))).trans h.box,?_,by rw[GL];omega⟩;obtain⟨h1,h2⟩:=h.own;refine⟨h1,?_⟩;obtain h2|⟨g,cap,cur,d,z,r,y⟩:=h2
 .grind
 .refine .inr ⟨g,_,_,d,z,?_,y⟩;have c:=(h.own.lt g (by rw[d];rfl)).2;rw[hk g c o_ (λe=> ?_)]
  . omega
  .obtain⟨c2,f⟩:=rJ h.bd.own e;grind
end
def Q9{gs k cs As S w}(f:aa w gs 84 #[U As S.length cs])(d:Row w w.heap.size As (an S))(hk:k<S.length)(m:S.length<=1000000) :
 Calls prog 68 (#[N k]++#[Y gs 0]) w λe w'=>e = .returned (I (dV S k:Nat))/\w'=w:=by
 obtain⟨b,off,g,c,c0⟩:=Row.at_ d (by rw[ia];omega);unfold an at c0;rw[getElem_map]at c0;have e:dV S k=S[k]'hk:=by unfold dV;rw[getD_eq_getElem?_getD,gE hk];rfl
 rw[e];generalize(S[k]'hk)=y at*;subst g;have p:C w _ 0 (U _ _ _):=f.cell 0;have q:0<=(k:Int):=o_;have n:k<(S.length:Int):=o_;show Calls _ _ #[N k,Y gs 0] w _;go_in;go_wp2;go_ret;simp
end Tc
namespace Tc
open List Go.RowKit Base Crc Go.Proofs.YtibjlpkpljnicaaGreatDoor.Nm Go.Proofs.Tryz
structure FL(nd m:Nat)(ns:List aQ)(k:Nat)(S:LN)(b:ByteArray):Prop where
 len:S.length=k
 lt:∀x∈S,x<b.size
 ja:S.Pairwise (·<·)
 at_:∀(i:Nat)(n:aQ),i<k->ns[i]? = some n->∃x r,S[i]? = some x/\(bl b).drop x=bl (jG nd m (S.take i) n)++r
def Qa nd m S p:0<(jG nd m S p).size:=by
 have h:=congrArg length (CP (decide (p.aj+1=nd)) m (cH (decide (p.aj+1=nd)) (dV S) p));rw[aE,j6]at h;have:=(j7 (jv (decide (p.aj+1=nd)) m (cH (decide (p.aj+1=nd)) (dV S) p)).length).1;show 0<(bl (kY _ _ _)).length;omega
def zi{nd m most d}:∀k,k<=d.length->∀st,eJ nd m most d k=some st->FL nd m d k st.1 st.2
 |0,_,st,h=>by
  injection h with h
  subst h;exact⟨rfl,λx hx=>r_,.nil,λi n hi=>absurd hi o_⟩
 |k+1,hk,st,h=>by
  have h':(eJ _ m _ d k).bind _=some _:=h;cases e:eJ nd m most d k with
  |none=>grind
  |some s0=>
   rw[e]at h';have c:=zi k o_ _ e;rw[gE (show k<d.length by omega)]at h';dsimp only[Option.bind]at h';split at h'
   .grind
   .injection h' with h';subst h';have s:=Qa nd m s0.1 (d[k]'hk);refine⟨by rw[aE,c.len];rfl,λx hx=> ?_,?_,λi n hi f=> ?_⟩
    .rw[ByteArray.size_append];obtain hx|hx:=mem_append.1 hx
     .have:=c.lt x hx;omega
     grind
    .rw[pairwise_append];exact⟨c.ja,pairwise_singleton _ _,λa p b q=>by rw[mem_singleton.1 q];exact c.lt a p⟩
    .by_cases g:i<k
     .obtain⟨x,r,h1,h2⟩:=c.at_ i n g f;have hx:=c.lt x (mem_of_getElem? h1);refine⟨x,r++bl (jG nd m s0.1 (d[k]'hk)),?_,?_⟩
      .grind
      .dsimp only;rw[kT,drop_append_of_le_length o_,h2,append_assoc,take_append_of_le_length r_]
     .have:i=k:=o_;subst this;rw[gE (show i<d.length by omega)]at f;injection f with f;subst f;refine⟨s0.2.size,[],?_,?_⟩
      .rw[getElem?_append_right (by rw[c.len];omega),c.len,Nat.sub_self];rfl
      .dsimp only;rw[kT,drop_left' o_,append_nil,take_left' (by rw[c.len])]
abbrev ph(nd:Nat)(S:LN)(n:aQ):aQ:=cH (decide (n.aj+1=nd)) (dV S) n
def L8{nd k S n}(h:n.aj+1=nd\/∀c∈cR n,c.child<k):cH (decide (n.aj+1=nd)) (dV (S.take k)) n=ph nd S n:=by
 unfold ph cH;by_cases hd:n.aj+1=nd
 .grind
 .rw[if_neg o_,if_neg o_];have b:=h.resolve_left hd;have e:∀c,c.child<k->eY (dV (S.take k)) c=eY (dV S) c:=λc b=>by
   unfold eY dV;grind
  have f:=map_congr_left λl g=>map_congr_left λc d=>e c (b c (mem_append_left _ (mem_flatten.2 ⟨l,g,d⟩)));rw[f,e _ (b _ (mem_append_right _ mem_cons_self))]
def I9{nd i x S n}(r:S.Pairwise (·<·))(hx:S[i]? = some x)(h:n.aj+1=nd\/∀c∈cR n,c.child<i)(hd:n.aj+1≠nd):∀c∈cR (ph nd S n),c.child<x:=by
 intro c b;unfold ph cH at b;rw[if_neg o_]at b;have hi:=aO hx;have p:∀y,y.child<i->(eY (dV S) y).child<x:=λy g=>by
  show S.getD y.child 0<x;obtain⟨f,q⟩:=hi;have d:y.child<S.length:=o_;rw[getD_eq_getElem?_getD,gE d,Option.getD_some];have:=pairwise_iff_getElem.1 r _ _ d f g;omega
 have e:=h.resolve_left hd;obtain b|b:=mem_append.1 b
 .obtain⟨l,s,b⟩:=mem_flatten.1 b;obtain⟨u,m,rfl⟩:=mem_map.1 s;obtain⟨y,g,rfl⟩:=mem_map.1 b;exact p y (e y (mem_append_left _ (mem_flatten.2 ⟨u,m,g⟩)))
 .rw[mem_singleton.1 b];exact p _ (e _ (mem_append_right _ mem_cons_self))
end Tc
namespace Tc
open List Go.RowKit Base Go.Proofs.Tryz
section
attribute [local go_sem] yM
def vX(r:ByteArray×Nat×Nat)(w:World)(e:Ending)(w':World):Prop:=e = .returned (.tuple #[T r.1,I r.2.1,I r.2.2])/\E w w'
def Kf S x:iu (S++[x])=x:=by
 unfold iu;simp
def LF{X}{m k:Nat}{ns S A c ys n w}(hf:sj X m 131072 ns)(hn:ns[k]? = some (aK n))(hi:cG w w.heap.size A ys)(hk:ys.map Fa.keys=X)(hS:∀x∈S,x<=1048576){n5}(he:aK n5=cH (decide (n.aj+1=ys.length)) (dV S) (aK n))(hr:du w w.heap.size n5) :
 Calls prog 70 #[.agg #[U A ys.length c,N m],.agg (aZ n5)] w (sh (jG X.length m S (aK n)) w):=by
 have hl:ys.length=X.length:=r_
 obtain⟨x,h1,h2,h3,h4⟩:=hf.each k _ hn;have hd:n5.aj=n.aj:=by
  have:=congrArg aQ.aj he;rw[Cu]at this;exact this
 obtain⟨hd1,hx⟩:=aO h1;have hd2:n5.aj<ys.length:=by rw[hd,hl];exact hd1
 have hx2:(ys[n5.aj]'hd2).keys=x:=by
  have:X[n5.aj]? = some (ys[n5.aj]'hd2).keys:=r_
  have h1':X[n5.aj]? = some x:=by rw[hd];exact h1
  rw[h1']at this;injection this with this
  grind
 have hdl:decide (n5.aj+1=ys.length)=decide ((aK n).aj+1=X.length):=by rw[hd,hl];rfl
 have hcs:=xQ (last:=decide (n.aj+1=ys.length)) (f:=dV S) h3;rw[<-he]at hcs
 have:=Iv A c m _ _ w hi hr (by rw[hl];exact hf.n16) hf.m1 hf.m3 o_ (by
  rw[hx2,hdl,he,hl]
  exact h2.move (λi=>aF (AM hS i) d_)) (λl hl'=>hcs _ (mem_map_of_mem hl'))
 have e:jG X.length m S (aK n)=kY (decide ((aK n).aj+1=X.length)) m (cH (decide (n.aj+1=ys.length)) (dV S) (aK n)):=by rw[hl];rfl
 grind
def LI{X m k cs gs z S A As f c n w}(y:sj X m 131072 z)(B:z[k]? = some (aK n))(u:f=X.length)(s:S.length=k)(D:du w w.heap.size n)(H:aa w gs 84 #[U As S.length cs])(d:Row w w.heap.size As (an S)) :
 Calls prog 71 #[.agg #[U A f c,N m],.agg (aZ n),.func (.func 68) #[] #[Y gs 0]] w (sx (cH (decide (n.aj+1=f)) (dV S) (aK n)) w):=by
 obtain⟨x,h1,h2,E,b⟩:=y.each k _ B;have v:=(aO h1).1;have C:=y.n16;have G:=y.len;have F:=(aO B).1;have e:=h2.n4;rw[show(aK n).lists=n.ls.map _ from rfl,lM]at e;rw[show(aK n).aj=n.aj from rfl]at v b;refine L7 A f c m _ _ _ n w D e (λl r=>E _ (mem_map_of_mem r)) o_ o_ o_ (enters_of func68 k_ rfl) (λg x hx W p=> ?_);have q:x.child<S.length:=by
  obtain b|b:=b
  .omega
  .rw[s];refine(b x ?_).1;unfold cR;rw[mem_append];obtain rfl|⟨l,r,hx⟩:=hx
   .exact .inr (mem_singleton.2 rfl)
   .exact .inl (mem_flatten.2 ⟨_,mem_map_of_mem r,hx⟩)
 exact Q9 (H.under p) ((d.below p).more p.size) q o_
end
section
attribute [local go_sem] yM
def jP.GC{f g wr w':World}{gs gb:Nat}{As d:OA}{cs m:Nat}{S:LN}{p v:Value}{b:ByteArray}(h:jP f g wr gs gb As cs S p v b)(c:App wr w' (U As S.length cs) (U d (S.length+1) m)):aa w' gs 84 #[U As S.length cs]:=by
 refine(c.bI h.box.lt (λe=> ?_)).trans h.box;have h1:=(h.own.lt _ e).1;have h2:=h.bd.lt;have n:=h.lt;omega
def Qi{X:List LN}{m ga:Nat}{z:List aQ}{w:World}(ha:jf w ga X m z)(ho:lu X m z)(hf:sj X m 131072 z) :
 Calls prog 35 #[Y ga 0,I 49200] w (vX (kL X.length m 49200 z) w):=by
 obtain⟨i0,p5,p6,m9,r1⟩:=info_parts iK;have HS:=J (λw'(h:E w w')=>(ha.below h).shape ho);have HW:=J (λw'(h:E w w')=>(ha.below h).whole ho);have HN:=J (λw'(h:E w w')=>(ha.below h).nodes ho);have HQ:Kp (∀w',E w _->vX (kL X.length m 49200 z) w _ w'):=λw' h=>⟨rfl,h⟩;have n8:=ho.m1;have p3:((m:Int) == 0)=false:=o_
 obtain⟨R,hR⟩:=e_ (kL X.length m 49200 z)
 have HR:=J hR;rw[hR]at HQ⊢;generalize hQ:vX R w=Q at*;clear hQ hR ha;go_in;go_wp2_with fail;apply(HS w bR).mono;rintro e w1⟨A1,c1,y1,rfl,-,-,b1⟩;have B1:=J b1;clear b1;go_wp2_with fail;apply(HW _ B1).mono;rintro e w2⟨rfl,b2⟩;have B2:=ay B1 b2;clear b2 B1;go_wp2_with fail;apply(HS _ B2).mono;rintro e u⟨A3,c3,y3,rfl,i3,k3,b3⟩;have I3:=J i3;have K3:=J k3;have hy:y3.length=X.length:=r_
 have B3:=ay B2 b3;clear b3 B2 i3 k3 HS HW;rw[hy];have Hy:=J hy;clear hy p3;have G:=(ah _ u).alloc (ae _) (.cells #[U A3 X.length c3,N m] 43);have k2:=aa.new u 43 #[U A3 X.length c3,N m];generalize g6:u.alloc _=W4 at*;have a9:W4.heap.size=u.heap.size+1:=by rw[<-g6];simp
 have f8:=(ah _ W4).alloc (ae _) (.cells #[Z] 84);have h7:=aa.lay (t:=84) (cs:=#[Z]) a9;generalize i1:W4.alloc _=W5 at*;have f1:W5.heap.size=u.heap.size+1+1:=by rw[<-i1];simp[a9]
 have f9:=f8.alloc o_ (.cells #[.pointer none,Z] 150);have k6:=h7.alloc (.cells #[.pointer none,Z] 150);have k7:=aa.lay (t:=150) (cs:=#[.pointer none,Z]) f1;generalize i9:W5.alloc _=W6 at*;have h8:W6.heap.size=u.heap.size+1+1+1:=by rw[<-i9];simp[f1]
 have c9:E u _:=G.trans (f9.mono o_);have j1:=J (HN _ (B3.trans (c9.mono B3.size)));have e9:=J f9;have h6:=J k6;have j3:=J G;have k9:=J k7;have q2:=J k2;have p9:=J a9;have h0:=J h8;have B4:=ay B3 G
 clear G k2 f8 h7 f9 k6 k7 c9 h8 HN;go_wp2_with fail;apply j1.mono;clear g6 i1 i9 a9 f1 j1;rintro e w7⟨An,cn,g,rfl,a2,b9,b7⟩;have l7:=J (show ep _ (u.heap.size+1+1+1) _ g by rw[<-h0];omega);have f7:=J b9
 have i5:=J (show jP _ _ _ _ _ _ 0 [] _ _ .empty from
  ⟨by rw[<-p9];exact e9.trans (b7.mono e9.size),⟨o_,λk h1 h2=>rfl⟩,o_,h6.under b7,cK _ _ _ _,⟨.inl rfl,by have:=b7.size;have:=h0.o;omega,k9.under b7,cK _ _ _ _⟩⟩)
 obtain⟨nn,f6⟩:=e_ g.length
 have b4:=J f6;rw[f6];clear a2 b9 b7 f6 e9 h6 k9;rw[show max (49200:Int) 0=49200 from rfl];rw[b4]at l7;have p4:=J (by have:=hf.len;rw[<-f7,lM,b4]at this;omega);have Hf:=J hf;clear hf ho n8;go_wp2
 go_loopw [11,31] (λm8 g4 wr=>∃(k:Nat)(st:LN×ByteArray)(As:OA)(cs:Nat)(p v:Value),k<=nn/\g4 = N k/\m8 = I (iu st.1:Nat)/\eJ X.length m 49200 z k=some st/\jP W4 w7 wr (u.heap.size+1) (u.heap.size+1+1) As cs st.1 p v st.2) (λ_ g4 _=>nn-(intOf g4).toNat)
 case atStart=>exact⟨0,_,_,0,_,_,o_,rfl,rfl,rfl,i5⟩
 .clear i5;obtain⟨k,⟨S,b⟩,As,cs,p,v,hk,rfl,rfl,e7,hM⟩:=hrel;have f4:=J e7;have HM:=J hM;have u8:=p4.o;have a1:z.length=nn:=by rw[<-f7,lM,b4]
  obtain⟨a0,q9,h5⟩:=uH k o_ _ e7;dsimp only at a0 q9 h5;have b5:=J a1;have q7:=J a0;clear e7 hM a1;dsimp only;by_cases o1:k<nn
  .have f:k<g.length:=by rw[b4];omega
   have e8:=(l7.tX HM.up).at_;obtain⟨bn,on,hA,w0,d0,d1,d2,d3,d4,d5,d6,d7,d8,d9,k8,i8,g9,k4⟩:=pV e8.row k f;have HE:=J (e8.each _ (gM f));have D:z[k]? = some (aK (g[k]'f)):=by rw[<-f7,getElem?_map,gE f];rfl
   have hx:=Hf.each k _ D
   have o4:Kp ((jG X.length m S _).size<=400000):=(by
    obtain⟨x,h1,h2,h3,h4⟩:=Hf.each k _ D;apply LD _ _ _ Hf.m3 (xQ h3);have:=h2.n4;unfold cH;grind)
   have e2:=J (λw'(hb:E _ w')=>LI (A:=A3) (c:=c3) Hf D rfl a0 ((HE.below hb).more hb.size) (HM.below hb).box (dF (HM.below hb).own));have f0:=J (λw' n5(hb:E u w') h1 h2=>LF (c:=c3) Hf D ((I3.below hb).more hb.size) K3 (λx hx=>aF (h5 x hx) d_) (n5:=n5) h1 h2);rw[Hy]at f0
   have q0:Kp (49200<b.size+(jG X.length m S (aK (g[k]'f))).size->eJ _ m _ z (k+1)=none):=(λh=>by
    show(eJ X.length m 49200 z k).bind _=none;rw[f4,D];grind)
   have n6:Kp (¬49200<b.size+(jG X.length m S (aK (g[k]'f))).size->eJ _ m _ z (k+1)=some (S++[b.size],b++jG X.length m S (aK (g[k]'f)))):=(λh=>by
    show(eJ X.length m 49200 z k).bind _=_;rw[f4,D];grind)
   have HP:=f0;generalize jG _ m S _=s at*;generalize cH _ _ _=pm at*;clear hx D e8 HE f0 a0;generalize(g[k]'f)=n at*;obtain⟨aj,nA,ls,nc,key,child,ac,s0,n0,x0,s1,n1,x1,s2,n2,x2⟩:=n;dsimp only[aZ]at e2 d0 d1 d2 d3 d4 d5 d6 d7 d8 d9 k8 i8 g9 k4;have f5:=(ah _ wr).alloc (ae _) (.cells #[N aj,U nA ls.length nc,N key,N child,I ac,I s0,I n0,I x0,I s1,I n1,I x1,I s2,I n2,I x2] 157);have f2:=J (aa.new wr 157 #[N aj,U nA ls.length nc,N key,N child,I ac,I s0,I n0,I x0,I s1,I n1,I x1,I s2,I n2,I x2]);have a8:=J (HM.below f5);have e4:=J f5;have k0:0<=(k:Int):=o_
   have k1:k<(nn:Int):=o_
   clear f5 f;subst hA;go_upto_region 14 with fail
   clear d0 d1 d2 d3 d4 d5 d6 d7 d8 d9 k8 i8 g9 k4;generalize wr.alloc _=W8 at*;have r0:wr.heap.size<W8.heap.size:=f2.lt;have b6:=J (λ(w':World)(hb:E W8 w')=>e2 w' (e4.trans (hb.mono e4.size)));clear e2 e4;generalize wr.heap.size=gn at*;have f3:Kp (E u _):=j3.trans (a8.low.mono o_);have e3:Kp (∀w',E _ _->aa w' _ _ _):=λw' h=>((a8.below h).low.block _ o_).trans q2;have HS:Kp (∀w',E _ _->(C _ _ 0 (U _ _ _)/\C _ _ 1 (N m))/\(C _ _ 0 _/\C _ _ 1 _/\C _ _ 2 _/\C _ _ 3 _/\C _ _ 4 _/\C _ _ 5 _/\C _ _ 6 _/\C _ _ 7 _/\C _ _ 8 _/\C _ _ 9 _/\C _ _ _ _/\C _ _ _ _/\C _ _ _ _/\C _ _ _ _)/\E _ _):=λw' h=>⟨⟨(e3 _ h).cell 0,(e3 w' h).cell 1⟩,(aa.bK (f2.under h)).1,h⟩;apply wp_region_noPanic;refine br (t:=99) (S:=(λw'=>(C w' _ 0 _/\C w' _ 1 _)/\(C w' _ 0 _/\C w' _ 1 _/\C w' _ 2 _/\C w' _ 3 _/\C w' _ 4 _/\C w' _ 5 _/\C w' _ 6 _/\C w' _ 7 _/\C w' _ 8 _/\C w' _ 9 _/\C w' _ _ _/\C w' _ _ _/\C w' _ _ _/\C w' _ _ _)/\E _ w')) k_ (HS _ bR.drew) (λd=> ?_);apply tD 0 1 2 3 d;refine oT 4 λK hK=>?_
   go_simp
   apply(b6 _ d.2.2).mono;rintro e w9⟨n5,rfl,i4,c8,b0⟩;refine oK hK ?_ λq=>?_
   .exact HS _ (d.2.2.trans (b0.mono o_))
   replace d:=q;clear hK K q;refine oT 5 λK hK=>?_
   go_simp
   apply(HP _ _ (f3.trans (d.2.2.mono f3.size)) i4 c8).mono;rintro e e5⟨rfl,M⟩;refine oK hK ?_ λq=>?_
   .exact HS _ (d.2.2.trans (M.mono d.2.2.size))
   replace d:=q;clear hK K q;apply tD 6 7 8 9 d;apply tk 10 d;refine bQ k_ ?_ _
   try clear d
   apply NoPanic.normal;have H:E W8 _:=(bR.drew.trans b0).trans (M.mono (b0.size));have r:=J (a8.below H);clear b0 M c8 i4 b6 HP HS e3 f3 a8 f2 r0;have O:=AH b;have V:Kp (Calls prog 72 #[Y (u.heap.size+1+1) 0] e5 λe w'=>e = .returned (I b.size)/\w'=e5):=(by have:=Gz r.bd;grind);clear O;have u6:=o4.o;have v0:IntKind.i64.wrap _=49200-s.size:=IntWalk.i64_in _ o_;go_wp2_with fail;apply V.mono;rintro e g8⟨rfl,rfl⟩;by_cases a3:49200<b.size+s.size
   .have W:=q0 a3;have hg:decide (49200-s.size<(b.size:Int))=true:=o_;have a5:R=(.empty,0,7):=by
     rw[<-HR];unfold kL;have:=Fv W (z.length-(k+1));rw[show k+1+(z.length-(k+1))=z.length by have:=b5.o;omega]at this;rw[this]
    have Hf:=J (HQ _ (B4.trans (r.low.mono (aF B3.size o_))));rw[a5]at Hf;clear W a5 H;go_wp2;go_ret3;exact Hf
   .have g0:=J (n6 a3);have hg:decide (49200-s.size<(b.size:Int))=false:=o_;have i7:=r.box;have c0:C _ _ 0 (U _ _ _):=i7.cell 0;have q3:S.length<1048576*64:=by have:=q7.o;omega
    have p8:=r.up.size;clear H i7;go_wp2_with fail;apply V.mono;rintro e o2⟨rfl,rfl⟩
    go_wp2_with(at_builtin;refine iP rfl _ _ _ rfl _ 3 _ _ 8 underlying84 p5 p6 m9 r1 rfl _ _ rfl (U _ _ _) _ _ rfl r.own rfl q3 d_ p8 ?_)
    intro u5 m4 B y;obtain⟨n3,q4,rfl⟩:=cI B;have F:=r.GC y;have e0:C _ _ 0 (U _ _ _):=F.cell 0;have ef:=F.free 0;have L:=J (r.push y B);have O:=AH b;have h9:=J (Rv (s:=s) L.bd o_ L.up.size);clear B y F c0 O r V;go_wp2_with fail;apply h9.mono;clear h9;rintro e v2⟨rfl,p',v',e1,c6,c5⟩;have l4:=J (L.write e1 c6 c5);clear e1 c6 c5 L e0 ef;go_wp2;exact⟨⟨_,_,_,_,_,_,o_,o_,by rw[Kf],g0,l4⟩,o_⟩
  .obtain rfl:k=nn:=o_
   clear a0;have g7:=J (GD HM.bd);have q6:=J (B4.trans (HM.low.mono (aF B3.size o_)));have a5:R=(b,iu S,0):=by
    rw[<-HR];unfold kL;rw[b5,f4]
   have n7:Kp (∀w',E w w'->Q (.returned (.tuple #[T b,I (iu S),I 0])) w'):=(λw' hb=>by have:=HQ _ hb;grind);clear a5;have i6:⟨b.data.toList.toArray⟩=b:=o_
   rw[i6]at g7;clear i6;go_wp2_with fail;apply g7.mono;rintro e m6⟨rfl,c7⟩;have Hf:=J (n7 _ (q6.trans (c7.mono (by have:=B3.size;omega))));clear c7;go_wp2;go_ret3;exact Hf
end
end Tc
end Go.Proofs.YtibjlpkpljnicaaGreatDoor
