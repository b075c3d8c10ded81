/- Parts. -/
import Derived.Test.YtibjlpkpljnicaaGreatDoorR33
import Derived.Test.YtibjlpkpljnicaaGreatDoorR34
set_option maxRecDepth 100000
set_option maxHeartbeats 8000000
set_option linter.all false
namespace Go.Proofs.YtibjlpkpljnicaaGreatDoor
namespace Tc
open List Go.RowKit Base Go.Proofs.Tryz
def JQ:(prog.info? 203).map (λi=>(i.zero,i.size,i.bytes))=some (some (.agg #[I 0,Z,Z]),3,56):=k_
def PZ s:∀u∈(uv s).toList,u.oneCell'=true:=by
 intro u b;simp at b;rcases b with rfl|rfl|rfl<;>rfl
structure ku(w:World)(B:Nat)(v:Value)(s:Sn):Prop where
 at_:mP w w.heap.size s
 off:∀k,cE s.At (an s.take) k\/cE s.Ai (an s.dz) k->B<=k/\k<w.heap.size/\v.ownBlock≠some k
def ku.below{w w' B v s}(h:ku w B v s)(b:E w w'):ku w' B v s:=
 ⟨(h.at_.below b).more b.size,λk hk=>⟨(h.off k hk).1,bh (h.off k hk).2.1 b.size,(h.off k hk).2.2⟩⟩
def ku.app{w w' B v f s}(h:ku w B v s)(b:App w w' v f):ku w' B f s:=by
 have c:=b.grown.size;refine⟨⟨(fO h.at_.take λk hk=>b.bI (h.off k (.inl hk)).2.1 (h.off k (.inl hk)).2.2).more c,(fO h.at_.dz λk hk=>b.bI (h.off k (.inr hk)).2.1 (h.off k (.inr hk)).2.2).more c⟩,λk hk=> ?_⟩;have h1:=h.off k hk;refine⟨o_,o_,λe=> ?_⟩;obtain d|⟨j,d,g⟩:=b.j4
 .grind
 grind
def rI{w:World}{B n c e k A b}(h:w.ownsRow B e 1 (U A n c) n b)(hk:cE A b k):B<=k/\k<w.heap.size:=by
 obtain⟨d,off,rfl⟩:=hk;exact h.lt k rfl
def ku.new{w B v s}(h:zG w B s){B0}(c:B0<=B)(b:∀j,v.ownBlock=some j->j<B):ku w B0 v s:=by
 refine⟨⟨kG h.take,kG h.dz⟩,λk hk=> ?_⟩;have h1:=hk.elim (rI h.take) (rI h.dz);grind
def vx(s:aN)(f:List Pk)(w:World)(e:Ending)(w':World):Prop:=∃(A:OA)(sns:List Sn)(c:Nat),e = .returned (.tuple #[U A sns.length c,I 0])/\sns.length=f.length/\(∀(i:Nat) d p b,s.af[i]? = some d->f[i]? = some p->sns[i]? = some b->jh d p b)/\fU w' w'.heap.size A sns/\(∀k,qn A sns k->w.heap.size<=k)/\E w w'
def Mj s D A cq w(hs:cQ w w.heap.size s)(ho:cJ s)(hq:fH w w.heap.size A D)(hk:iT s D):Calls prog 42 #[.agg (aG s),.agg #[U A D.length cq]] w (vx s D w):=by
 have c8:=(ah _ w).alloc (ae _) (.cells (aG s) 25);have e7:=J (aa.new w 25 (aG s));obtain⟨w1,d9⟩:=e_ (w.alloc (.cells (aG s) 25))
 rw[d9]at c8 e7;have b0:=c8.alloc c8.size (.cells #[U A D.length cq] 29);have b3:=J (aa.new w1 29 #[U A D.length cq]);have b8:=J (e7.alloc (.cells #[U A D.length cq] 29));obtain⟨w2,e8⟩:=e_ (w1.alloc (.cells #[.slice A D.length cq] 29))
 rw[e8]at b0 b3 b8;have f6:=J b0;have b7:Kp (∀W,E w W->cQ W _ s):=λW F=>(hs.below F).more F.size;have d5:Kp (∀W,E w W->fH W _ A D):=λW F=>(hq.below F).more F.size;have HC:=J (λW F=>DH s D A cq W (b7 W F) ho (d5 W F) hk)
 have HF:=J (λW F i d p h1 h2=>Pv d p W ((b7 W F).af d (mem_of_getElem? h1)) (by
  have Y:=aO h1;have h4:=ho.af i Y.1;grind) ((d5 W F).each p (mem_of_getElem? h2)) (hk.ok i d p h1 h2))
 have HR:=kp (show∀A1 sns c1 W,sns.length=D.length->(∀ i d p Z,s.af[i]? = some d->D[i]? = some p->sns[i]? = some Z->jh d p Z)->W.ownsRow w.heap.size 203 3 (.slice A1 sns.length c1) sns.length (sns.flatMap oL)->(∀x∈sns,ku W _ (.slice A1 sns.length c1) x)->Below _ w W->vx s D w (.returned (.tuple #[.slice _ _ _,.int _ 0])) W fromλA1 sns c1 W h1 h2 Y h4 h5=>⟨_,_,c1,rfl,h1,h2,⟨dF Y,λx hx=>(h4 x hx).at_⟩,λk hk=>by
  obtain hk|⟨x,hx,hk⟩:=hk
  .obtain⟨f7,off,rfl⟩:=hk;exact(Y.lt k rfl).1
  .exact((h4 x hx).off k hk).1,h5⟩)
 have i1:=ho.n2;have c9:=hk.len;obtain⟨n,hN⟩:=e_ D.length
 have H:s.af.length=n:=o_
 have m0:=J H;have HN:=J hN;unfold aG at*;rw[H]at e7 b8 d9 HC i1⊢;rw[hN]at b3 e8 HC HR⊢;generalize hQ:vx s D w=Q at*;clear hs ho hq hk c8 b0 hN H c9 hQ;obtain⟨i0,n7,n8,l4,p8⟩:=info_parts JQ;obtain⟨s0,s1,_,_⟩:=b8.two;obtain⟨q0,_⟩:=b3.one;go_in;go_wp2_with fail;apply(HC _ f6).mono;rintro e w3⟨rfl,b6⟩;have c7:=bu b8 b6;have n5:=bu b3 b6;have e4:=ay f6 b6;have g4:=c7.lt;clear b6 d9 e8 s0 s1 q0;obtain⟨q0,_⟩:=n5.one;go_wp2;clear q0
 go_loopw [7,19] (λv7 d7 wr=>∃(k:Nat)(sns:List Sn)(A1:OA)(c1:Nat),k<=n/\d7 = N k/\v7 = U A1 k c1/\Kp (sns.length=k)/\Kp (∀(i:Nat) d p Z,s.af[i]? = some d->D[i]? = some p->sns[i]? = some Z->jh d p Z)/\wr.ownsRow w3.heap.size 203 3 (U A1 k c1) k (sns.flatMap oL)/\Kp (∀x∈sns,ku wr w.heap.size (U A1 k c1) x)/\E w3 wr) (λ_ d7 _=>n-(intOf d7).toNat)
 case atStart=>exact⟨0,[],_,0,o_,rfl,rfl,J rfl,J (λi d p Z _ _ h=>r_),cK _ _ _ _,J (λx h=>r_),bR⟩
 .obtain⟨i,sns,A1,c1,hi,rfl,rfl,V,f2,d3,i5,F⟩:=hrel;obtain⟨wo,rfl⟩:∃wo,wo=wr:=⟨_,rfl⟩
  have O:=J d3;have Hb:=J F;have Hw:=ay e4 F;clear F d3;by_cases f5:i<n
  .have e6:i<D.length:=by rw[HN];omega
   have G:i<s.af.length:=by rw[m0];omega
   have Hd?:= J (gE G);have Hp?:= J (gE e6);obtain⟨bq,oq,rfl,s8,c0,n9,c2,c3,c4,c5,c6⟩:=(d5 _ Hw).pick i e6;have e1:=J (λW F=>HF W F i _ _ Hd?.out Hp?.out)
   have g9:Kp (∀W,E w W->∃b off,s.A=some _/\b<w.heap.size/\C W b (off+i*2) _/\C W b _ _):=(λW F=>by
    obtain⟨b,off,e,_,hc⟩:=Row.rec mT (b7 W F).row o_ i G;obtain⟨b2,r2,e2,b0,_⟩:=Row.rec mT (b7 w bR).row o_ i G;rw[e]at e2;injection e2 with e2
    injection e2 with e3 _ _
    exact⟨b,_,e,o_,hc 0 _ rfl,hc 1 _ rfl⟩)
   generalize(s.af[i]'G)=d at*;generalize(D[i]'e6)=p at*
   have d6:Kp (∀Z,jh d p Z->∀ j d' p' b9,s.af[j]? = some _->D[j]? = some _->(sns++[Z])[j]? = some _->jh d' p' b9):=(λZ H j d' p' b9 h1 h2 Y=>by
    have hl:=V.out;by_cases hj:j<i
    .rw[getElem?_append_left o_]at Y;exact f2.out j _ _ _ h1 h2 Y
    .have o4:j=i:=r_
     subst o4;rw[Hd?.out]at h1;rw[Hp?.out]at h2;grind)
   obtain⟨f,t,lo,b1,pA,set,pc,g,b4⟩:=p;dsimp only[cT,aU]at*;obtain⟨ns,f8⟩:=e_ set.length
   obtain⟨nd,f3⟩:=e_ d.ai.length
   rw[f8]at c4 e1;rw[f3]at g9 e1;clear f8 f3;have m6:=J (aa.new wo 58 #[N f,N t,T lo,T b1,U pA ns pc,.bool g,N b4]);have h8:=(ah _ wo).alloc (ae _) (.cells #[N f,N t,T lo,T b1,U pA ns pc,.bool g,N b4] 58);have m5:=J h8;have k0:0<=(i:Int):=o_
   have k1:i<(n:Int):=o_
   clear h8;go_upto_region 8 with fail
   generalize wo.alloc _=w4 at*;generalize h9:wo.heap.size=g7 at*;have g5:=J h9;clear c0 n9 c2 c3 c4 c5 c6 h9;have g8:Kp (aa _ _ _ _):=m6.under bR.drew;have X:=kp (show Below wo.heap.size _ _ from by rw[g5];exact m5.drew);have b5:=J (Hb.trans (X.mono Hb.size));have d4:=J (e4.trans (b5.mono o_));obtain⟨p0,p1,p2,p3,p4,p5,p6⟩:=aa.seven g8;obtain⟨s0,s1,_,_⟩:=(c7.under b5).two;obtain⟨bd,od,eD,r5,d0,d1⟩:=g9 _ d4;rw[eD]at s0;clear eD;apply wp_region_noPanic;refine br (t:=10) (S:=(λw'=>C w' _ 0 _/\C w' _ _ _/\C w' _ _ _/\C w' _ 0 _/\C w' _ 1 _/\C w' _ 2 _/\C w' _ 3 _/\C w' _ 4 _/\C w' _ 5 _/\C w' _ 6 _)) k_ ⟨s0,d0,d1,p0,p1,p2,p3,p4,p5,p6⟩ (λm=> ?_);generalize w4.drew=wd at*;apply tD 0 1 2 3 m;apply eR 4 5 6 m;refine oT 7 (λK hK=> ?_)
   go_simp
   apply(e1 _ d4).mono;rintro e w5⟨Z,rfl,H,i6,h0⟩;obtain⟨a8,a9,a2,a4,a1,a7,a5⟩:=Z;have f9:=J H;have f1:=J i6;have u:=J h0;clear H i6 h0
   try go_simp
   refine oK hK ?_ (λq=> ?_)
   .exact⟨al u s0,al u d0,al u d1,al u p0,al u p1,al u p2,al u p3,al u p4,al u p5,al u p6⟩
   clear hK K m;have m:=q;clear q;have I:=J (bS O (X.trans (u.mono X.size)));have a6:=J (b5.trans (u.mono b5.size));have h7:=J (λx hx=>(i5.out x hx).below (X.trans (u.mono X.size)));have f4:=J (ku.new f1 d4.size (λj hj=>bh (O.lt j hj).2 X.size));have g3:=a6.size;have p9:i+1<1048576*64:=o_
   have R:∀j,j<w3.heap.size->(Value.slice _ i _).ownBlock≠some j:=λj hj e=>by have:=(I.lt j e).1;omega
   obtain⟨n3,n6,_,_⟩:=(c7.under a6).two;refine oT 8 (λK hK=> ?_)
   go_simp
   refine oK hK ?_ (λq=> ?_)
   .exact⟨al (bR.alloc o_ _) m.1,al (bR.alloc o_ _) m.2.1,al (bR.alloc o_ _) m.2.2.1,al (bR.alloc o_ _) m.2.2.2.1,al (bR.alloc o_ _) m.2.2.2.2.1,al (bR.alloc o_ _) m.2.2.2.2.2.1,al (bR.alloc o_ _) m.2.2.2.2.2.2.1,al (bR.alloc o_ _) m.2.2.2.2.2.2.2.1,al (bR.alloc o_ _) m.2.2.2.2.2.2.2.2.1,al (bR.alloc o_ _) m.2.2.2.2.2.2.2.2.2⟩
   clear hK K m;clear q;have y:(Value.slice _ i _).ownBlock≠some g7:=λe=>by have:=(O.lt _ e).2;have:=g5.o;omega
   have m8:=u.size;have z:=bh g8.lt m8;have l7:w.heap.size<w5.heap.size:=o_
   have B:Kp (∀ k o v,k<w5.heap.size->(Value.slice _ i _).ownBlock≠some k->C _ k o v->∀w' v',App _ _ (U A1 i c1) v'->C w' k o v):=λk o v hk f7 hc w' v' ha=>(bF (ha.bI hk f7)).trans (al u hc);refine oT 9 (λK hK=> ?_);refine rS rfl _ _ _ rfl _ 203 _ _ 3 _ underlying109 n7 n8 l4 p8 rfl d_ _ (uv ⟨_,_,_,_,_,_,_⟩) rfl (PZ _) (U _ i _) i _ rfl I rfl p9 d_ g3 ?_;intro v6 w6 L a0;obtain⟨A6,c6,h6⟩:=cI L;subst h6;have e0:=J L;have r:=J a0;clear L a0
   go_simp
   refine oK hK ?_ (λq=> ?_)
   .exact⟨B _ _ _ l7 (R _ g4) s0 _ _ r,B _ _ _ o_ (R _ o_) d0 _ _ r,B _ _ _ o_ (R _ o_) d1 _ _ r,B _ _ _ z y p0 _ _ r,B _ _ _ z y p1 _ _ r,B _ _ _ z y p2 _ _ r,B _ _ _ z y p3 _ _ r,B _ _ _ z y p4 _ _ r,B _ _ _ z y p5 _ _ r,B _ _ _ z y p6 _ _ r⟩
   clear hK K;clear q;refine fC k_ (by first|exact g_|rfl) k_ (λK hK=> ?_)
   go_simp
   apply hK.out _ _;clear hK K;apply NoPanic.normal
   have m4:=J (r.ew a6 I o_ g3)
   have i2:Kp _:=(λx hx=>by
    obtain hx|hx:=mem_append.1 hx
    .exact(h7 x hx).app r
    .rw[mem_singleton.1 hx]
     exact f4.app r)
   have i3:Kp ((sns++[(⟨a8,a9,a2,a4,a1,a7,a5⟩:Sn)]).length=i+1):=o_;have i4:=J (d6 _ f9);have d8:Kp (w6.ownsRow _ _ 3 _ _ ((sns++[(⟨_,_,_,_,_,_,_⟩:Sn)]).flatMap _)):=(by rw[flatMap_append];exact e0);clear p0 p1 p2 p3 p4 p5 p6 s0 s1 d0 d1 n3 n6 R y;go_wp2;exact⟨⟨_,_,_,_,o_,o_,rfl,i3,i4,d8,i2,m4⟩,o_⟩
  .obtain rfl:i=n:=o_
   have d2:=J (HR _ _ _ _ (by rw[V.out]) f2.out (by rw[V.out];exact dZ O o_) (by rw[V.out];exact i5.out) Hw);rw[V.out]at d2;go_wp2;exact d2
def qu(b off c:Nat):OA:=if c=1 then some ⟨b,off,none⟩else some ⟨b,off+1,none⟩
def PR b off n c(h0:1<=n)(p:n<=c) w:(Instr.slice 84 (U (some ⟨b,off,none⟩) n c) (some (I 1)) none none).run prog w = .ok (U (qu b off c) (n-1) (c-1)) w:=by
 have h1:prog.cellsOf 3=1:=k_;obtain⟨q,e,f,d,g⟩:=info_parts iK;have m:1<=(n:Int):=o_;unfold qu;by_cases h:c=1<;>simp[go_sem,m]
def P0{w B b off c k ks}(h:Row w B (some ⟨b,off,none⟩) (an (k::ks)))(q:ks.length+1<=c):Row w B (qu b off c) (an ks):=by
 unfold qu;by_cases h1:c=1
 .have:ks=[]:=length_eq_zero_iff.1 o_;subst this;exact .inl rfl
 .rw[if_neg h1];obtain h|⟨r,f,e,n,d⟩:=h
  . trivial
  .injection e with e;injection e with g m _;subst g m;refine .inr ⟨b,_,rfl,n,λj v p=> ?_⟩;have:=d (1+j) v (by rw[Nat.add_comm];exact p);grind
def fS:List (au×Pk)->LN->Prop
 | [],ks=>ks=[]
 |(d,p)::L,ks=>if p.g=true then∃k r,ks=k::r/\k<(bE d p.bG).length/\fS L r else fS L ks
def cX:List (au×Pk)->LN->List ByteArray
 | [],_=>[]
 |x::L,ks=>if x.2.g=true then eI x.1 x.2.bG (ks.headD 0)::cX L ks.tail else cX L ks
def BL:(prog.info? 9).map (λi=>(i.zero,i.size,i.bytes))=some (some (T ByteArray.empty),1,16):=k_
def ve(b:List ByteArray)(w:World)(e:Ending)(w':World):Prop:=∃(v:Value),e = .returned (.tuple #[v,I 0])/\w'.ownsRow w.heap.size 9 1 v b.length (b.map .string)/\E w w'
def Lf s D L A Ak cq ck keys w(hs:cQ w w.heap.size s)(ho:cJ s)(hq:fH w w.heap.size A D)(hk:iT s D)(hL:∀(i:Nat) d p,s.af[i]? = some d->D[i]? = some p->L[i]? = some (d,p))(i1:L.length=D.length)(R:Row w w.heap.size Ak (an keys))(V:keys.length<=ck)(a4:fS L keys) :
 Calls prog 44 #[.agg (aG s),.agg #[U A D.length cq],U Ak keys.length ck] w (ve (cX L keys) w):=by
 have d3:=(ah _ w).alloc (ae _) (.cells (aG s) 25);have g6:=J (aa.new w 25 (aG s));obtain⟨w1,f9⟩:=e_ (w.alloc (.cells (aG s) 25))
 rw[f9]at d3 g6;have h3:=d3.alloc d3.size (.cells #[U A D.length cq] 29);have b8:=J (aa.new w1 29 #[U A D.length cq]);have d2:=J (g6.alloc (.cells #[U A D.length cq] 29));obtain⟨w2,g8⟩:=e_ (w1.alloc (.cells #[.slice A D.length cq] 29))
 rw[g8]at h3 b8 d2;have i5:=J h3;have d0:Kp (∀W,E w W->cQ W _ s):=λW z=>(hs.below z).more z.size;have h9:Kp (∀W,E w W->fH W _ A D):=λW z=>(hq.below z).more z.size;have HC:=J (λW z=>DH s D A cq W (d0 W z) ho (h9 W z) hk);have Hk:=J hk;have q9:Kp (∀W,E w W->Row W _ _ _):=λW z=>(R.below z).more z.size;have HL:=J hL;have HR:Kp (∀v W,W.ownsRow w.heap.size 9 1 v (cX L keys).length ((cX L keys).map .string)->E w W->ve _ w _ W):=λv W h1 h2=>⟨v,rfl,h1,h2⟩;have k9:=ho.n2;have d5:=hk.len;obtain⟨n,hN⟩:=e_ D.length
 have f8:s.af.length=n:=o_
 have n7:=J f8;have HN:=J hN;have h7:=kp (show L.length=n from o_);have m9:=J a4;obtain⟨nk,f5⟩:=e_ keys.length
 rw[f5]at V⊢;have j3:=J f5;unfold aG at*;rw[f8]at g6 d2 f9 HC k9⊢;rw[hN]at b8 g8 HC⊢;generalize hQ:ve _ w=Q at*;have i9:=J V;have Ho:=J ho;clear hs ho hq hk d3 h3 hN f8 d5 hQ R a4 hL i1 f5 V;obtain⟨i0,p9,q1,n5,q7⟩:=info_parts BL;obtain⟨s0,s1,_,_⟩:=d2.two;obtain⟨q0,_⟩:=b8.one;go_in;go_wp2_with fail;apply(HC _ i5).mono;rintro e w3⟨rfl,c8⟩;have h0:=bu d2 c8;have p7:=bu b8 c8;have b4:=ay i5 c8;have r3:=h0.lt;clear c8 f9 g8 s0 s1 q0;obtain⟨q0,_⟩:=p7.one;go_wp2;clear q0
 go_loopw [2,9,22] (λv2 v9 f4 wr=>∃(k:Nat)(ks:LN)(O:List ByteArray)(A2 A9:OA)(c2 c9:Nat),k<=n/\f4 = N k/\v2 = U A2 ks.length c2/\v9 = U A9 O.length c9/\ks.length<=c2/\O.length<=k/\Kp (fS (L.drop k) ks)/\Kp (O++cX (L.drop k) ks=cX L keys)/\Kp (∀W,E w W->Row W W.heap.size A2 (an ks))/\wr.ownsRow w3.heap.size 9 1 (U A9 O.length c9) O.length (O.map .string)/\E w3 wr) (λ_ _ f4 _=>n-(intOf f4).toNat)
 case atStart=>exact⟨0,_,[],_,_,_,0,o_,rfl,by rw[j3],rfl,by rw[j3];exact i9,o_,o_,o_,q9,cK _ _ _ _,bR⟩
 .obtain⟨i,ks,O,A2,A9,c2,c9,hi,rfl,rfl,rfl,V,n6,a4,i6,R,d6,z⟩:=hrel;obtain⟨wo,rfl⟩:∃wo,wo=wr:=⟨_,rfl⟩
  have a1:=J d6;have Hb:=J z;have Hw:=ay b4 z;clear z d6;by_cases f2:i<n
  .have x:i<D.length:=by rw[HN];omega
   have q:i<s.af.length:=by rw[n7];omega
   have a8:=HL i _ _ (gE q) (gE x);have e9:i<L.length:=r_
   have a7:=kp (show L.drop i=(s.af[i]'q,D[i]'x)::L.drop (i+1)from by
    rw[drop_eq_getElem_cons e9];grind)
   have l0:=Hk.ok i _ _ (gE q) (gE x);obtain⟨bq,oq,rfl,u8,c0,c1,q4,c3,c4,c5,c6⟩:=(h9 _ Hw).pick i x
   have k3:Kp (∀W,E w W->∃b off,s.A=some _/\C W b (off+i*2+1) _):=(λW z=>by
    obtain⟨b,off,e,_,hc⟩:=Row.rec mT (d0 W z).row o_ i q
    exact⟨b,_,e,hc 1 _ rfl⟩)
   have y:=l0.bG
   have n3:=kp (show∀W,E w W->∃b off,(s.af[i]'q).A=some ⟨b,off,_⟩/\W.cell? _=some (.slice ((s.af[i]'q).ai[(D[i]'x).bG]'y).At (bE (s.af[i]'q) (D[i]'x).bG).length ((s.af[i]'q).ai[(D[i]'x).bG]'y).ct)fromλW z=>by
    obtain⟨b,off,e,_,hc,_⟩:=((d0 W z).af _ (gM q)).rY _ y;refine⟨b,_,e,?_⟩;rw[hc];unfold bE;grind)
   have i7:Kp (∀W,E w W->Row W W.heap.size ((s.af[i]'q).ai[(D[i]'x).bG]'y).At ((bE (s.af[i]'q) (D[i]'x).bG).map .string)):=(λW z=>by
    have h1:=(((d0 W z).af _ (gM q)).ai _ (gM y)).ar;unfold bE;grind)
   have p6:(bE (s.af[i]'q) (D[i]'x).bG).length<=200:=by
    unfold bE;rw[gE y];exact((Ho.af i q).ai _ y).n2
   generalize((s.af[i]'q).ai[(D[i]'x).bG]'y).At=u6 at*;generalize((s.af[i]'q).ai[(D[i]'x).bG]'y).ct=s8 at*;clear l0 a8 e9;generalize(s.af[i]'q)=d at*;generalize(D[i]'x)=p at*;obtain⟨f,t,lo,e3,pA,set,pc,g,r⟩:=p;dsimp only[cT,aU]at*;obtain⟨b1,d7⟩:=e_ set.length
   obtain⟨nd,h5⟩:=e_ d.ai.length
   rw[d7]at c4;rw[h5]at k3 y;clear d7 h5;have n9:=J (aa.new wo 58 #[N f,N t,T lo,T e3,U pA b1 pc,.bool g,N r]);have b9:=J ((ah _ wo).alloc (ae _) (.cells #[N f,N t,T lo,T e3,U pA b1 pc,.bool g,N r] 58));have k0:0<=(i:Int):=o_
   have k1:i<(n:Int):=o_
   obtain⟨a2,b3⟩:=e_ ks.length
   obtain⟨H,b6⟩:=e_ O.length
   have F:=J b3;have a0:=J b6;rw[b3]at V⊢;rw[b6]at n6 a1⊢;clear b3 b6;have G:=a4.out;rw[a7,fS]at G;have B:=i6.out;rw[a7,cX]at B;dsimp only at G B;obtain _|_:=g
   .rw[if_neg d_]at G B;have f1:=J G;have a6:=J B;have X:=J (bS a1 b9);have a3:=J (Hb.trans (b9.mono Hb.size));clear G B;go_wp2;exact⟨⟨_,_,O,_,_,_,_,o_,o_,by rw[F],by rw[a0],by rw[F];omega,by rw[a0];omega,f1,a6,R,by rw[a0];exact X,a3⟩,o_⟩
   .rw[if_pos rfl]at G B;obtain⟨key,kr,ek,e7,G⟩:=G;subst ek;have f1:=J G;have a6:=J B;have e4:=J V;have l7:1<=a2:=by rw[<-F];simp
    have X:=J (bS a1 b9);have a3:=J (Hb.trans (b9.mono Hb.size));clear G B;go_upto_region 9 with fail
    generalize wo.alloc _=w4 at*;generalize wo.heap.size=g7 at*;clear c0 c1 q4 c3 c4 c5 c6;have k4:=J (b4.trans (a3.mono o_));have pD:=aa.seven n9;obtain⟨s0,s1,_,_⟩:=(h0.under a3).two;obtain⟨bd,od,eD,d1⟩:=k3 _ k4;obtain⟨bt,ot,eT,k7⟩:=n3 _ k4;rw[eD]at s0;rw[eT]at d1;clear eD eT;obtain⟨nt,g5⟩:=e_ ((bE d r).length)
    rw[g5]at k7 p6 e7;have i2:=J g5;clear g5;have m0:0<=(r:Int):=o_
    have m1:r<(nd:Int):=o_
    go_quiet (fail)
    have i4:=J (below_drewN (ah w4.heap.size w4) nq);have e8:=J (bS X i4);have j0:=J (a3.trans (i4.mono a3.size));clear pD s0 s1 d1 k7;generalize w4.drewN _=w5 at*;have f7:=J (b4.trans (j0.mono o_));obtain⟨b2,o2,rfl,_,kc⟩:=(R.out _ f7).at_ (k:=0) (by simp[an]);have kc:C _ _ o2 (N _):=kc
    have d9:Kp (∀W,E w W->C W _ o2 (N _)):=(λW z=>by
     obtain⟨b',o',e,_,hc⟩:=(R.out _ z).at_ (k:=0) (by simp[an]);injection e with e
     injection e with e1 e2 _
     subst e1 e2
     exact hc)
    obtain⟨bn,on,rfl,_,nc⟩:=(i7 _ f7).at_ (by rw[lM,i2.o];exact e7)
    have k8:=kp (show∀W,E w W->W.cell? _=some (.string (eI d r _))fromλW z=>by
     have i3:key<(bE d r).length:=by rw[i2];omega
     obtain⟨b',o',e,_,hc⟩:=(i7 _ z).at_ (by rw[lM];omega);injection e with e
     injection e with e1 e2 _
     subst e1 e2;rw[hc,getElem_map];unfold eI;rw[gE i3]
     rfl)
    clear nc;have x0:((a2:Int) == 0)=false:=o_
    have x1:decide ((key:Int)<0)=false:=o_;have x3:decide (nt<=key)=false:=o_
    have x5:0<a2:=o_
    go_upto_region 12 with fail
    have h8:=J f7.drew;have k2:=J j0.drew;have kd:=d9 _ h8;have g4:=k8 _ h8;have Z:Kp (w5.drew.ownsRow _ 9 1 _ H _):=e8;have y0:0<=(key:Int):=o_
    have y1:key<(nt:Int):=o_
    have s4:=PR b2 o2 _ _ l7 o_;have p3:H<1048576*64:=o_
    have i8:=k2.size;have j1:Kp (b2<w3.heap.size/\bn<w3.heap.size):=⟨by have h:b2<w.heap.size:=mq (d9 w bR);omega,by have h:bn<w.heap.size:=mq (k8 w bR);omega⟩;clear kc;apply wp_region_noPanic;refine br (t:=12) (S:=(λw'=>C w' _ _ _/\C w' _ _ (T _))) k_ ⟨kd,g4⟩ (λm=> ?_);generalize w5.drew=wd at*;apply tD 0 1 2 3 m;apply tD 4 5 6 9 m;apply tk 10 m;refine oT 7 (λK hK=> ?_)
    go_simp
    refine oK hK ?_ (λu=> ?_)
    .exact⟨al (bR.alloc o_ _) m.1,al (bR.alloc o_ _) m.2⟩
    clear hK K m;clear u;have f3:∀j,j<w3.heap.size->(Value.slice _ H _).ownBlock≠some j:=λj hj e=>by have:=(Z.lt j e).1;omega
    have q8:=j1.o;refine oT 8 (λK hK=> ?_);apply jq rfl _ _ _ rfl _ 9 _ _ _ underlying23 p9 q1 n5 q7 rfl _ _ rfl (U _ H _) H _ rfl Z rfl p3 d_ i8;intro v6 w6 Y a5;obtain⟨A6,c6,h6⟩:=bY Y;subst h6;have g0:=J Y;have a9:=J a5;clear Y a5
    go_simp
    refine oK hK ?_ (λu=> ?_)
    .exact⟨(bF (a9.bI o_ (f3 _ o_))).trans kd,(bF (a9.bI o_ (f3 _ o_))).trans g4⟩
    clear hK K;have m:=u;clear u;apply tk 11 m;refine fC k_ (by first|exact g_|rfl) k_ (λK hK=> ?_)
    go_simp
    apply hK.out _ _;clear hK K m;apply NoPanic.normal
    have n8:=J (a9.below k2 Z o_ i8);have e5:Kp ((O++[eI d r key])++cX _ kr=cX L _):=(by rw[<-a6,append_assoc];rfl);have l4:Kp (∀W,E w W->Row W _ (qu _ _ c2) _):=λW z=>P0 (R.out W z) (by have:=F.o;rw[length_cons]at*;omega);have d4:Kp (a2-1=kr.length/\kr.length<=c2-1):=(by have:=F.o;rw[length_cons]at*;exact⟨o_,o_⟩);have b5:Kp ((O++[eI d r key]).length=H+1):=o_;have f6:Kp (w6.ownsRow _ 9 1 (U _ _ _) _ ((O++[eI d r _]).map _)):=o_;clear kd g4 f3 q8;go_wp2;exact⟨⟨_,_,_,_,_,_,_,o_,o_,by rw[d4.1],by rw[b5],d4.2,by rw[b5];omega,f1,e5,l4,by rw[b5];exact f6,n8⟩,o_⟩
  .obtain rfl:i=n:=o_
   have f0:=a4.out;have c7:=i6.out;rw[drop_eq_nil_of_le (by rw[h7];omega)]at f0 c7;rw[fS]at f0;rw[cX,append_nil]at c7;subst f0;have k5:=J (HR _ _ (by rw[<-c7];exact dZ a1 o_) Hw);clear c7;go_wp2;exact k5
end Tc
end Go.Proofs.YtibjlpkpljnicaaGreatDoor
