/- Parts of a proof. -/
import Derived.Test.YtibjlpkpljnicaaGreatDoorL23
import Derived.Deep.CutBlock
import Derived.Deep.CutRange
set_option maxRecDepth 100000
set_option maxHeartbeats 8000000
set_option linter.all false
namespace Go.Proofs.YtibjlpkpljnicaaGreatDoor
namespace Tc
open List Go.RowKit Base Go.Proofs.Tryz
def tI{w w' g o c s f m e n r u q p b}(d:w'.heap[g]? = w.heap[g]?)(h:C w g o c/\C w g (o+1) s/\C w g (o+2) f/\C w g (o+3) m/\C w g (o+4) e/\C w g (o+5) n/\C w g (o+6) r/\C w g (o+7) u/\C w g (o+8) q/\C w g (o+9) p/\C w g (o+10) b):C w' g o c/\C w' g (o+1) s/\C w' g (o+2) f/\C w' g (o+3) m/\C w' g (o+4) e/\C w' g (o+5) n/\C w' g (o+6) r/\C w' g (o+7) u/\C w' g (o+8) q/\C w' g (o+9) p/\C w' g (o+10) b:=
 ⟨(bF d).trans h.1,eh d h.2⟩
def vK(r:List (LN×Ag))(w:World)(e:Ending)(w':World):Prop:=∃(A:OA)(c:Nat)(b:List Fa),e = .returned (.tuple #[U A b.length c,.bool true])/\b.map pl=r/\bM w' w'.heap.size A b/\E w w'
def K7{a b j}(h:aR a b=some j)(e:0<a.c)(d:0<b.c):nK a b/\j.c=a.c+b.c:=by
 unfold aR at h;rw[if_neg o_,if_neg o_]at h;split at h
 .injection h with h;subst h;trivial
 .cases h
def J9{out}{p:LN×Ag}{ps r}(h:dT out (p::ps)=some r):∃o,jB out p=some o/\dT o ps=some r:=by
 rw[dT]at h;cases e:jB out p with
 |none=>grind
 |some o=>grind
def OG A l c w r(hn:l.length<=1000)(hk:∀f∈l,f.keys.length<=1000)(hfit:∀f∈l,cB f.ag/\0<f.ag.c)(hs:cZ l)(hf:dT [] (l.map pl)=some r)(hr:bM w w.heap.size A l) :
 Calls prog 40 #[U A l.length c] w (vK r w):=by
 have HQ:Kp (∀A' c' l' w',l'.map pl=r->bM _ _ _ l'->E w _->vK r w _ w'):=λA' c' l' w' h1 h2 h3=>⟨A',c',_,rfl,h1,h2,h3⟩;have Hr:=J hr;have Hk:=J hk;have Hfit:=J hfit;have Hs:=J hs;have Hf:=J hf;obtain⟨i0,ti0,tz0,tz1,tz2⟩:=info_parts mA;generalize vK r w=Q at*;obtain⟨n,hN⟩:=e_ l.length
 rw[hN]at hn⊢;have Hn:=J hN;clear hr hk hfit hs hf hN;go_in;go_wp2
 go_loopw [4,12] (λv4 v12 wr=>∃(k m:Nat)(out:List Fa)(A':OA)(c':Nat),k<=n/\v12 = N k/\v4 = U A' m c'/\m<=k/\Kp (out.length=m)/\Kp (dT (out.map pl) ((l.drop k).map pl)=some r)/\Kp (∀x∈out,(cB x.ag/\0<x.ag.c)/\∃f∈l.take k,x.keys=f.keys)/\Kp (bj wr w.heap.size (U A' m c') out)/\E w wr) (λ_ v12 _=>n-(intOf v12).toNat)
 case atStart=>exact⟨0,0,[],_,0,o_,rfl,rfl,o_,J rfl,J (by rw[drop_zero];exact Hf),J (λx hx=>r_),J ⟨cK _ _ _ _,(λf hf=>r_)⟩,bR⟩
 .obtain⟨k,m,out,A',c',hk,rfl,rfl,hmk,hm,hfo,hof,hown,hbe⟩:=hrel;obtain⟨wo,rfl⟩:∃wo,wo=wr:=⟨_,rfl⟩
  have Hbe:=J hbe;clear hbe;by_cases hlt:k<n
  .have hkl:k<l.length:=by rw[Hn];omega
   have hfs:=(Hr.below Hbe).more Hbe.size;obtain⟨b,off,rfl,hb,c0,c1,c2,c3,c4,c5,c6,c7,c8,c9,c10⟩:=hfs.cells k hkl;have hfr:=hfs.keys _ (gM hkl)
   have Hkb:Kp (∀b off,(l[k]'hkl).A=some ⟨b,off,none⟩->an _≠[]->b<w.heap.size):=(λb off e hne=>by
    obtain h|⟨b',off',e',hb',_⟩:=Hr.keys _ (gM hkl)
    .exact absurd h hne
    grind)
   obtain⟨o,hst,hfo2⟩:=J9 (by
    have:=hfo.out;rw[drop_eq_getElem_cons hkl]at this
    exact this)
   have hkk:=Hk _ (gM hkl);have Hff:=J (Hfit _ (gM hkl))
   have Hin:Kp (∀x:Fa,(∃f∈l.take k,x.keys=f.keys)->(∃f∈l.take _,x.keys=f.keys)/\aI x.keys _<=0/\x.keys.length<=1000):=(λx⟨f,h1,h2⟩=>by
    refine⟨⟨f,by rw[take_succ_eq_append_getElem hkl];exact mem_append_left _ h1,h2⟩,?_⟩;obtain⟨i,hi,rfl⟩:=getElem_of_mem h1;rw[length_take]at hi;rw[getElem_take]at h2;refine⟨?_,?_⟩
    .rw[h2];exact pairwise_iff_getElem.1 Hs i k o_ o_ o_
    .rw[h2]
     exact Hk _ (gM _))
   have Hme:Kp (∃f∈l.take _,(l[k]'hkl).keys=f.keys):=⟨_,by rw[take_succ_eq_append_getElem hkl];grind,rfl⟩;generalize(l[k]'hkl)=f at*;have hbG:=(ah _ wo).alloc (ae _) (.cells (bC f) 89);have HBg:=J (aa.new wo 89 (bC f));have Hb2:=ay Hbe hbG;have Hown2:=J (hown.out.below hbG);have Hfr:=kp (show∀W,Below _ _ W->Row W _ _ _ fromλW hb=>(hfr.below hb).more hb.size);have Hfo2:=kp hfo2;have Hbg:=kp hbG;have hi0:0<=(k:Int):=o_
   have hi1:k<(n:Int):=o_
   clear hfs hfr hbG hfo2 hfo hown;go_upto_region 5 with fail
   clear c0 c1 c2 c3 c4 c5 c6 c7 c8 c9 c10;generalize hgF:wo.heap.size=gF at*;clear hgF;generalize wo.alloc _=W2 at*;have Hapf:=kp (show bP _ (.slice _ m _) f from⟨Hfr _ Hbg,λb off e hne ho=>by have h1:=(Hown2.1.lt b ho).1;have h2:=Hkb b _ e o_;omega⟩);have hm1:m+1<1048576*64:=o_
   obtain⟨b0,hb0⟩:∃b0:Bool,b0=match out.getLast? with|none=>true|some p=>decide (aI p.keys f.keys<0):=⟨_,rfl⟩
   have Hor:=kp (show(out=[]/\b0=true)\/∃P p,out=P++[p]/\b0=decide (aI p.keys _<0)/\aI p.keys _<=0/\p.keys.length<=1000 from by
    by_cases h0:out=[]
    .subst h0;exact .inl ⟨rfl,hb0⟩
    .refine .inr ⟨_,_,(dropLast_concat_getLast h0).symm,?_,?_⟩
     .rw[hb0,getLast?_eq_some_getLast]
     .exact(Hin _ (hof.out _ (getLast_mem h0)).2).2)
   have HLs:=kp (λ(x y) W h1 h2 h3 h4=>DS x y W h1 h2 h3 h4);have HoF:=kp (show∀x∈out,(cB _/\0<x.ag.c)/\∃f∈l.take _,x.keys=f.keys fromλx hx=>⟨(hof.out x hx).1,(Hin x (hof.out x hx).2).1⟩);have Hst:=kp hst;have Hkk:=kp hkk;clear hb0 hst hof hkk;go_upto_region 6 with fail
   go_cut [37]from 18 to 37 (λv37 wx=>v37 = .bool b0/\Kp (Below W2.heap.size W2 wx))
   case first=>
    have Hwd:=kp (show Below W2.heap.size W2 _ from bR.drew);obtain⟨h0,h1⟩|⟨P,p,rfl,h1,h2,hpk⟩:=Hor.o
    .obtain rfl:m=0:=by have:=hm.out;rw[h0]at this;exact this.symm
     subst h1;clear h0;refine wp_region_noPanic ?_;refine br (t:=99) (S:=(λ_=>True)) k_ trivial (λhHeld=> ?_);refine eR 0 1 2 hHeld ?_;refine sk 3 hHeld ?_;refine sk 4 hHeld ?_;refine sk 5 hHeld ?_;refine sk 6 hHeld ?_;refine sk 7 hHeld ?_;refine sk 8 hHeld ?_;refine sk 9 hHeld ?_;refine tB 10 11 hHeld ?_;refine sk 12 hHeld ?_;refine sk 13 hHeld ?_;refine sk 14 hHeld ?_;refine sk 15 hHeld ?_;refine sk 16 hHeld ?_;refine sk 17 hHeld ?_;refine sk 18 hHeld ?_;refine tk 19 hHeld ?_;refine bQ k_ ?_ _
     try clear hHeld
     refine NoPanic.normal ?_;go_wp2
     go_meet
     trivial
    .obtain⟨q,hq⟩:∃q,P.length=q:=⟨_,rfl⟩
     have hmq:m=q+1:=by rw[<-hm.out,<-hq];simp
     subst hmq;have Hw2:=Hown2.o;obtain⟨g,rfl,hBg,hgl⟩:=Hw2.addr s_;have Hmid:=bj.fw (w:=W2.drew) Hw2;rw[hq]at Hmid;have HpR:=kp (λW(hb:Below _ _ W)=>((Hw2.2 p s_).1.below hb).more hb.size);have HfR:=kp (λW(hb:Below _ _ W)=>(Hapf.1.below hb).more hb.size);have HF:=aa.dk (show aa W2.drew _ _ _ from HBg);have hgd:=hgl;have hFd:=HBg.o.lt;have hwq:IntKind.i64.wrap _=q:=IntWalk.i64_in _ o_;have hq0:0<=(q:Int):=o_
     have hq1:q<(q:Int)+1:=o_
     have hmi2:(((q:Int)+1) == 0)=false:=o_
     have HL1:=kp (λW hb=>HLs p f W o_ (aF Hkk d_) (HpR W hb) (HfR W hb));have HL2:=kp (λW hb=>HLs f p W (aF Hkk d_) o_ (HfR W hb) (HpR W hb));have e2:decide (aI _ _<0)=false:=decide_eq_false (by rw[jU p.keys f.keys];omega);rw[<-h1]at HL1;rw[e2]at HL2;clear e2 h2 hpk Hw2 hm Hor HLs h1 hq;refine wp_region_noPanic ?_;refine br (t:=99) (S:=(λw'=>(cF w' g _ p)/\(eG w' _ f))) k_ ⟨Hmid,HF⟩ (λhHeld=> ?_);generalize W2.drew=wd at*;refine tD 0 1 2 3 hHeld ?_;refine tD 4 5 6 7 hHeld ?_;refine tk 8 hHeld ?_;refine oT 9 (λK hK=> ?_)
     go_simp
     refine(HL1 _ Hwd).mono ?_;rintro e wc⟨rfl,hbc⟩;have Hbc:=ay Hwd hbc;have Hbd:=kp hbc;clear hbc
     try go_simp
     refine oK hK ?_ (λhHeld2=> ?_)
     .exact⟨tI (Hbd.o.block g (bh o_ Hwd.o.size)) hHeld.1,tI (Hbd.o.block _ (bh o_ Hwd.o.size)) hHeld.2⟩
     clear hK K hHeld;have hHeld:=hHeld2;clear hHeld2;cases b0 with
     |true=>
      refine tB 10 11 hHeld ?_;refine sk 12 hHeld ?_;refine sk 13 hHeld ?_;refine sk 14 hHeld ?_;refine sk 15 hHeld ?_;refine sk 16 hHeld ?_;refine sk 17 hHeld ?_;refine sk 18 hHeld ?_;refine tk 19 hHeld ?_;refine bQ k_ ?_ _
      try clear hHeld
      refine NoPanic.normal ?_;go_wp2
      go_meet
      trivial
     |false=>
      refine tD 10 11 12 13 hHeld ?_;refine tD 14 15 16 17 hHeld ?_;refine oT 18 (λK hK=> ?_)
      go_simp
      refine(HL2 _ Hbc).mono ?_;rintro e we⟨rfl,hbc⟩;have Hbe2:=ay Hbc hbc;have Hbd2:=kp hbc;clear hbc
      try go_simp
      refine oK hK ?_ (λhHeld2=> ?_)
      .exact⟨tI (Hbd2.o.block g (bh o_ Hbc.o.size)) hHeld.1,tI (Hbd2.o.block _ (bh o_ Hbc.o.size)) hHeld.2⟩
      clear hK K hHeld;have hHeld:=hHeld2;clear hHeld2;refine tk 19 hHeld ?_;refine bQ k_ ?_ _
      try clear hHeld
      refine NoPanic.normal ?_;go_wp2
      go_meet
      trivial
   case rest=>
    obtain⟨rfl,Hbx⟩:=hcut;have Hownx:=kp (Hown2.o.below Hbx);have Hapx:=kp (Hapf.o.below Hbx);have HBx:=kp (HBg.o.under Hbx);have Hw:=kp (Hb2.o.trans (Hbx.o.mono Hb2.o.size));clear Hown2 Hapf HBg Hbx Hb2 Hbg HLs Hfr;cases b0 with
    |true=>
     have Ho:=kp (show o=(out++[f]).map _ from by
      have h1:=Hst.o;obtain⟨rfl,_⟩|⟨P,p,rfl,h2,h3,_⟩:=Hor.o
      .injection h1 with h1
       exact h1.symm
      .rw[map_append,map_singleton,xe,if_neg (by have:=of_decide_eq_true h2.symm;show¬aI p.keys f.keys=0;omega)]at h1;injection h1 with h1
       rw[<-h1]
       simp)
     obtain⟨a0,a1,a2,a3,a4,a5,a6,a7,a8,a9,a10⟩:=aa.dk HBx;have Hownr:=kp (show wc.ownsRow _ _ _ (.slice _ m _) m _ from by have:=Hownx.1;rw[hm.out]at this;omega)
     go_wp2_with(at_builtin;refine je rfl _ _ _ rfl _ 89 _ _ _ _ Tryz.underlying34 ti0 tz0 tz1 o_ rfl d_ _ (bC f) rfl (kV _) (.slice _ m _) m _ rfl Hownr rfl o_ d_ Hw.o.size ?_;intro v5 w5 hown5 happ5;obtain⟨A5,c5,h5⟩:=cI hown5;subst h5;have Hown5:=kp hown5;have Happ5:=kp happ5;have Hb5:=kp (happ5.ew Hw Hownr o_ Hw.o.size);clear hown5 happ5)
     refine⟨⟨k+1,_,out++[f],_,_,o_,o_,o_,o_,kp (by rw[aE,hm.out];rfl),kp (by rw[<-Ho];exact Hfo2),kp (λx hx=> ?_),kp ⟨?_,λx hx=> ?_⟩,Hb5⟩,o_⟩
     .obtain hx|hx:=mem_append.1 hx
      .exact HoF x hx
      .rw[mem_singleton.1 hx];trivial
     .rw[aE,hm.out,flatMap_append];trivial
     .obtain hx|hx:=mem_append.1 hx
      .exact(Hownx.2 x hx).app Happ5
      .rw[mem_singleton.1 hx];exact Hapx.o.app Happ5
    |false=>
     obtain⟨P,p,rfl,h2,h3,hpk⟩:=Hor.o.resolve_left (λh=>by cases h.2);have hV:aI p.keys f.keys=0:=by have:=of_decide_eq_false h2.symm;omega
     obtain⟨q,hq⟩:∃q,P.length=q:=⟨_,rfl⟩
     have hmq:m=q+1:=by rw[<-hm.out,<-hq];simp
     subst hmq;have h1:=Hst.o;rw[map_append,map_singleton,xe,if_pos (show aI (pl p).1 (pl f).1=0 from hV)]at h1;obtain⟨j,hj,ho⟩:=Option.map_eq_some_iff.1 h1;have hp0:=HoF p s_;obtain⟨hsf,hjc⟩:=K7 hj hp0.1.2 Hff.2;have hjf:=rq hp0.1.1 Hff.1 hj;have HJ:=kp (λW=>Oa _ _ W hp0.1.1 Hff.1 hsf);rw[show(aR _ _).getD _=j by rw[show aR p.ag f.ag=some j from hj];rfl]at HJ
     have Ho:=kp (show dT ((P++[(⟨f.A,f.keys,f.c,j⟩:Fa)]).map pl) ((l.drop (k+1)).map pl)=some r from by
      have:=Hfo2.o;rw[<-ho]at this;rw[map_append,map_singleton];rw[show pl (⟨f.A,f.keys,f.c,j⟩:Fa)=(p.keys,j) by unfold pl;rw[nW hV]]
      exact this)
     have Hjj:=kp (show cB j/\0<j.c from⟨hjf,by have h6:=Hff.2;have h7:j.c=p.ag.c+f.ag.c:=hjc;omega⟩);have Hwx:=Hownx.o;obtain⟨g,rfl,hBg,hgd⟩:=Hwx.addr s_;have Hmid:=bj.fw (w:=wc.drew) Hwx;rw[hq]at Hmid;have HF:=aa.dk (show aa wc.drew _ _ _ from HBx);have hFd:=HBx.o.lt;have Hq:=kp hq;have Hwxl:=kp Hwx;clear h1 hj ho hp0 hsf hjc hjf h2 h3 hpk hV hq hm Hwx Hst Hor;have hwq:IntKind.i64.wrap _=q:=IntWalk.i64_in _ o_;have hq0:0<=(q:Int):=o_
     have hq1:q<(q:Int)+1:=o_
     obtain⟨jc,u0,l0,z0,u1,l1,z1,u2,l2,z2⟩:=j;dsimp only[aA]at HJ;go_upto_region 8 with fail
     go_cut [8,9]from 42 to 53 (λv8 v9 wx=>∃g8:Nat,v8 = .pointer (some ⟨g8,0,none⟩)/\v9 = .bool true/\Kp (aa wx g8 78 #[.int .i64 jc,.int .i64 u0,.int .i64 l0,.int .i64 z0,.int .i64 u1,.int .i64 l1,.int .i64 z1,.int .i64 u2,.int .i64 l2,.int .i64 z2])/\Kp (Below wc.heap.size wc wx))
     case first=>
      have Hwd:=kp (show Below wc.heap.size wc _ from bR.drew);refine wp_region_noPanic ?_;refine br (t:=99) (S:=(λw'=>(w'.cell? _=some (.int _ _)/\w'.cell? _=some (.int _ _)/\w'.cell? _=some (.int _ _)/\w'.cell? _=some (.int _ _)/\w'.cell? _=some (.int _ _)/\w'.cell? _=some (.int _ _)/\w'.cell? _=some (.int _ _)/\w'.cell? _=some (.int _ _)/\w'.cell? _=some (.int _ _)/\w'.cell? _=some (.int _ _))/\(w'.cell? _=some (.int _ _)/\w'.cell? _=some (.int _ _)/\w'.cell? _=some (.int _ _)/\w'.cell? _=some (.int _ _)/\w'.cell? _=some (.int _ _)/\w'.cell? _=some (.int _ _)/\w'.cell? _=some (.int _ _)/\w'.cell? _=some (.int _ _)/\w'.cell? _=some (.int _ _)/\w'.cell? _=some (.int _ _)))) k_ ⟨Hmid.2,HF.2⟩ (λhHeld=> ?_);generalize wc.drew=wd at*;have hgd1:=bh hgd Hwd.o.size;have hFd1:=bh o_ Hwd.o.size;refine tD 0 1 2 3 hHeld ?_;refine tD 4 5 6 7 hHeld ?_;refine pk (yq (j' (i:=8) (λK hK=> ?_)) (lQ (j' (i:=12) (λK hK=> ?_))))
      .go_simp
       refine(HJ _).mono ?_;rintro e w3⟨rfl,hb3⟩;have Hb3:=kp hb3;clear hb3;refine oK hK ?_ λhHeld2=>?_
       .exact⟨eh (Hb3.o.block g o_) hHeld.1,eh (Hb3.o.block _ o_) hHeld.2⟩
       replace hHeld:=hHeld2;clear hK K hHeld2;have hgd3:=bh hgd1 Hb3.o.size;have hFd3:=bh o_ Hb3.o.size;refine eR 9 10 11 hHeld ?_;refine oT 12 λK hK=>?_
       go_simp
       refine oK hK ?_ λhHeld2=>?_
       .exact⟨eh (Below.heap_alloc _ _ _ o_) hHeld.1,eh (Below.heap_alloc _ _ _ o_) hHeld.2⟩
       replace hHeld:=hHeld2;clear hK K hHeld2;refine oT 13 λK hK=>?_
       go_simp
       refine oK hK ?_ λhHeld2=>?_
       .exact⟨eh (Below.heap_alloc _ _ _ o_) (eh (Hb3.o.block g o_) Hmid.2),eh (Below.heap_alloc _ _ _ o_) (eh (Hb3.o.block _ o_) HF.2)⟩
       replace hHeld:=hHeld2;clear hK K hHeld2;refine tk 14 hHeld ?_;refine bQ k_ ?_ _
       try clear hHeld
       refine NoPanic.normal ?_;have HB8:=kp (aa.new w3 78 #[.int .i64 jc,.int .i64 u0,.int .i64 l0,.int .i64 z0,.int .i64 u1,.int .i64 l1,.int .i64 z1,.int .i64 u2,.int .i64 l2,.int .i64 z2]);have Hb4:=kp (Hwd.o.trans ((Hb3.o.trans ((bR.alloc o_ (.cells #[.int .i64 jc,.int .i64 u0,.int .i64 l0,.int .i64 z0,.int .i64 u1,.int .i64 l1,.int .i64 z1,.int .i64 u2,.int .i64 l2,.int .i64 z2] 78)).mono Hb3.o.size)).mono Hwd.o.size));go_wp2
       go_meet
       exact⟨_,rfl,rfl,HB8,Hb4⟩
      .go_simp
       refine oK hK ?_ λhHeld2=>?_
       .exact⟨eh (Below.heap_alloc _ _ _ o_) hHeld.1,eh (Below.heap_alloc _ _ _ o_) hHeld.2⟩
       replace hHeld:=hHeld2;clear hK K hHeld2;have HBa:=kp (aa.new wd 78 zA);have Hba:=kp ((ah _ wd).alloc (ae _) (.cells zA 78));have hge:g≠wd.heap.size:=o_
       have hFe:gF≠wd.heap.size:=o_
       generalize hWa:wd.alloc (.cells zA 78)=wa at*;generalize hg8:wd.heap.size=g8 at*;have hgda:=bh hgd1 (by have:=Hba.o.size;rw[hg8]at this;omega);have hFda:=bh hFd1 (by have:=Hba.o.size;rw[hg8]at this;omega);refine oT 8 λK hK=>?_
       go_simp
       refine(HJ _).mono ?_;rintro e w3⟨rfl,hb3⟩;have Hb3:=kp hb3;clear hb3;refine oK hK ?_ λhHeld2=>?_
       .exact⟨eh (Hb3.o.block g o_) hHeld.1,eh (Hb3.o.block _ o_) hHeld.2⟩
       replace hHeld:=hHeld2;clear hK K hHeld2;have HB3:=kp (HBa.o.under Hb3);have hx:=hHeld;obtain⟨yD,fD⟩:=aa.cr HB3;refine eR 9 10 11 hHeld ?_;refine oT 13 λK hK=>?_
       go_simp
       refine oK hK ?_ λhHeld2=>?_
       .exact⟨eh (uB o_) hx.1,eh (uB o_) hx.2⟩
       replace hHeld:=hHeld2;clear hK K hHeld2;refine tk 14 hHeld ?_;refine bQ k_ ?_ _
       try clear hHeld
       refine NoPanic.normal ?_;have HB8:=kp (dS HB3 [.int .i64 jc,.int .i64 u0,.int .i64 l0,.int .i64 z0,.int .i64 u1,.int .i64 l1,.int .i64 z1,.int .i64 u2,.int .i64 l2,.int .i64 z2] rfl);have Hb4:=kp (Hwd.o.trans ((fq (ae _) [.int .i64 jc,.int .i64 u0,.int .i64 l0,.int .i64 z0,.int .i64 u1,.int .i64 l1,.int .i64 z1,.int .i64 u2,.int .i64 l2,.int .i64 z2] _ 0 (Hba.o.trans (Hb3.o.mono (by rw[<-hg8];exact Hba.o.size)))).mono (by rw[<-hg8];exact Hwd.o.size)));simp only[aH,Nat.zero_add,Nat.reduceAdd]at HB8 Hb4;clear yD fD;go_wp2
       go_meet
       exact⟨_,rfl,rfl,HB8,Hb4⟩
     case rest=>
      obtain⟨g8,rfl,rfl,HB8,Hb8⟩:=hcut;obtain⟨wv,rfl⟩:∃wv,wv=wc:=⟨_,rfl⟩
      have Hw8:=kp (Hwxl.o.below Hb8);have HF8:=kp (HBx.o.under Hb8);have Hap8:=kp (Hapx.o.below Hb8);have Hbw:=kp (Hw.o.trans (Hb8.o.mono o_));have Hgo:=kp (bj.set (f:=⟨f.A,f.keys,f.c,⟨jc,u0,l0,z0,u1,l1,z1,u2,l2,z2⟩⟩) Hw8 ⟨Hap8.1,Hap8.2⟩);have Hbs:=kp (wG (o:=P.length*11) ⟨f.A,f.keys,f.c,⟨jc,u0,l0,z0,u1,l1,z1,u2,l2,z2⟩⟩ Hbw o_);rw[Hq]at Hgo Hbs;have pD:=bj.fw Hw8;rw[Hq]at pD;have xD:=Hw8.o.pL q;have jD:=(aa.cr HB8).1;obtain⟨a0,_⟩:=aa.dk HF8;clear HB8 Hb8 Hw8 HF8 Hap8 Hbw Hwxl Hownx Hapx HBx Hw Hmid HF HJ;go_wp2;refine⟨⟨_,_,_,_,_,o_,o_,rfl,o_,kp (by rw[aE,Hq];rfl),kp Ho,kp (λx hx=> ?_),kp Hgo,Hbs⟩,o_⟩;obtain hx|hx:=mem_append.1 hx
      .exact HoF x (mem_append_left _ hx)
      .rw[mem_singleton.1 hx];trivial
  .obtain rfl:k=n:=o_
   have hfin:=hfo.out;rw[drop_of_length_le (by rw[Hn];omega)]at hfin;injection hfin with hfin
   have Hfin:=kp (show Q (.returned (.tuple #[.slice _ m _,.bool _])) _ from by
    have:=HQ _ c' _ _ hfin (by have:=hown.out;rw[<-hm.out]at this;exact this.jW) Hbe;rw[hm.out]at this
    omega)
   clear hfin hfo hof hown;go_wp2;exact Hfin
end Tc
end Go.Proofs.YtibjlpkpljnicaaGreatDoor
