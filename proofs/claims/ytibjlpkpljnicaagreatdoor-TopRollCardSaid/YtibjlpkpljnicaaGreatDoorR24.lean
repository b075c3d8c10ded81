/- Parts. -/
import Derived.Test.YtibjlpkpljnicaaGreatDoorR23
set_option maxRecDepth 100000
set_option maxHeartbeats 8000000
set_option linter.all false
namespace Go.Proofs.YtibjlpkpljnicaaGreatDoor
namespace Tc
open List Go.RowKit Base Go.Maps Go.WideMaps Go.Proofs.Tryz
def oH(g:Gr):Nat×LN:=(g.key,g.part)
def uX(ps:List (Nat×LN))(w:World)(e:Ending)(w':World):Prop:=∃(A:OA)(c:Nat)(gs:List Gr),e = .returned (U A gs.length c)/\gs.map oH=ps/\w'.ownsRow w.heap.size 255 2 (U A gs.length c) gs.length (gs.flatMap dx)/\(∀g∈gs,Row w' w'.heap.size g.A (an g.part)/\eB w.heap.size g.A (an g.part))/\E w w'
structure qH(w:World)(Af:OA)(fs:List Fa)(Al:OA)(rs:List Rn)(at_ cU:Nat)(r:Rn)(lf:Fa)(part:LN)(key:Nat->Nat):Prop where
 facts:bM w w.heap.size Af fs
 aL:jr w w.heap.size Al rs
 aj:rs[at_]? = some r
 cU:r.fs[cU]? = some lf
 key:∀i∈part,∃f q z,fs[i]? = some f/\f.keys[at_]? = some q/\lf.keys[q]? = some z/\key i=z/\z<200
 nf:fs.length<=1000000
 nr:rs.length<=1000000
 nt:r.fs.length<=1000000
 nl:lf.keys.length<=1000000
 nk:∀f∈fs,f.keys.length<=1000000
def qH.below{w w' Af Al fs rs at_ cU r c part key}(h:qH w Af fs Al rs at_ cU r c part key)(b:E w w'):qH w' Af fs Al rs at_ cU r c part key:=
 ⟨(h.facts.below b).more b.size,(h.aL.below b).more b.size,h.aj,h.cU,h.key,h.nf,h.nr,h.nt,h.nl,h.nk⟩
structure kM(w0:World)(base:Nat)(D:DataW Unit)(left:Lit->Bool)(key:Nat->Nat)(part:LN)(gs:List Gr):Prop where
 nodup:(gs.map Gr.key).Nodup
 mem:∀x:Int,(∃g∈gs,(g.key:Int)=x)↔Maps.has D (.int .i64 x)=true/\left (.int .i64 x)=false
 each:∀g∈gs,g.key<200/\g.part=gi key part g.key/\g.part≠[]/\w0.ownsRow base 3 1 (U g.A g.part.length g.c) g.part.length (an g.part)
def kM.start b base D key part:kM b base D (Maps.has D) key part []:=
 ⟨nodup_nil,λx=>o_,λg c=>r_⟩
def kM.step{w0 base D}{left:Lit->Bool}{key part gs}(h:kM w0 base D left key part gs){g}(hhas:Maps.has D (.int .i64 (g.key:Int))=true)(hleft:left (.int .i64 (g.key:Int))=true)(hg:g.key<200/\g.part=gi key part g.key/\g.part≠[]/\w0.ownsRow base 3 1 (U g.A g.part.length g.c) g.part.length (an g.part)) :
 kM w0 base D (λz=>left z && !z.sameKey (.int .i64 (g.key:Int))) key part (gs++[g]):=by
 refine⟨?_,λx=> ?_,λx hx=> ?_⟩
 .rw[map_append,nodup_append];refine⟨h.nodup,s_,?_⟩;intro a ha b hb;obtain⟨g',hg',rfl⟩:=mem_map.1 ha;obtain rfl:b=g.key:=r_
  intro e;have:=((h.mem _).1 ⟨_,hg',rfl⟩).2;grind
 .by_cases e:(g.key:Int)=x
  .subst e;constructor
   .intro _;exact⟨hhas,by simp[Lit.sameKey]⟩
   simp
  .have hs:(Lit.int .i64 x).sameKey (.int .i64 g.key)=false:=sameKey_ne (λhh=>e r_);rw[hs,Bool.not_false,Bool.and_true,<-h.mem];grind
 .obtain hx|hx:=mem_append.1 hx
  .exact h.each x hx
  grind
def kM.len{b base D}{left:Lit->Bool}{key part gs}(h:kM b base D left key part gs):gs.length<=200:=by
 have d:(gs.map Gr.key).Perm ((range 200).filter λk=>decide (k∈gs.map Gr.key)):=by
  refine(perm_ext_iff_of_nodup h.nodup (List.Pairwise.filter _ nodup_range)).2 λk=> ?_;rw[mem_filter,mem_range,decide_eq_true_eq];constructor
  .intro hk;obtain⟨g,c,rfl⟩:=mem_map.1 hk;exact⟨(h.each g c).1,hk⟩
  .simp
 have h1:=d.length_eq;grind
def kM.all{m base D}{left:Lit->Bool}{key part gs}(h:kM m base D left key part gs)(f:ki D key part)(q:∀kl,left kl=false) :
 ∀p:Nat×LN,p∈gs.map oH↔p.1<200/\p.2=gi key part p.1/\p.2≠[]:=by
 intro p;constructor
 .intro r;obtain⟨g,c,rfl⟩:=mem_map.1 r;obtain⟨h1,h2,d,_⟩:=h.each g c;trivial
 .rintro⟨h1,h2,d⟩;have b:Maps.has D (.int .i64 (p.1))=true:=by
   rw[f.has,El,<-h2];simp[d]
  obtain⟨g,c,e⟩:=(h.mem _).2 ⟨b,q _⟩;have n:g.key=p.1:=o_;refine mem_map.2 ⟨g,c,?_⟩;unfold oH;rw[(h.each g c).2.1,n,<-h2]
def GP{D key part}(u:ki D key part)(q:∀i∈part,key i<200){B base x A l c y}(C:rowElem (H:=Unit) B base 3 .i64 (.slice A l c)=some y)(m:∀zd,D.atKey (.int .i64 x) zd=y.1) :
 ∃g:Gr,(g.key:Int)=x/\g.A=A/\g.part.length=l/\g.c=c/\Maps.has D (.int .i64 (g.key:Int))=true/\(g.key<200/\g.part=gi key part g.key/\g.part≠[]/\B.ownsRow base 3 1 (.slice g.A g.part.length g.c) g.part.length (an g.part)):=by
 obtain⟨zs,p,rfl⟩:=rowElem_inv C;have f:=u.owned p (m _);have b:=has_true_of_atKey m;have d:kI key part x≠[]:=by
  intro h0;rw[u.has,h0]at b;cases b
 obtain⟨z,v⟩:=exists_mem_of_ne_nil _ d;unfold kI at v;obtain⟨i,hi,_⟩:=mem_map.1 v;obtain⟨s,r⟩:=mem_filter.1 hi;have hx:(key i)=x:=r_
 subst hx;rw[El]at f d;obtain⟨F,L,e⟩:=bY p.1;injection e with G E J;have n:(gi key part (key i)).length=l:=r_
 refine⟨⟨_,A,gi _ _ _,c⟩,rfl,rfl,n,rfl,b,q i s,rfl,λh0=>d o_,?_⟩;have h1:=p.1;rw[f,Lj,lM]at h1;grind
def Jr gb Af Al Ap fs cf cl cp rs po pm pe at_ cU r lf part key w(hbox:aa w gb 143 #[U Af fs.length cf,U Al rs.length cl,po,pm,pe])(hk:qH w Af fs Al rs at_ cU r lf part key)(hp:Row w w.heap.size Ap (an part))(hne:part≠[])(hn:part.length<=1000000) :
 Calls prog 146 #[Y gb 0,N at_,N cU,U Ap part.length cp] w (uX (dh key part) w):=by
 have hmm:=@run_makeMap prog;obtain⟨i0,ti0,tz0,tz1,tz2⟩:=info_parts iK;obtain⟨j0,si0,sz0,sz1,sz2⟩:=info_parts JL;have HQ:Kp (∀A c(gs:List _) w',gs.map _=dh key part->w'.ownsRow w.heap.size 255 2 (U A gs.length c) gs.length (gs.flatMap dx)->(∀g∈gs,Row _ _ _ _/\eB _ _ _)->E w _->uX _ w _ w'):=λA c gs w' h1 h2 h3 h4=>⟨A,c,_,rfl,h1,h2,h3,h4⟩;generalize hQ:uX _ w=Q at*;clear hQ;have Hk:=J hk;have Hp:=J hp;have Hbox:=J hbox;obtain⟨bl,ol,hA,hbl,l0⟩:=Row.at_ hk.aL.row (by rw[lM];exact(aO hk.aj).1);subst hA;rw[getElem_map,(aO hk.aj).2]at l0;have hrm:=hk.aL.each r (mem_of_getElem? hk.aj);obtain⟨bt,ot,hA,hbt,t0⟩:=Row.at_ hrm.row (by rw[lM];exact(aO hk.cU).1);rw[getElem_map,(aO hk.cU).2]at t0;have Hlf:=J (hrm.each _ (mem_of_getElem? hk.cU));have hat:=(aO hk.aj).1;have htr:=(aO hk.cU).1;unfold fy at l0;unfold fL at t0;rw[hA]at l0;clear hrm hA hk hp hbox;obtain⟨nl,hnl⟩:=e_ lf.keys.length
 have Hnl:=J o_;rw[hnl]at t0;obtain⟨n,hN⟩:=e_ part.length
 have Hn:=J hN;rw[hN]at hn⊢;clear hN hnl;obtain⟨x0,x1,x2,x3,x4⟩:C w _ 0 (U _ _ _)/\C w _ 1 (U _ _ _)/\True/\True/\True:=⟨Hbox.cell 0,Hbox.cell 1,trivial,trivial,trivial⟩
 have a0:0<=(at_:Int):=o_
 have a1:at_<(rs.length:Int):=o_
 have a2:0<=(cU:Int):=o_
 have a3:cU<(r.fs.length:Int):=o_
 go_in;go_wp2;clear x0 x1 l0 t0
 go_loopw [30] (λv30 wr=>∃(k:Nat)(D:DataW Unit),k<=n/\v30 = I k/\wr.ownsGroups prog 3 (w.heap.size+1) 3 .i64 w.heap.size k D/\ki D key (part.take k)/\E w wr/\w.heap.size+1<=wr.heap.size) (λv30 _=>n-(intOf v30).toNat)
 case atStart=>exact⟨0,_,o_,rfl,World.ownsGroups_made _ _ _ _ _,ki.nil _,bR.alloc o_ _,s_⟩
 .obtain⟨k,D,hk,rfl,hown,hatg,hbe,hws⟩:=hrel;have Hatg:=J hatg;have Hbe:=J hbe;clear hatg hbe;by_cases hlt:k<n
  .have hkl:k<part.length:=by rw[Hn];omega
   obtain⟨bp,op,hA,hbp,p0⟩:=Row.at_ ((Hp.below Hbe).more Hbe.size) (by rw[ia];omega);subst hA;unfold an at p0;rw[getElem_map]at p0;have Hnx:Kp (part.take _=part.take k++[part[k]'hkl]):=take_succ_eq_append_getElem o_;obtain⟨f,q,z,hf,hq,hz,hkz,hz2⟩:=Hk.key _ (gM hkl);generalize(part[k]'hkl)=i at*;have hk':=Hk.below Hbe;have hif:=(aO hf).1;have hqf:=(aO hq).1;have hzf:=(aO hz).1;obtain⟨bf,of,hA,hbf,f0,_⟩:=hk'.facts.cells i hif;rw[(aO hf).2]at f0;have hfk:=hk'.facts.keys f (mem_of_getElem? hf);obtain⟨bq,oq,hAq,hbq,q0⟩:=Row.at_ hfk (by rw[ia];omega);unfold an at q0;rw[getElem_map,(aO hq).2]at q0;obtain⟨bz,oz,hAz,hbz,z0⟩:=Row.at_ ((Hlf.below Hbe).more Hbe.size) (by rw[ia];omega);unfold an at z0;rw[getElem_map,(aO hz).2]at z0;rw[hAq]at f0;rw[hAz];have y0:=(Hbox.under Hbe).cell 0;change C _ _ 0 (U _ _ _)at y0;rw[hA]at y0;have hnf:=hk'.nf;have hnl2:nl<=1000000:=by rw[<-Hnl];exact hk'.nl
   rw[Hnl]at hzf;clear hk' hfk hf hq hz hAq hAz hA;have Hkz:=J hkz;clear hkz;have b0:0<=(k:Int):=o_
   have b1:k<(n:Int):=o_
   have b2:0<=(i:Int):=o_
   have b3:i<(fs.length:Int):=o_
   have b4:at_<(f.keys.length:Int):=o_
   have b5:0<=(q:Int):=o_
   have b6:q<(nl:Int):=o_
   have Hkey:=J (keyOf_int_mk underlying3 (show(Lit.int _ z).wf=true from WalkArith.wf_i64 o_));have Hkm:=J (show k<maxLen by unfold maxLen;omega);have Hwi:Kp ((Lit.int _ i).wf=true):=WalkArith.wf_i64 o_;go_upto_region 7 with fail
   go_wp2_with(first
    |(at_lookup;refine wpList_lookup_groups _ rfl _ _ 328 rfl 3 _ 3 _ lL Tryz.underlying328 (RC _) _ _ k D rfl hown Hkm (.int _ _) _ rfl Hkey ?_;intro v zs hat1 hoi hzl hback)
    |(at_builtin;refine wpList_append_own_at _ rfl _ _ _ rfl _ 3 _ _ 1 8 Tryz.underlying84 ti0 tz0 o_ o_ rfl d_ v _ _ rfl (hoi.1.alloc _) _ 1 1 [.int _ _] rfl rfl (cell_one_new _ _ _) (ints_oneCell _ [i]) (by unfold maxLen;omega) o_ o_ ?_;intro v' w1 hown' hgrow hnil hloc)
    |(at_mapUpdate;refine wpList_mapUpdate_back _ rfl _ _ (.tmp 55) _ rfl hback rfl rfl rfl ((World.grownBy_alloc _ _ _).trans hgrow) (hoi.appended hown' Hwi) o_ (hloc.imp id (λh=>⟨_,h,s_⟩)) ?_;intro w2 hown2 hgrow2))
   have hzs:=Hatg.o.owned hoi hat1;have hap:=hoi.appended hown' Hwi;have hall:=(World.grownBy_alloc _ _ _).trans hgrow;refine⟨⟨_,D.put _ (rowDatum _ v' _),o_,o_,hown2,?_,Hbe.o.groups hoi hall hgrow2 o_ o_ o_,aF o_ (aF hall.size hgrow2.size)⟩,o_⟩;have hput:=Hatg.put i;rw[Hkz,<-hzs,Jh hap s_]at hput;rw[Hnx];omega
  .obtain rfl:k=n:=o_
   have Hatf:=J (by have:=Hatg.o;rw[take_of_length_le (by rw[Hn];omega)]at this;omega);obtain⟨es,cl0,g1,g2,g3,g4,g5,g6,g7⟩:=hown;have hownM:wr.ownsMap _ 3 _ _ k D:=⟨_,_,g1,g2,g3,g4⟩
   have Hcap:Kp (∀v zs,rowElem (H:=Unit) wr (w.heap.size+1) 3 .i64 v=some (rowDatum .i64 v zs,rowPlaces v)->True):=λ_ _ _=>trivial;clear g1 g2 g3 g4 g5 g6 g7
   go_wp2_with(at_range;apply wpList_range_own _ rfl _ _ rfl 3 _ lL underlying328 _ _ k D rfl hownM;intro w0 hrg0 hg0 hs0)
   go_frame
   have Hbe0:Kp (E _ _):=bR.grown hg0 o_ (λj hj=>r_);have Hr0:=J (show wr.heap.size<w0.heap.size by omega);obtain⟨WR,rfl⟩:∃WR,WR=wr:=⟨_,rfl⟩
   have Hlt2:Kp (∀i∈part,key i<200):=(λi hi=>by obtain⟨f,q,z,_,_,_,e1,e2⟩:=Hk.key i hi;omega);have Hws:=J hws;clear hownM hg0 hs0 Hcap hws
   go_loopw [14] (λv14 w5=>∃(left:Lit->Bool)(cnt:Nat)(gs:List Gr)(A:OA)(c:Nat),v14 = U A gs.length c/\w5.ranges prog 3 (rowElem (H:=Unit) WR (w.heap.size+1) 3 .i64) w.heap.size WR.heap.size k D left cnt/\w5.ownsRow (WR.heap.size+1) 255 2 (U A gs.length c) gs.length (gs.flatMap dx)/\kM WR (w.heap.size+1) D left key part gs/\E WR w5/\WR.heap.size<w5.heap.size) (λ_ w5=>w5.rangeLeft w.heap.size WR.heap.size)
   case atStart=>exact⟨_,_,_,_,0,rfl,hrg0,cK _ _ _ _,kM.start _ _ _ _ _,Hbe0,Hr0⟩
   .obtain⟨left,cnt,gs,A,c,rfl,hrg,hgo,hcol,hb5,hr5⟩:=hrel;have Hgo:=J hgo;have Hcol:=J hcol;have Hb5:=J hb5;have Hr5:=J hr5;clear hgo hcol hb5 hr5;have hm2:=Hcol.len;obtain⟨m,hm⟩:=e_ gs.length
    have Hm:=J hm;rw[hm]at Hgo hm2⊢;clear hm
    go_wp2_with(at_next;refine wpList_next_ranges _ rfl _ rfl 3 lL _ (Value.int .i64) (λp:OA×Nat×Nat=>Value.slice p.1 p.2.1 p.2.2) (λkey kl hk=>by obtain⟨x,hx,_⟩:=Maps.keyOf_int_inv underlying3 hk;grind) (λv y hv=>by obtain⟨zs,ho,_⟩:=rowElem_inv hv;obtain⟨A',c',e⟩:=bY ho.1;exact⟨(A',zs.length,c'),e⟩) _ _ k D _ _ rfl hrg ?_ ?_)
    .intro hc0 hl0;have Hall:=J (Hcol.all Hatf hl0);have Hnd:=J (show((gs.map oH).map Prod.fst).Nodup by rw[map_map];exact Hcol.nodup);have hm0:m≠0:=by
      intro h0;have h1:=length_eq_zero_iff.1 (Hm.trans h0);obtain⟨i,hi⟩:=exists_mem_of_ne_nil _ o_;have h2:gi key part (key i)≠[]:=by
       intro h2;have:i∈gi key _ (key i):=mem_filter.2 ⟨hi,s_⟩;rw[h2]at this;cases this
      have:=(Hall (key i,gi _ _ _)).2 ⟨Hlt2 i hi,rfl,h2⟩;rw[h1]at this;cases this
     obtain⟨g,hgA,hgB⟩:∃g,A=some ⟨g,0,none⟩/\WR.heap.size+1<=g:=by
      obtain⟨_,h0⟩|⟨g,cap,cur,hv,hB,_⟩:=Hgo.2
      .omega
      grind
     subst hgA;have HS:=J (Q3 g c _ _ _ (by rw[Hm];omega) (by rw[Hm];exact Hgo));rw[Hm]at HS
     have HF:Kp (∀(gs':List _) w',gs'.Perm _->gs'.Pairwise (λa b=>a.key<=b.key)->w'.ownsRow (WR.heap.size+1) 255 2 (U (some ⟨g,0,none⟩) m c) m (gs'.flatMap dx)->aq (λk=>k=g) _ _->Q _ w'):=(λgs' w' hp hs ho ht=>by
      have hl:gs'.length=m:=by rw[hp.length_eq];exact Hm
      have hbw:=ht.toBelow (λk hk=>o_) (Nat.le_of_lt Hr5);have h3:∀g∈gs',Row _ _ _ _/\eB w.heap.size _ _:=λx hx=>by
       have h4:=(Hcol.each x (hp.mem_iff.1 hx)).2.2.2;refine⟨((dF h4).below (Hb5.trans hbw)).more (aF Hb5.size ht.size),eB.own h4 o_⟩
      have:=HQ _ c _ _ (Js ((hp.map _).map _ |>.nodup_iff.2 Hnd) (pairwise_map.2 hs) (λp=>((hp.map _).mem_iff).trans (Hall p))) (by rw[hl];exact dZ ho (by have:=Hbe.size;omega)) h3 ((Hbe.trans (Hb5.mono Hbe.size)).trans (hbw.mono Hbe.size));rw[hl]at this
      omega)
     clear hrg;go_wp2_with fail;apply HS.mono;rintro e w9⟨rfl,gs',hp,hs,ho,ht⟩;have Hfin:=J (HF _ _ hp hs (by rw[Hm]at ho;omega) ht);clear hp hs ho ht;go_wp2;exact Hfin
    .intro x pA pl pc kl yd yp w6 cnt6 hkey hlk hR hat hrg6 hlt6 hg6 hs6 hen;obtain⟨x',hx',hkl,hwx⟩:=Maps.keyOf_int_inv underlying3 hkey;injection hx' with _ hx'
     subst hx' hkl;obtain⟨g,rfl,rfl,rfl,rfl,hhas,hgg⟩:=GP Hatf Hlt2 hR hat;have Hcol6:=J (Hcol.step hhas hlk hgg);have Hb6:Kp (E _ _):=Hb5.grown hg6 Hb5.size (λj hj=>by cases hj;omega)
     have Hgo6:Kp (w6.ownsRow _ _ 2 _ m _):=Hgo.kept hg6 (by
      rcases ho:(Value.slice A m c).ownBlock with _|j
      .simp
      .refine .inr λe=> ?_
       have h1:=(Hgo.lt j ho).1;injection e with e
       omega)
     have Hr6:=J (show WR.heap.size+1<=w6.heap.size by rw[hs6];exact Hr5);have Hleft:=J hrg.left_eq;have Hlt6:=J hlt6;have Hrg6:=J hrg6;have hk1:m+1<1048576*64:=o_
     clear hkey hlk hR hat hhas hgg hrg hrg6 hlt6 hg6 hs6 hwx
     go_wp2_with(at_builtin;apply je rfl _ _ _ rfl _ 255 _ _ 2 _ underlying252 si0 sz0 o_ o_ rfl d_ _ _ rfl (Jp g) (U A m c) m _ rfl Hgo6 rfl o_ d_ Hr6;intro v7 w7 hown7 happ7;obtain⟨A7,c7,h7⟩:=cI hown7;subst h7;have Hown7:=J hown7;have Hap7:=J happ7;clear hown7 happ7)
     have hno:∀j,j<=WR.heap.size->some j≠(Value.slice A m c).ownBlock:=λj hj e=>by
      have:=(Hgo6.lt j e.symm).1;omega
     have hrg7:=Hrg6.kept Hap7.grown (hno _ (by have:=Hws.o;omega)) (hno _ o_);have hl:(gs++[g]).length=m+1:=by rw[aE,Hm];rfl
     refine⟨⟨_,_,_,A7,c7,r_,hrg7,?_,Hcol6,?_,?_⟩,?_⟩
     .rw[hl,flatMap_append];exact Hown7
     .exact Hb6.grown Hap7.grown Hb6.size (λj hj=>r_)
     .have h1:=Hap7.grown.size;have h2:=Hr6.o;omega
     .rw[hrg7.left_eq,Hleft];exact Hlt6
end Tc
namespace Tc
open List Go.RowKit Base Go.Proofs.Tryz
def QR{p a b}(h:aq p a b){q}(d:a.heap.size<=q.block) v:aq p a (b.setCell q v):=
 have k:=bR.setCell o_ v;⟨k.os.trans h.os,k.tape.trans h.tape,k.output.trans h.output,aF h.size o_,λi hi c=>(Below.heap_setCell b q v i o_).trans (h.block i hi c)⟩
def l9{p a g}(d:a.heap.size<=g):∀(c:LV)(b:World)(o:Nat),aq p a b->aq p a (aH b g o c)
 | [],_,_,h=>h
 |v::c,b,o,h=>l9 d c _ _ (QR h (q:=(M g o)) d v)
def s9{p a b c v d}(h:aq p a b)(k:App b c v d)(g:∀j,v.ownBlock=some j->a.heap.size<=j):aq p a c:=
 ⟨k.grown.os.trans h.os,k.grown.tape.trans h.tape,k.grown.output.trans h.output,aF h.size k.grown.size,λi hi f=>(k.bI (bh hi h.size) (λe=>r_)).trans (h.block i hi f)⟩
def rr{F g}(c:¬F g):∀(b:LV)(w:World)(o:Nat),Kept F w (aH w g o b)
 | [],_,_=>⟨ae _,λ_ _ _=>rfl⟩
 |v::b,w,o=>(Kept.set w (M g o) v c).trans (rr c b _ _)
def Bc.Ro.ax{b:Bc}{w w' F}(h:b.Ro w)(ht:aq F w w')(f:b.B<=w.heap.size)(e:∀k,F k->b.B<=k\/b.own k):b.Ro w':=
 h.same λk hk c=>ht.block k o_ (λd=>(e k d).elim (λh1=>o_) (λh1=>c h1))
def lO{F w b c w'}(h1:w.heap.size<=b.heap.size)(h2:c.heap.size<=w'.heap.size){k}(h:more F b c k):more F w w' k:=by
 obtain h|⟨e,d⟩:=h
 .exact .inl h
 .exact .inr ⟨o_,o_⟩
structure kk(b:Bc)(F:Nat->Prop)(w w':World)(An':OA)(cn':Nat)(nds':List Nd)(st':St)(err':Nat):Prop where
 dy:b.Dy w' (more F w w') An' cn' nds' st' err'
 ax:aq F w w'
def sA(b:Bc)(f:Rec)(F:Nat->Prop)(err:Nat)(st:St)(part:LN)(w:World)(e:Ending)(w':World):Prop:=
 ∃(i:Nat)(n:OA)(m:Nat)(d:List Nd)(g:St)(c:Nat),e = .returned (N i)/\kk b F w w' n m d g c /\
  (err=0->∀r,f part st=some r->c=0/\g=r.1/\i=r.2)/\(err=0->f part st=none->c=7)/\(err=7->c=7)/\(c=0\/c=7)
def oQ(b:Bc)(f:Option Rec)(F:Nat->Prop)(err key:Nat)(st:St)(part:LN)(w:World)(e:Ending)(w':World):Prop:=
 ∃(c:Cl)(p:OA)(n:Nat)(g:List Nd)(m:St)(d:Nat),e = .returned (.agg (bH c))/\kk b F w w' p n g m d /\
  (err=0->∀r,fK b.ps f key part st=some r->d=0/\m=r.1/\c=r.2)/\(err=0->fK b.ps f key part st=none->d=7)/\(err=7->d=7)/\(d=0\/d=7)
structure Start(b:Bc)(F:Nat->Prop)(An:OA)(cn:Nat)(nds:List Nd)(st:St)(err:Nat)(Ap:OA)(part:LN)(w:World):Prop where
 ro:b.Ro w
 dy:b.Dy w F An cn nds st err
 row:Row w w.heap.size Ap (an part)
 off:∀k,cE Ap (an part) k->¬F k
 pt:fI b.ps part
 er:err=0\/err=7
 dK:err=0->Good b.ps b.aL b.X.length st
def Start.below{b F e f c st err Ap part w w'}(h:Start b F e f c st err Ap part w)(d:E w w'):Start b F e f c st err Ap part w':=
 ⟨h.ro.same (λk hk _=>d.block k (by have:=h.dy.line;omega)),h.dy.keep (Kept.below d),(h.row.below d).more d.size,h.off,h.pt,h.er,h.dK⟩
def vu(b:Bc)(at_:Nat)(f:Rec):Prop:=∀F g e c st err Ap d part w,Start b F g e c st err Ap part w ->
 Calls prog 65 #[Y b.gb 0,N at_,U Ap part.length d] w (sA b f F err st part w)
def uK(b:Bc)(at_:Nat)(f:Option Rec):Prop:=∀F g e c st err Ap d key part w,Start b F g e c st err Ap part w ->
 Calls prog 147 #[Y b.gb 0,N at_,N key,U Ap part.length d] w (oQ b f F err key st part w)
def Dk{b:Bc}(c:b.Ok){part}(h:fI b.ps part):part.length<=1000:=by
 have:=ov _ _ h.nd (λi hi=>mem_range.2 (h.lt i hi));rw[length_range]at this;have:=c.cfg.rF;omega
def xf{b:Bc}:b.ps.length=b.fs.length:=by unfold Bc.ps aw;rw[lM]
def uo{b:Bc}(c:b.Ok):b.rs.length=b.X.length:=by
 have:=c.cfg.len;unfold Bc.aL at this;grind
def I1 b(A:b.Ok) at_(W:at_+1=b.X.length):uK b at_ none:=by
 intro F R V s st err Ap z key part w q;have HQ:Kp (∀(c:Cl) w',kk b F w _ R V s _ _->c=⟨key,0,(nJ b.ps part).getD az⟩->oQ b none F _ key st part w _ w'):=λc w' h1 h2=>
  ⟨c,R,V,s,st,_,rfl,h1,λh r g=>by unfold fK at g;grind,λh g=>by(unfold fK at g;cases g),λh=>h,q.er⟩
 obtain⟨r,g,T⟩:=A.cfg.yT _ q.pt;have O:=Dk A q.pt;have y:b.fs.length<=1000:=by have:=A.cfg.rF;rw[xf]at this;omega
 have p:=q.pt.lt;rw[xf]at p;have HS:=J (λw h1 h2 u=>Qj b.gb b.Af Ap _ b.cf z (U b.Al b.rs.length b.cl) (Y b.ga 0) (.map (some b.gm)) (N err) _ w h1 h2 u o_ o_ p A.fit r g);have x:=(ah _ w).alloc (ae _) (.cells zC 155);obtain⟨HB,H,d,f⟩:=j4_ (aa.new w 155 zC) q (q.below x) x;have z:=uo A;have Hr:=J g;have D:=A.cfg.n16;clear q x g;generalize u:oQ b _ F _ _ _ _ w=Q at*;clear u;generalize L:w.alloc _=u at*;obtain⟨x0,x1,E⟩:C u _ 0 (U _ _ _)/\C u _ 1 (U _ _ _)/\True:=⟨d.dy.fm.cell 0,d.dy.fm.cell 1,trivial⟩;have B:=J (HS u d.dy.fm ((d.ro.facts.more d.dy.line)) d.row);have u:(at_ == (b.rs.length:Int)-1)=true:=o_;have u:IntKind.i64.wrap _=b.rs.length-1:=IntWalk.i64_in _ o_;generalize b.rs.length=u at*;clear z D O y p T A W;go_in;go_wp2_with fail;apply B.mono;rintro e D⟨rfl,z⟩;have u:=bu HB z;have y:=J z;clear z x0 x1 E L B;obtain⟨z,z⟩:=aa.gu u;obtain⟨I,m⟩:=e_ (aH D w.heap.size 0 [.int .i64 key,.int .i64 0,.int .i64 r.c,.int .i64 r.s0,.int .i64 r.n0,.int .i64 r.x0,.int .i64 r.s1,.int .i64 r.n1,.int .i64 r.x1,.int .i64 r.s2,.int .i64 r.n2,.int .i64 r.x2]);have G:=J (show aa I _ _ (bH ⟨_,0,r⟩) by rw[<-m];exact dS u _ rfl);have n:=J (show kk b F w I R V s _ _ by
  have M:¬F w.heap.size:=λh=>by have:=H.dy.fY _ h;omega
  have hk:Kept F w I:=by rw[<-m];exact(Kept.below (f.trans (y.mono f.size))).trans (rr M _ _ _)
  have hd:=H.dy.keep hk;refine⟨hd.wide (λk h=> .inl h) (λk h=> ?_) (λk h=> ?_),?_⟩
  .obtain h|⟨h,_⟩:=h
   .exact hd.fF k h
   .exact .inl (aF H.dy.line h)
  .obtain h|⟨_,h⟩:=h
   .exact hd.fY k h
   . omega
  .rw[<-m];exact l9 o_ _ _ _ (aq.below (f.trans (y.mono f.size))))
 simp only[aH,Nat.zero_add,Nat.reduceAdd]at m;have E:=J (HQ ⟨_,0,r⟩ I n (by rw[Hr];rfl));obtain⟨O,z1,L,M,z,z5,V,z7,D,U,Z,a1⟩:=(aa.gu G).1;clear G n HQ Hr HB u H d f y HS;go_wp2;refine bodyPost_ret ?_ rfl E;simp[results,go_sem,O,z1,L,M,z,z5,V,z7,D,U,Z,a1]
def kk.set{b:Bc}{F:Nat->Prop}{w d c:World}{p:OA}{n:Nat}{e:List Nd}{st:St}{err:Nat}(h:kk b F d c p n e st err)(q:E w d)(v:b.B<=w.heap.size)(s:∀k,F k->k<w.heap.size){g:Nat}(r:w.heap.size<=g)(u:g<d.heap.size)(o:Nat)(m:LV):kk b F w (aH c g o m) p n e st err:=by
 have f:¬more F d c g:=λhk=>by
  obtain hk|⟨hk,_⟩:=hk
  .grind
  .omega
 have hk:Kept _ c (aH c g o m):=rr f _ _ _;have hd:=h.dy.keep hk;refine⟨hd.wide (λk h'=>lO o_ hk.size h') (λk h'=> ?_) (λk h'=> ?_),l9 r _ _ _ ((aq.below q).trans h.ax)⟩
 .obtain h'|⟨h',_⟩:=h'
  .exact hd.fF k (.inl h')
  omega
 .obtain h'|⟨_,h'⟩:=h'
  .exact hd.fY k (.inl h')
  .omega
def I0(b:Bc)(hb:b.Ok)(at_:Nat)(a2:at_+1<b.X.length)(f:Rec)(hf:vu b (at_+1) f):uK b at_ (some f):=by
 intro F G L O st err Ap M key part w W;have HQ:Kp (∀ i n m d g c w',kk b F w _ n m d g c ->
  ((err=0->∀r,f part st=some r->c=0/\g=r.1/\i=r.2)/\(err=0->f _ _=none->c=7)/\(err=7->c=7)/\(c=0\/c=7))->oQ b (some f) F _ key st part w _ w'):=λi n m d g c w' h1 h2=>
  ⟨⟨key,i,az⟩,n,m,d,g,c,rfl,h1,λh r E=>by
   unfold fK at E;obtain⟨q,z,e⟩:=Option.map_eq_some_iff.1 E;grind,λh E=>by
   unfold fK at E;exact h2.2.1 h (Option.map_eq_none_iff.1 E),h2.2.2.1,h2.2.2.2⟩
 have A:=(ah _ w).alloc (ae _) (.cells zC 155);have Y:=J (aa.new w 155 zC);have u:=W.below A;obtain⟨D,H,y,B,p⟩:=j5_ A (hf F G L O _ _ _ M _ _ u) u.dy.fm W.dy.line W.dy.fY;have G:=uo hb;have I:=hb.cfg.n16;clear W A u;generalize u:oQ b _ F _ _ _ _ w=Q at*;clear u;generalize Z:w.alloc _=u at*;have M:=Y.lt;have E:=J M;obtain⟨x1,z⟩:C u _ 1 (U _ _ _)/\True:=⟨y.cell 1,trivial⟩;have u:(at_ == (b.rs.length:Int)-1)=false:=o_;have u:IntKind.i64.wrap _=b.rs.length-1:=IntWalk.i64_in _ o_;have u:IntKind.i64.wrap (at_+1)=(at_+1:Nat):=by rw[IntWalk.i64_in _ o_];omega
 generalize b.rs.length=u at*;clear G I hb a2 hf M;go_in;go_wp2_with fail;apply H.mono;rintro e L⟨i,n,m,d,g,c,rfl,x,T,R,V,O⟩;have M:=J (And.intro T (And.intro R (And.intro V O)));have G:=J x;have y:Kp (aa L _ _ _):=(x.ax.block _ E (λh=>by have:=p _ h;omega)).trans Y;clear x T R V O x1 z Z H;obtain⟨u,u⟩:=aa.gu y;obtain⟨u,z⟩:=e_ (aH L w.heap.size 0 [.int .i64 key,.int .i64 i,.int .i64 0,.int .i64 0,.int .i64 0,.int .i64 0,.int .i64 0,.int .i64 0,.int .i64 0,.int .i64 0,.int .i64 0,.int .i64 0]);have N:=J (show aa u _ _ (bH ⟨_,i,az⟩) by rw[<-z];exact dS y _ rfl);have s:=J (show kk b F w u n m d g c by
  rw[<-z];exact G.set D B p o_ E _ _)
 simp only[aH,Nat.zero_add,Nat.reduceAdd]at z;have L:=J (HQ i n m d g c u s M);obtain⟨U,z1,E,O,u,z5,z6,z7,z,Z,a3,V⟩:=(aa.gu N).1;clear N s HQ Y y D M G;go_wp2;refine bodyPost_ret ?_ rfl L;simp[results,go_sem,U,z1,E,O,u,z5,z6,z7,z,Z,a3,V]
structure Mid(b:Bc)(F0:Nat->Prop)(w w':World)(F:Nat->Prop)(An:OA)(cn:Nat)(nds:List Nd)(st:St)(err:Nat):Prop where
 dy:b.Dy w' F An cn nds st err
 ax:aq F0 w w'
 sub:∀k,F k->more F0 w w' k
section
variable{b:Bc}{F0 F F1:Nat->Prop}{w w' w1 w2:World}{An An1:OA}{cn cn1:Nat}{nds nds1:List Nd}{st st1:St}{err err1:Nat}
def Mid.start(h:b.Dy w F An cn nds st err):Mid b F w w F An cn nds st err:=⟨h,aq.refl _ _,λk hk=> .inl hk⟩
def Mid.below(h:Mid b F0 w w' F An cn nds st err)(c:E w' w1):Mid b F0 w w1 F An cn nds st err:=
 ⟨h.dy.keep (Kept.below c),h.ax.trans (aq.below c),λk hk=>lO o_ c.size (h.sub k hk)⟩
def Mid.trans(h:Mid b F0 w w' F An cn nds st err)(k:Mid b F w' w1 F1 An1 cn1 nds1 st1 err1):Mid b F0 w w1 F1 An1 cn1 nds1 st1 err1:=
 ⟨k.dy,⟨k.ax.os.trans h.ax.os,k.ax.tape.trans h.ax.tape,k.ax.output.trans h.ax.output,aF h.ax.size k.ax.size,λi hi c=>(k.ax.block i (bh hi h.ax.size) (λd=>by
  obtain h1|⟨h1,_⟩:=h.sub i d
  .grind
  .omega)).trans (h.ax.block i hi c)⟩,λi hi=>by
  obtain h1|⟨h1,h2⟩:=k.sub i hi
  .exact lO o_ k.ax.size (h.sub i h1)
  .exact .inr ⟨aF h.ax.size h1,h2⟩⟩
def kk.fw(h:kk b F w w1 An cn nds st err):Mid b F w w1 (more F w w1) An cn nds st err:=⟨h.dy,h.ax,λk hk=>hk⟩
def Mid.qZ(h:Mid b F0 w w' F An cn nds st err)(h0:∀k,F0 k->F k)(c:b.B<=w.heap.size):kk b F0 w w' An cn nds st err:=by
 refine⟨h.dy.wide h.sub (λk hk=> ?_) (λk hk=> ?_),h.ax⟩
 .obtain hk|⟨hk,_⟩:=hk
  .exact h.dy.fF k (h0 k hk)
  omega
 .obtain hk|⟨_,hk⟩:=hk
  .exact h.dy.fY k (h0 k hk)
  .omega
def Mid.app{v e:Value}(h:Mid b F0 w w' F An cn nds st err)(c:App w' w1 v e)(d:∀k,v.ownBlock=some k->w.heap.size<=k/\¬F k):Mid b F0 w w1 F An cn nds st err:=
 ⟨h.dy.keep (Kept.app c (λk hk=>(d k hk).2)),s9 h.ax c (λk hk=>(d k hk).1),λk hk=>lO o_ c.grown.size (h.sub k hk)⟩
def Mid.aH(h:Mid b F0 w w' F An cn nds st err){g:Nat}(e:w.heap.size<=g)(d:¬F g)(o:Nat)(c:LV):Mid b F0 w (aH w' g o c) F An cn nds st err:=
 have k:Kept F _ _:=rr d c _ o;⟨h.dy.keep k,l9 e _ _ _ h.ax,λi hi=>lO o_ k.size (h.sub i hi)⟩
def Mid.set(h:Mid b F0 w w' F An cn nds st err){g o:Nat}(d:w.heap.size<=g)(c:¬F g)(v:Value):Mid b F0 w (w'.setCell (M g o) v) F An cn nds st err:=h.aH d c o [v]
def Mid.still(h:Mid b F0 w w' F An cn nds st err){k:Nat}(hk:k<w.heap.size)(c:¬F0 k):w'.heap[k]? = w.heap[k]?:= h.ax.block k hk c
def Mid.off(h:Mid b F0 w w' F An cn nds st err){k:Nat}(hk:k<w.heap.size)(c:¬F0 k):¬F k:=λd=>by
 obtain h1|⟨h1,_⟩:=h.sub k d
 .grind
 .omega
def Mid.row(h:Mid b F0 w w' F An cn nds st err){A:OA}{c:LV}(d:Row w w.heap.size A c)(e:∀k,cE A c k->¬F0 k):Row w' w'.heap.size A c/\∀k,cE A c k->¬F k:=
 ⟨(fO d (λk hk=>h.still (Row.bU d hk) (e k hk))).more h.ax.size,λk hk=>h.off (Row.bU d hk) (e k hk)⟩
def Mid.box(h:Mid b F0 w w' F An cn nds st err){g:Nat}{t:TypeId}{cs:AV}(c:aa w g t cs)(d:¬F0 g):aa w' g t cs/\¬F g:=⟨(h.still c.lt d).trans c,h.off c.lt d⟩
def Mid.EC(d:Mid b F0 w w' F An cn nds st err)(c:b.Ro w)(m:b.B<=w.heap.size)(h0:∀k,F0 k->b.B<=k\/b.own k){Ap:OA}{part:LN}(g:Row w' w'.heap.size Ap (an part))(e:∀k,cE Ap (an part) k->¬F k)(n:fI b.ps part)(p:err=0\/err=7)(f:err=0->Good b.ps b.aL b.X.length st):Start b F An cn nds st err Ap part w':=
 ⟨c.ax d.ax m h0,d.dy,g,e,n,p,f⟩
end
structure eL(w:World)(F:Nat->Prop)(B:Nat)(v:Value)(ls:List Ll):Prop where
 own:db w B v ls
 off:∀k,v.ownBlock=some k->¬F k
 each:∀l∈ls,∀k,cE l.A (l.cs.flatMap ch) k->¬F k
def zV{w v A b}(h:Ap w v A b){k}(hk:cE A b k):k<w.heap.size:=Row.bU h.1 hk
def eL.same{w w' F c B v ls}(h:eL w F B v ls)(f:w.heap.size<=w'.heap.size)(d:∀k,k<w.heap.size->¬F k->w'.heap[k]? = w.heap[k]?)(e:∀k,k<w.heap.size->¬F k->¬c k):eL w' c B v ls:=
 ⟨⟨fN h.own.1 (λk hk=>d k (h.own.1.lt k hk).2 (h.off k hk)),λl b=>⟨sN (h.own.2 l b).1 f (λk hk=>d k (zV (h.own.2 l b).1 hk) (h.each l b k hk)),(h.own.2 l b).2⟩⟩,
  λk hk=>e k (h.own.1.lt k hk).2 (h.off k hk),λl b k hk=>e k (zV (h.own.2 l b).1 hk) (h.each l b k hk)⟩
def eL.fw{b w w' f F g m d st err}(c:Mid b f w w' F g m d st err){B v ls}(h:eL w f B v ls):eL w' F B v ls:=
 h.same c.ax.size (λk hk e=>c.still hk e) (λk hk e=>c.off hk e)
def eL.below{w w' F B v ls}(h:eL w F B v ls)(b:E w w'):eL w' F B v ls:=h.same b.size (λk hk _=>b.block k hk) (λk _ c=>c)
structure iD(w:World)(F:Nat->Prop)(B:Nat)(v:Value)(cs:List Cl):Prop where
 own:w.ownsRow B 155 12 v cs.length (cs.flatMap ch)
 off:∀k,v.ownBlock=some k->¬F k
def iD.fw{b w w' e F f g c st err}(d:Mid b e w w' F f g c st err){B v cs}(h:iD w e B v cs):iD w' F B v cs:=
 ⟨fN h.own (λk hk=>d.still (h.own.lt k hk).2 (h.off k hk)),λk hk=>d.off (h.own.lt k hk).2 (h.off k hk)⟩
def iD.below{w w' F B v cs}(h:iD w F B v cs)(b:E w w'):iD w' F B v cs:=
 ⟨fN h.own (λk hk=>b.block k (h.own.lt k hk).2),h.off⟩
def iD.nil w F B:iD w F B (Z) []:=⟨cK _ _ _ _,λk hk=>by cases hk⟩
section
variable{ps:List (LN×Ag)}{f:Option Rec}{err err':Nat}{st st':St}{c:Cl}
def row_step{gs:List (Nat×LN)}{j:Nat}{g:Nat×LN}(q:gs[j]? = some g){cs:List Cl}{kK:Option (St×List Cl)}(h0:err=0->iz ps f (gs.drop j) (st,cs)=kK)(n:err=7->kK=none)(d:err=0\/err=7)
 (c1:err=0->∀r,fK ps f g.1 g.2 st=some r->err'=0/\st'=r.1/\c=r.2)(c2:err=0->fK ps f g.1 g.2 st=none->err'=7)(c3:err=7->err'=7) :
 (err'=0->err=0/\fK ps f g.1 g.2 st=some (st',c)/\iz ps f (gs.drop (j+1)) (st',cs++[c])=kK)/\(err'=7->kK=none):=by
 have hd:gs.drop j=g::gs.drop (j+1):=by
  obtain⟨u,e⟩:=aO q;rw[drop_eq_getElem_cons u,e]
 obtain d|d:=d
 .have b:=h0 d;rw[hd]at b;unfold iz at b;rcases m:fK _ f _ _ _ with _|r
  .grind
  grind
 grind
def KQ{at_:Nat}{part:LN}{aL:List LN}{k:Nat}{l:LN}(hl:aL[k]? = some l){ls:List (List Cl)}{tot2:Option (St×List (List Cl))}(h0:err=0->j5 ps f at_ part (aL.drop k) (st,ls)=tot2)(h7:err=7->tot2=none)(he:err=0\/err=7)
 {cs:List Cl}(c0:err'=0->iz ps f [] (st',cs)=if err=0 then iz ps f (dh (eH ps l at_) part) (st,[])else none)(c7:err'=7->(if err=0 then iz ps f (dh (eH ps l at_) part) (st,[])else none)=none) :
 (err'=0->j5 ps f at_ part (aL.drop (k+1)) (st',ls++[cs])=tot2)/\(err'=7->tot2=none):=by
 have hd:aL.drop k=l::aL.drop (k+1):=by
  obtain⟨hj,e⟩:=aO hl;rw[drop_eq_getElem_cons hj,e]
 obtain he|he:=he
 .have h0':=h0 he;rw[hd]at h0';unfold j5 at h0';rw[if_pos he]at c0 c7;refine⟨λh=> ?_,λh=> ?_⟩
  .rw[<-c0 h]at h0';exact h0'
  grind
 .rw[if_neg o_]at c0 c7;exact⟨(λh=>by have:=c0 h;cases this),λ_=>h7 he⟩
end
def Jw{w B A}{l:List Gr}(h:Row w B A (l.flatMap dx)) k(hk:k<l.length) :
 ∃b off,A=some ⟨b,off,none⟩/\b<B/\C w b (off+k*2) (I (l[k].key:Nat))/\C w b (off+k*2+1) (U l[k].A l[k].part.length l[k].c):=by
 obtain⟨b,off,e,f,d⟩:=Row.rec pN h o_ k hk;exact⟨b,_,e,f,d 0 _ rfl,d 1 _ rfl⟩
def eL.app{w w' F B g n c p r A d ls l}(h:eL w F B (U A n c) ls)(b:iD w F g (U l.A l.cs.length l.c) l.cs)(D:B<=g)(f:∀k,(Value.slice A n c).ownBlock=some k->k<g)(y:w'.ownsRow B 223 1 (U d p r) (n+1) (ls.map dq++[dq l]))(s:App w w' (U A n c) (U d p r))(z:ls.length=n)(C:∀k,F k->k<w.heap.size):eL w' F B (U d p r) (ls++[l]):=by
 have q:Ap w (U A n c) _ _:=wD (dF b.own) (eB.own b.own o_) f;refine⟨h.own.app q (eB.own b.own D) y s z,λk hk u=> ?_,λx hx k hk=> ?_⟩
 .obtain m|⟨j,m,E⟩:=s.j4
  .rw[m]at hk;exact h.off k hk u
  grind
 .obtain hx|hx:=mem_append.1 hx
  .exact h.each x hx k hk
  .rw[mem_singleton.1 hx]at hk;obtain⟨v,off,e⟩:=hk;exact b.off k (by rw[e];rfl)
def eL.aJ{w F B v ls}(h:eL w F B v ls){p}(b:p.block<B) u:eL (w.setCell p u) F B v ls:=⟨h.own.aJ b u,h.off,h.each⟩
def iD.app{w w' F B n c b e A d cs x}(h:iD w F B (U A n c) cs)(m:w'.ownsRow B 155 12 (U d b e) (n+1) (cs.flatMap ch++ch x))(p:App w w' (U A n c) (U d b e))(q:cs.length=n)(r:∀k,F k->k<w.heap.size):iD w' F B (U d b e) (cs++[x]):=by
 refine⟨r_,λk hk g=> ?_⟩;obtain f|⟨j,f,s⟩:=p.j4
 .rw[f]at hk;exact h.off k hk g
 grind
def NM{b:Bc}{i:Nat}{p:LN×Ag}(h:b.ps[i]? = some p):∃f,b.fs[i]? = some f/\p=(f.keys,f.ag):=by
 unfold Bc.ps aw at h;rw[getElem?_map]at h;obtain⟨f,c,e⟩:=Option.map_eq_some_iff.1 h;exact⟨f,c,e.symm⟩
def KN{b:Bc}{a:Nat}{ls}(h:b.aL[a]? = some ls):∃r,b.rs[a]? = some r/\ls=r.fs.map Fa.keys:=by
 unfold Bc.aL at h;grind
def Ka{b:Bc}(c:b.Ok){w}(e:b.Ro w)(C:b.B<=w.heap.size){at_ k r g}(A:b.rs[at_]? = some r)(D:r.fs[k]? = some g){part}(G:fI b.ps part) :
 qH w b.Af b.fs b.Al b.rs at_ k r g part (eH b.ps g.keys at_):=by
 have h1:b.aL[at_]? = some (r.fs.map Fa.keys):=by unfold Bc.aL;rw[getElem?_map,A];rfl
 have m:at_<b.X.length:=by rw[<-c.cfg.len];grind
 have h2:=gE m;have n:(r.fs.map Fa.keys)[k]? = some g.keys:=r_
 obtain⟨y,x,J⟩:=c.cfg.cU h1 h2 n;have ht:=c.cfg.ai _ _ _ h1 h2;rw[lM]at ht;have u:=gE (l:=b.X[at_]) (i:=0) o_;have N:=(c.cfg.lift _ _ _ k _ y _ h1 h2 n x u).1;have L:=c.cfg.rF;rw[xf]at L;have v:=uo c;have H:=c.cfg.n16;refine⟨e.facts.more C,e.aL.more C,A,D,λi hi=> ?_,o_,o_,o_,o_,λf d=> ?_⟩
 .obtain⟨p,q,z,E,M,R,F,I,O⟩:=c.cfg.key (G.lt i hi) h1 h2 n x;obtain⟨f,d,rfl⟩:=NM E;grind
 .obtain⟨i,hi,rfl⟩:=getElem_of_mem d;have s:b.ps[i]? = some (b.fs[i].keys,b.fs[i].ag):=by unfold Bc.ps aw;rw[getElem?_map,gE hi];rfl
  have:=(c.cfg.keys i _ s).1;grind
def Jq key part:(dh key part).length<=200:=by
 have:=ov _ _ (xi key part) (λx hx=>by
  obtain⟨g,b,rfl⟩:=mem_map.1 hx;exact mem_range.2 (o9.1 b).1)
 grind
def FG(b:Bc)(f:Option Rec)(at_:Nat)(part:LN)(m:Nat->Prop)(w:World)(e:Nat)(aL:List LN)(d:Option (St×List (List Cl)))(k:Nat)(wr:World):Prop:=
 ∃(F:Nat->Prop)(p:OA)(n:Nat)(g:List Nd)(st:St)(err:Nat)(A:OA)(c:Nat)(ls:List Ll),Mid b m w wr F p n g st err/\(∀k,m k->F k)/\aa wr e 157 #[N at_,U A k c,I 0,I 0,I 0,I 0,I 0,I 0,I 0,I 0,I 0,I 0,I 0,I 0]/\¬F e /\
  eL wr F (e+1) (U A k c) ls/\ls.length=k/\(err=0\/err=7)/\(err=0->Good b.ps b.aL b.X.length st)/\(err=0->j5 b.ps f at_ part (aL.drop k) (st,ls.map Ll.cs)=d)/\(err=7->d=none)
def FH(b:Bc)(f:Option Rec)(e:Nat->Prop)(w:World)(gs:List (Nat×LN))(kK:Option (St×List Cl))(j:Nat)(A:OA)(c:Nat)(wr:World):Prop:=
 ∃(F:Nat->Prop)(m:OA)(g:Nat)(d:List Nd)(st:St)(err:Nat)(cs:List Cl),Mid b e w wr F m g d st err/\(∀k,e k->F k)/\iD wr F w.heap.size (U A j c) cs/\cs.length=j/\(err=0\/err=7)/\(err=0->Good b.ps b.aL b.X.length st)/\(err=0->iz b.ps f (gs.drop j) (st,cs)=kK)/\(err=7->kK=none)
def CQ{b:Bc}{f at_ part st}(c:fr at_ part st.parts=none):fh b.ps b.aL b.most f at_ part st=(j5 b.ps f at_ part ((b.aL[at_]?).getD []) (st,[])).bind λr=>(fK b.ps f 0 part r.1).bind λq=>
 if q.1.nodes.length<b.most then some (⟨q.1.nodes++[⟨at_,r.2,q.2⟩],q.1.parts++[(at_,part)]⟩,q.1.nodes.length)else none:=by
 unfold fh;rw[c]
def CR{b:Bc}{f at_ part st i}(c:fr at_ part st.parts=some i):fh b.ps b.aL b.most f at_ part st=some (st,i):=by
 unfold fh;rw[c]
end Tc
namespace Tc
open List Go.RowKit Base Go.Maps Go.WideMaps Go.Proofs.Tryz
def Deep(a:Nat)(st b:St):Prop:=∃c,b.parts=st.parts++c/\∀q∈c,a<=q.1
def Deep.refl a st:Deep a st st:=⟨[],s_,s_⟩
def Deep.trans{a x y z}(h:Deep a x y)(k:Deep a y z):Deep a x z:=by
 obtain⟨d,e,h1⟩:=h;obtain⟨f,c,h2⟩:=k;refine⟨d++f,r_,λq b=> ?_⟩;grind
def Deep.less{a b x y}(h:Deep a x y)(c:b<=a):Deep b x y:=by
 obtain⟨e,d,h1⟩:=h;exact⟨e,d,λq f=>aF c (h1 q f)⟩
def vF(a:Nat)(f:Rec):Prop:=∀part st r,f part st=some r->Deep a st r.1
def mM(a:Nat)(f:Option Rec):Prop:=match f with
 |none=>True
 |some g=>vF (a+1) g
section
variable{ps:List (LN×Ag)}{aL:List (List LN)}{a:Nat}{f:Option Rec}
def wO(b:mM a f){key:Nat}{part:LN}{st:St}{r:St×Cl}(h:fK ps f key part st=some r):Deep (a+1) st r.1:=by
 unfold fK at h;unfold mM at b;split at h
 .injection h with h;subst h;exact Deep.refl _ _
 .obtain⟨q,c,e⟩:=Option.map_eq_some_iff.1 h;subst e;exact b _ _ _ c
def DW(b:mM a f):∀(gs:List (Nat×LN))(s r:St×List Cl),iz ps f gs s=some r->Deep (a+1) s.1 r.1
 | [],s,r,h=>by
  injection h with h
  subst h;exact Deep.refl _ _
 |g::gs,s,r,h=>by
  unfold iz at h;obtain⟨q,c,h⟩:=Option.bind_eq_some_iff.1 h;exact(wO b c).trans (DW b _ _ _ h)
def xK(b:mM a f){part:LN}:∀(ls:List LN)(s r:St×List (List Cl)),j5 ps f a part ls s=some r->Deep (a+1) s.1 r.1
 | [],s,r,h=>by
  injection h with h
  subst h;exact Deep.refl _ _
 |l::ls,s,r,h=>by
  unfold j5 at h;obtain⟨q,c,h⟩:=Option.bind_eq_some_iff.1 h;exact(DW b _ _ _ c).trans (xK b _ _ _ h)
def CK(c:mM a f)(most:Nat):vF a (fh ps aL most f a):=by
 intro part st r h;unfold fh at h;split at h
 .injection h with h;subst h;exact Deep.refl _ _
 .obtain⟨q,b,h⟩:=Option.bind_eq_some_iff.1 h;obtain⟨x,hx,h⟩:=Option.bind_eq_some_iff.1 h;have hd:=((xK c _ _ _ b).trans (wO c hx)).less (Nat.le_succ a);split at h
  .injection h with h;subst h;exact hd.trans ⟨_,rfl,λq b=>r_⟩
  .cases h
def Fe{most nd:Nat}:∀{d:Nat},d<nd->vF (nd-1-d) (visit ps aL most nd d)
 |0,h=>CK (f:=none) trivial most
 |d+1,h=>by
  refine CK ?_ _;have e:nd-1-(d+1)+1=nd-1-d:=o_;unfold mM;dsimp only;rw[e];exact Fe o_
end
def IY{a part st b}(h:fr a part st.parts=none)(hd:Deep (a+1) st b):fr a part b.parts=none:=by
 obtain⟨f,e,g⟩:=hd;unfold fr at*;grind
def eL.jA{F B g v ls}(c:g<B):∀(b:LV)(w:World)(o:Nat),eL w F B v ls->eL (aH w g o b) F B v ls
 | [],_,_,h=>h
 |u::b,w,o,h=>eL.jA c b _ _ (h.aJ (p:=(M g o)) c u)
section
variable{b:Bc}{F0 F:Nat->Prop}{w W w7 w8:World}{An An':OA}{cn cn':Nat}{nds:List Nd}{n':Nd}{st:St}{pn:aQ}{p:Nat×LN}
def Mid.fail(d:b.Ok)(h:Mid b F0 w W F An cn nds st 0)(h0:F0 b.gb):Mid b F0 w (W.setCell (M b.gb 4) (I 7)) F An cn nds st 7:=by
 have hd:=h.dy;have e:∀k,k≠b.gb->(W.setCell _ (I 7)).heap[k]? = W.heap[k]?:= λk hk=>Below.heap_setCell W (M b.gb 4) _ k hk;have c:(W.setCell (M b.gb 4) (I 7)).heap.size=W.heap.size:=s_;refine⟨⟨by rw[c];exact hd.line,hd.fF,hd.fo,λk hk=>by rw[c];exact hd.fY k hk,hd.fm.set 4 _,(e _ d.ba.symm).trans hd.nT,hd.nodes.tX ⟨o_,λk hk _=>e k (by have:=d.bB;omega)⟩,hd.mw,hd.lJ,hd.plain,hd.most,hd.len,hd.met.same (e _ d.bm.symm)⟩,h.ax.trans (aq.set _ _ _ h0),λk hk=>lO o_ o_ (h.sub k hk)⟩
def Mid.added(hb:b.Ok)(h:Mid b F0 w W F An cn nds st 0)(hp:aK n'=pn)(ho:ep w7 b.B (U An' (nds.length+1) cn') (nds++[n']))(ha:aa w7 b.ga 217 (eV b.As b.xs.length b.cs b.m An' (nds.length+1) cn' b.most))
 (hlies:(Value.slice An' (nds.length+1) cn').ownBlock=(Value.slice An nds.length cn).ownBlock\/∃k,(Value.slice An' (nds.length+1) cn').ownBlock=some k/\W.heap.size<=k)(hfr:gW W.heap.size n')(ht:aq (λk=>k=b.ga\/isRow (U An nds.length cn) k) W w7)
 (hlt:nds.length<b.most)(hg:w7.grownBy w8 (some b.gm))(hmet:mc w8 b.gm (st.parts++[p])):Mid b F0 w w8 (more F W w8) An' cn' (nds++[n']) ⟨st.nodes++[pn],st.parts++[p]⟩ 0:=by
 have hd:=h.dy;have hz7:=ht.size;have hz8:=hg.size;have hga:=hd.fo _ (.inr (.inl rfl));have hgm:=hd.fo _ (.inr (.inr rfl));have hkeep:∀k,k<W.heap.size->k≠b.ga->¬isRow _ k->k≠b.gm->w8.heap[k]? = W.heap[k]?:= λk hk h1 h2 h3=>
  (hg.block k o_ (λe=>h3 (Option.some.inj e))).trans (ht.block k hk (λe=>e.elim h1 h2))
 have hrow:∀k,isRow _ k->b.B<=k:=λk hk=>(hd.nodes.1.lt k hk).1
 have ho8:=ho.tX ⟨o_,λk hk hl=>hg.block k hl (λe=>by have:=Option.some.inj e;have:=hb.mB;omega)⟩;have hlen:(nds++[n']).length=nds.length+1:=o_
 refine⟨⟨aF hd.line o_,λk hk=> ?_,λk hk=> .inl (hd.fo k hk),λk hk=> ?_,?_,?_,o_,λk hk=> ?_,λn hn k hk=> ?_,?_,o_,?_,hmet⟩,⟨?_,?_,?_,?_,?_⟩,λk hk=> ?_⟩
 .obtain hk|⟨hk,_⟩:=hk
  .exact hd.fF k hk
  .exact .inl (aF hd.line hk)
 .obtain hk|⟨_,hk⟩:=hk
  .have:=hd.fY k hk;omega
  .omega
 .exact(hkeep _ hd.fm.lt hb.ba (λhr=>by have:=hrow _ hr;have:=hb.bB;omega) hb.bm).trans hd.fm
 .rw[hlen];exact(hg.block _ ha.lt (λe=>hb.am (Option.some.inj e))).trans ha
 .rw[hlen]at hk;obtain hl|⟨j,hl,hj⟩:=hlies
  .rw[hl]at hk;exact .inl (hd.mw k hk)
  .have:=(ho8.1.lt k hk).2;rw[hl]at hk;injection hk with hk
   exact .inr ⟨o_,o_⟩
 .obtain hn|hn:=mem_append.1 hn
  .exact .inl (hd.lJ n hn k hk)
  .have hn':=ho8.2 n (mem_append_right _ hn);rw[mem_singleton.1 hn]at hk hn';obtain hk|⟨l,hl,hk⟩:=hk
   .have:=Row.bU hn'.1.1.1 hk;obtain⟨hne,off,e⟩:=hk;exact .inr ⟨hfr.1 k _ e o_,o_⟩
   .have:=Row.bU (hn'.1.2 l hl).1 hk;obtain⟨hne,off,e⟩:=hk;exact .inr ⟨hfr.2 l hl k _ e o_,o_⟩
 .rw[map_append,hd.plain,map_cons,map_nil,hp]
 .dsimp only;rw[aE,aE,hd.len];rfl
 .exact hg.os.trans (ht.os.trans h.ax.os)
 .exact hg.tape.trans (ht.tape.trans h.ax.tape)
 .exact hg.output.trans (ht.output.trans h.ax.output)
 .have:=h.ax.size;omega
 .intro i hi hn;have hf:=h.off hi hn;have:=h.ax.size;exact(hkeep i o_ (λe=>hf (e▸hga)) (λhr=>hf (hd.mw i hr)) (λe=>hf (e▸hgm))).trans (h.ax.block i hi hn)
 .obtain hk|⟨hk,hk2⟩:=hk
  .exact lO o_ o_ (h.sub k hk)
  .have:=h.ax.size;exact .inr ⟨o_,o_⟩
end
def nS{b:Bc}:b.X.length=b.xs.length:=by unfold Bc.X;rw[lM]
def FT{b:Bc}(p:b.Ok){W F D A1 H c1 at_ d st ls cx part L}(hd:b.Dy W F D H d st 0)(E:b.Ro W)(g:at_<b.X.length)(v:du W W.heap.size ⟨at_,A1,ls,c1,cx⟩)(hg:Good b.ps b.aL b.X.length st)(hp:fI b.ps part)(J:b.aL[at_]? = some L)(M:lE b.ps (decide (at_+1=b.X.length)) st at_ part L (ls.map Ll.cs))(I:kq b.ps (decide (at_+1=b.X.length)) st at_ 0 part cx) :
 Calls prog 148 #[Y b.ga 0,.agg (aZ ⟨at_,A1,ls,c1,cx⟩)] W (qz b.B b.ga b.As b.xs.length b.cs b.m D H b.most d (aK ⟨at_,A1,ls,c1,cx⟩) W):=by
 have u:b.X[at_]? = some ((b.xs[at_]'(by rw[<-nS];omega)).keys):=by unfold Bc.X;rw[getElem?_map,gE (by rw[<-nS];omega)];rfl
 have C:d.length=st.nodes.length:=by rw[<-hd.plain,lM]
 have Z:=hd.most;have x:=p.most;obtain⟨U,T⟩:=AF p.cfg J u hp (by rw[hd.len,<-C];omega) M I;have A:=p.cfg.n16;have y:∀N,N=b.X.length->im (decide _) (b.xs[at_]'(by rw[<-nS];exact g)).keys _ ⟨_,_,_⟩:=o_
 refine FN _ _ _ D _ _ _ H _ d _ W p.aB hd.line hd.nT (E.shape.more hd.line) hd.nodes v (by rw[<-nS];omega) p.cfg.m1 p.cfg.m3 o_ x r_ (y _ nS.symm) (λl G=> ?_) ?_
 .grind
 .by_cases f:at_+1=b.xs.length
  .grind
  .refine .inr (λc r=> ?_);have z:lF _ b.aL _ _ at_ _ ⟨_,ls.map Ll.cs,_⟩:=⟨rfl,r_,I⟩;have u:c∈cR ⟨at_,ls.map Ll.cs,cx⟩:=by
    unfold nU at r;unfold cR;grind
   obtain⟨q,O⟩:=z.lead (by rw[nS];omega) u;have s:=(aO O).1;rw[hd.len]at s;have R:=gE s;have V:=hg.rep _ _ _ R O;have n:c.child<d.length:=o_;refine⟨_,gE n,?_⟩;have e:aK d[c.child]=st.nodes[c.child]:=by
    have h1:(d.map aK)[c.child]? = st.nodes[c.child]?:= by rw[hd.plain]
    rw[getElem?_map,gE n,R]at h1;grind
   have h2:=V.aj;rw[<-e]at h2;exact h2
def CO b(hb:b.Ok) at_(hat:at_<b.X.length) f(hc:uK b at_ f)(hnx:nO b.ps b.aL b.X.length at_ f)(hdp:mM at_ f):vu b at_ (fh b.ps b.aL b.most f at_):=by
 intro F An cn nds st err Ap cp part w hs;obtain⟨i0,ti0,tz0,tz1,tz2⟩:=info_parts o6;obtain⟨j0,si0,sz0,sz1,sz2⟩:=info_parts xm;have hpl:=Dk hb hs.pt;have hX16:=hb.cfg.n16;have hnps:=hb.cfg.rF
 have HQs:Kp (∀w',E w _->(fr _ _ _).isSome=true\/err=7->sA b (fh _ b.aL _ f at_) F _ st part w (.returned (I _)) w'):=λw' h1 h2=>
  ⟨(fr at_ part st.parts).getD 0,_,_,_,_,_,rfl,((Mid.start hs.dy).below h1).qZ (λk hk=>hk) hs.dy.line,λhe r hr=>by
   obtain h2|h2:=h2
   .obtain⟨i,hi⟩:=Option.isSome_iff_exists.1 h2;rw[CR hi]at hr;grind
   .omega,λhe hr=>by
   obtain h2|h2:=h2
   .obtain⟨i,hi⟩:=Option.isSome_iff_exists.1 h2;rw[CR hi]at hr;cases hr
   .omega,λh=>h,hs.er⟩
 have HQd:Kp (∀ i An' cn' nds' st' err' F' w',Mid b F w _ F' _ _ _ _ _->(∀k,F k->F' k)->err=0 -> 
  (err'=0->fh b.ps b.aL b.most f at_ part st=some (st',i))->(err'=7->fh b.ps b.aL b.most f at_ part st=none)->(err'=0\/err'=7)->sA b (fh b.ps b.aL b.most f at_) F err st part w _ w'):=λi An' cn' nds' st' err' F' w' h1 h2 h3 h4 h5 h6=>
  ⟨i,An',cn',nds',st',_,rfl,h1.qZ h2 hs.dy.line,λhe r hr=>r_,λhe hr=>r_,λhe=>o_,h6⟩
 have HN:=J (Le _ cp at_ _ w hs.row o_ o_ (λi hi=>by have:=hs.pt.lt i hi;omega));have Hs:=J hs;have hpB:∀i∈part,i<65536:=λi hi=>by have:=hs.pt.lt i hi;omega
 have Hnm:Kp (oX (at_,part)):=⟨o_,hpB⟩;have Hline:=J hs.dy.line;have her:=hs.er;generalize hQ:sA b _ F _ _ _ w=Q at*;clear hQ hs hpB;obtain⟨z,hz⟩:∃z:ByteArray,⟨(gL at_ part).toArray⟩=z:=⟨_,rfl⟩
 have Hz:=J (show z.data.toList=gL _ _ by rw[<-hz]);have hzl:z.size<=maxLen:=by
  have:z.size=(gL at_ part).length:=by rw[<-hz];rfl
  rw[this,CD];unfold maxLen;omega
 have Hkey:=kp (show keyOf _ 9 _=some _ from keyOf_string_mk Tryz.underlying9 o_);rw[hz]at HN;clear hzl hz;obtain⟨n,hN⟩:=e_ part.length
 have Hn:=J hN;rw[hN]at HN hpl⊢;clear hN;go_in;go_wp2_with fail;apply HN.mono;rintro e w1⟨rfl,hb1⟩;have Hb1:=J hb1;have Hs1:=J (Hs.below hb1);clear hb1 HN;obtain⟨x1,x3,x4⟩:C _ _ 1 (U _ _ _)/\C _ _ 3 (.map _)/\C _ _ 4 (N _):=⟨Hs1.dy.fm.cell 1,Hs1.dy.fm.cell 3,Hs1.dy.fm.cell 4⟩
 obtain⟨D,hown,hat2⟩:=Hs1.dy.met;have Hfa:=J (hat2.at_ _ Hnm);have Hfh:=J (hat2.has _ Hnm);rw[show(at_,part).1=at_ from rfl,show(at_,part).2=part from rfl]at Hfa Hfh;unfold rE at Hfa Hfh;rw[<-Hz]at Hfa Hfh
 have Hq:=kp (show∀c:Int,D.atKey (.string z.data.toList) (.lit (.int .i64 0)) = .lit (.int .i64 c)->c=((fr at_ part st.parts).getD 0:Nat)fromλc h=>by
  have h2:=Hfa.o;grind)
 generalize hfp:fr _ _ _=fp at*;have Hfp:=J hfp;clear hfp hat2;by_cases hfs:fp.isSome=true
 .have Hfin:=J (HQs _ Hb1 (.inl hfs));have Hhas:=J (Hfh.trans hfs)
  go_wp2_with(at_lookup;refine wpList_lookup_own_ok_int _ rfl _ _ _ rfl 9 3 _ jH underlying141 underlying3 (nM _) _ _ D rfl hown _ _ rfl Hkey ?_;intro q hat1 hwq;obtain rfl:=Hq q hat1;rw[Hhas];clear hat1 hwq)
  exact Hfin
 .have hfs':fp.isSome=false:=r_
  have Hhas:=J (Hfh.trans hfs');obtain rfl|rfl:=her
  case inr=>
   have Hfin:=kp (HQs _ Hb1 (.inr rfl))
   go_wp2_with(at_lookup;refine wpList_lookup_own_ok_int _ rfl _ _ _ rfl 9 3 _ jH underlying141 underlying3 (nM _) _ _ D rfl hown _ _ rfl Hkey ?_;intro q hat1 hwq;obtain rfl:=Hq q hat1;rw[Hhas];clear hat1 hwq)
   exact Hfin
  case inl=>
   obtain rfl:fp=none:=by simpa using hfs
   have hb2:=(ah _ w1).alloc (ae _) (.cells zN 157);have HBz:=kp (aa.new w1 157 zN);generalize hW2:w1.alloc _=W2 at*;obtain⟨⟨r0,r1,r2,r3,r4,r5,r6,r7,r8,r9,r10,r11,r12,r13⟩,⟨f0,f1,f2,f3,f4,f5,f6,f7,f8,f9,f10,f11,f12,f13⟩⟩:=aa.bK HBz;obtain⟨W3,hW3⟩:∃W3,aH W2 w1.heap.size 0 [.int .i64 at_,.slice none 0 0,.int .i64 0,.int .i64 0,.int .i64 0,.int .i64 0,.int .i64 0,.int .i64 0,.int .i64 0,.int .i64 0,.int .i64 0,.int .i64 0,.int .i64 0,.int .i64 0]=W3:=⟨_,rfl⟩
   have HBn:=kp (show aa W3 _ _ _ by rw[<-hW3];exact dS HBz _ rfl);have Hb3:=kp (show Below _ _ W3 by rw[<-hW3];exact fq o_ _ _ _ hb2);simp only[aH,Nat.zero_add,Nat.reduceAdd]at hW3;have Hs3:=kp (Hs1.o.below Hb3);clear hb2 HBz;go_upto_region 6 with(at_lookup;refine wpList_lookup_own_ok_int _ rfl _ _ _ rfl 9 3 _ jH Tryz.underlying141 Tryz.underlying3 (nM _) _ _ D rfl hown _ _ rfl Hkey ?_;intro q hat1 hwq;obtain rfl:=Hq q hat1;rw[Hhas];clear hat1 hwq)
   clear x1 x3 x4 r0 r1 r2 r3 r4 r5 r6 r7 r8 r9 r10 r11 r12 r13 f0 f1 f2 f3 f4 f5 f6 f7 f8 f9 f10 f11 f12 f13 hW3 hW2 hown Hfa Hfh Hq HQs hfs hfs' Hhas;obtain⟨ls0,x0,hl0,hx0⟩:=hb.cfg.aj o_;obtain⟨r,hr,rfl⟩:=KN hl0;have Hl0:=kp (show(b.aL[at_]?).getD []=r.fs.map _ by rw[hl0];rfl);have Hr:=kp hr;have hrl:=(aO hr).1;have hrl16:=uo hb;have ht:=hb.cfg.ai _ _ _ hl0 hx0;have hm4:r.fs.length<=4:=r_
   have Hl1:=kp hl0;have Hro3:=kp Hs3.o.ro;obtain⟨bl,ol,hA,hbl,l0⟩:=Row.at_ Hro3.o.aL.row (by rw[lM];exact hrl);rw[getElem_map,(aO hr).2]at l0;unfold fy at l0;have x1:W3.cell? _=some (.slice _ _ _):=Hs3.o.dy.fm.cell 1;rw[hA]at x1;have a0:0<=(at_:Int):=o_
   have a1:at_<(b.rs.length:Int):=o_
   obtain⟨gN,hgN⟩:∃gN,w1.heap.size=gN:=⟨_,rfl⟩
   have Hgw:=kp (show w.heap.size<=gN by rw[<-hgN];exact Hb1.o.size);have Hm3:=kp ((Mid.start Hs.o.dy).below (Hb1.o.trans (Hb3.o.mono Hb1.o.size)));have HgF:=kp (show¬F gN fromλh=>by have:=Hs.o.dy.fY _ h;have:=Hgw.o;omega);rw[hgN]at HBn⊢;clear hrl hrl16 ht hx0 hl0 hr;go_wp2;clear x1 l0 a0 a1;obtain⟨m,hM⟩:∃m,r.fs.length=m:=⟨_,rfl⟩
   have HM:=kp hM;rw[hM]at hm4⊢;clear hM hA hbl;have HL:=kp (show(r.fs.map Fa.keys).length=m by rw[lM];exact HM);obtain⟨tot2,hT2⟩:∃t,j5 b.ps f at_ part (r.fs.map Fa.keys) (st,[])=t:=⟨_,rfl⟩
   have HT2:=kp hT2;clear hT2
   go_loopw [48] (λv48 wr=>∃k,k<=m/\v48 = .int .i64 (k:Nat)/\FG b f at_ part F w gN (r.fs.map Fa.keys) tot2 k wr) (λv48 _=>m-(intOf v48).toNat)
   case atStart=>
    exact⟨0,o_,rfl,F,_,_,_,_,0,_,0,_,Hm3,λ_ h=>h,HBn,HgF,⟨db.nil _ _,(λk hk=>by cases hk),(λx hx=>r_)⟩,rfl,.inl rfl,λ_=>Hs.o.dK rfl,λ_=>HT2,λh=>o_⟩
   case round=>
    obtain⟨k,hk,rfl,F1,An1,cn1,nds1,st1,err1,A1,c1,ls1,hm,hFF,hbx,hgF,hls,hll,he1,hgood,h0,h7⟩:=hrel;have Hm:=kp hm;have HFF:=kp hFF;have Hbx:=kp hbx;have HgF1:=kp hgF;have Hls:=kp hls;have Hll:=kp hll;have He1:=kp he1;have Hgood:=kp hgood;have H0:=kp h0;have H7:=kp h7;clear hm hFF hbx hgF hls hll he1 hgood h0 h7;by_cases hlt:k<m
    .have hkf:k<r.fs.length:=by rw[HM];omega
     have Hf:=kp (gE hkf);have hro:=Hs.o.ro.ax Hm.o.ax Hline Hs.o.dy.fF;have hrow:=Hm.o.row Hs.o.row Hs.o.off;have HG:=kp (Jr _ _ _ _ _ _ _ cp _ _ _ _ _ k r _ _ _ _ Hm.o.dy.fm (Ka hb hro Hm.o.dy.line Hr Hf Hs.o.pt) hrow.1 Hs.o.pt.ne (by rw[Hn];omega));have HLk:=kp (show(r.fs.map Fa.keys)[k]? = some (r.fs[k]'hkf).keys by grind);generalize(r.fs[k]'hkf)=lf at*;rw[Hn]at HG;clear hro hrow;go_wp2_with fail;refine HG.o.mono ?_;rintro e w3⟨Ag,cg,gs,rfl,hgp,hgo,hge,hb3⟩;have Hgp:=kp hgp;have Hm3':=kp (Hm.o.below hb3);have Hgr:=kp (dF hgo);have hgF:∀k,wr.heap.size<=k->¬F1 k:=λk hk hf=>by have:=Hm.o.dy.fY k hf;omega
     have Hgoff:=kp (show∀k,cE _ _ k->¬F1 k fromλk hk=>by
      obtain⟨hne,off,e⟩:=hk
      exact hgF k (eB.own hgo o_ k _ e o_))
     have Hgeach:=kp (show∀g∈gs,Row _ _ _ _/\∀k,cE _ _ k->¬F1 k fromλg hg=>⟨(hge g hg).1,λk hk=>by
      obtain⟨hne,off,e⟩:=hk
      exact hgF k ((hge g hg).2 k _ e o_)⟩)
     have Hls3:=kp (Hls.o.below hb3);have Hbx3:=bu Hbx hb3;have Hlsw:=kp (show∀j,(Value.slice _ k _).ownBlock=some j->j<w3.heap.size fromλj hj=>bh (Hls.o.own.1.lt j hj).2 hb3.size);obtain⟨q,hq⟩:∃q,gs.length=q:=⟨_,rfl⟩
     have Hq:=kp hq;have hq200:q<=200:=by
      have:=Jq (eH b.ps lf.keys at_) part;rw[<-Hgp,lM,hq]at this;omega
     obtain⟨kK,hT⟩:∃t,(if err1=0 then iz b.ps f (dh (eH b.ps lf.keys at_) part) (st1,[])else none)=t:=⟨_,rfl⟩
     have HT:=kp hT;obtain⟨GS,hGS⟩:∃G,dh (eH b.ps lf.keys at_) part=G:=⟨_,rfl⟩
     rw[hq];clear hq hT hGS hgp hgo hge hb3 hgF HG Hls Hbx;go_wp2
     go_loopw [12,57] (λv12 v57 w4=>∃(j:Nat)(A':OA)(c':Nat),j<=q/\v57 = .int .i64 (j:Nat)/\v12 = .slice A' j c'/\FH b f F1 w3 (dh (eH b.ps lf.keys at_) part) kK j A' c' w4) (λ_ v57 _=>q-(intOf v57).toNat)
     case atStart=>
      exact⟨0,_,0,o_,rfl,rfl,_,_,_,_,_,_,_,Mid.start Hm3'.o.dy,λ_ h=>h,iD.nil _ _ _,rfl,He1,Hgood,λh=>by rw[<-HT,if_pos h];rfl,λh=>by rw[<-HT,if_neg o_]⟩
     case round=>
      obtain⟨j,A2,c2,hj,rfl,rfl,F2,An2,cn2,nds2,st2,err2,cs,hm2,hFF2,hcs,hcl,he2,hgood2,h02,h72⟩:=hrel;have Hm2:=kp hm2;have HFF2:=kp hFF2;have Hcs:=kp hcs;have Hcl:=kp hcl;have He2:=kp he2;have Hgood2:=kp hgood2;have H02:=kp h02;have H72:=kp h72;clear hm2 hFF2 hcs hcl he2 hgood2 h02 h72;by_cases hjl:j<q
      .have hjg:j<gs.length:=by rw[Hq];omega
       have hrg:=(Hm2.o.row Hgr Hgoff).1;obtain⟨bg,og,BA,hbg,y0,y1⟩:=Jw hrg j hjg;have hgj:=Hgeach _ (gM hjg);have hgr4:=Hm2.o.row hgj.1 hgj.2;have hGj:(dh (eH b.ps lf.keys at_) part)[j]? = some ((gs[j]'hjg).key,(gs[j]'hjg).part):=by rw[<-Hgp,getElem?_map,gE hjg];rfl
       have HGj:=kp hGj;have hpg:fI _ (gs[j]'hjg).part:=Hs.o.pt.group (mem_of_getElem? hGj);have hro:=Hs.o.ro.ax (Hm3'.o.trans Hm2).ax Hline Hs.o.dy.fF;have hst:=Mid.EC (Mid.start Hm2.o.dy) hro Hm2.o.dy.line Hm2.o.dy.fF hgr4.1 hgr4.2 hpg He2 Hgood2;generalize(gs[j]'hjg).key=gk at*;generalize(gs[j]'hjg).A=gA at*;generalize(gs[j]'hjg).part=gp at*;generalize(gs[j]'hjg).c=gc at*;have Hba:=kp ((ah _ wr).alloc (ae _) (.cells #[.int .i64 gk,.slice gA gp.length gc] 255));have HBg:=kp (aa.new wr 255 #[.int .i64 gk,.slice gA gp.length gc]);have HC:=kp (hc _ _ _ _ _ _ _ gc gk _ _ (hst.below Hba));have i1:0<=(j:Int):=o_
       have i2:j<(q:Int):=o_
       rw[BA];clear hrg hgj hgr4 hGj hpg hro hst;go_upto_region 13 with fail
       clear y0 y1;generalize hW5:wr.alloc _=W5 at*;clear hW5;obtain⟨y0,y1,_,_⟩:=HBg.o.two;go_wp2_with fail;refine HC.o.mono ?_;rintro e w5⟨cx,An5,cn5,nds5,st5,err5,rfl,hd5,k1,k2,k3,k4⟩;have hm5:=(Hm2.o.below Hba).trans hd5.fw;have hcs5:=Hcs.o.below Hba;have hcs5:=iD.fw (hd5.fw.trans (Mid.start hd5.dy)) hcs5;have Hm5:=kp hm5;have Hcs5:=kp hcs5;have Hstep:=kp (row_step HGj H02 H72 He2 k1 k2 k3)
       have Hgo5:=kp (show err5=0->Good _ _ _ st5 fromλh=>by
        obtain⟨e1,e2,_⟩:=Hstep.1 h
        exact(sT hnx e2 (Hgood2 e1) (Hs.o.pt.group (mem_of_getElem? HGj))).1)
       have He5:=kp k4;have HFF5:=kp (show∀i,F1 i->more _ W5 w5 i fromλi hi=> .inl (HFF2 i hi));have Hown5:=kp (show w5.ownsRow _ _ _ (.slice _ j _) j _ by have:=Hcs5.o.own;rw[Hcl]at this;omega);have Hs5:=kp (Hm5.o.ax.size);have hk1:j+1<1048576*64:=o_
       clear hm5 hcs5 hd5 k1 k2 k3 k4 y0 y1 HC
       go_wp2_with(at_builtin;refine je rfl _ _ _ rfl _ 155 _ _ _ _ Tryz.underlying223 ti0 tz0 tz1 o_ rfl d_ _ (bH _) rfl (sW _) (.slice _ j _) j _ rfl Hown5 rfl o_ d_ Hs5 ?_;intro v6 w6 hown6 happ6;obtain⟨A6,c6,h6⟩:=cI hown6;subst h6;have Hown6:=kp hown6;have Hap6:=kp happ6;clear hown6 happ6)
       exact⟨⟨_,_,_,o_,o_,rfl,_,_,_,_,_,_,_,Hm5.o.app Hap6 (λi hi=>⟨(Hown5.o.lt i hi).1,Hcs5.o.off i hi⟩),HFF5,iD.app Hcs5 Hown6 Hap6 Hcl Hm5.o.dy.fY,by rw[aE,Hcl];rfl,He5,Hgo5,λh=>(Hstep.1 h).2.2,Hstep.2⟩,o_⟩
      .obtain rfl:j=q:=o_
       have Hdn:=kp (show∀ s c,iz _ f ((dh _ _).drop j) _=iz b.ps f _ (s,c)fromλs c=>by
        have:(dh (eH b.ps lf.keys at_) part).length<=j:=by rw[<-Hgp,lM,Hq];omega
        rw[drop_of_length_le o_])
       have Hst:=kp (KQ HLk H0 H7 He1 (λh=>by rw[<-Hdn,H02 h];exact HT.o.symm) (λh=>HT.o.trans (H72 h)));have Hls4:=kp (eL.fw Hm2 Hls3);have HBx4:=kp (Hm2.o.box Hbx3 HgF1);have Hm4:=kp (Hm3'.o.trans Hm2);have hgl:=HBx4.1.lt;have HgB3:=kp (show gN+1<=w3.heap.size from Hbx3.o.lt);have Hown4:=kp (show wr.ownsRow _ _ 1 (.slice _ k _) k _ by have:=Hls4.o.own.1;rw[Hll]at this;omega);have Hs4:=kp (show gN+1<=wr.heap.size from hgl);have hk1:k<1048576*64:=o_
       have n1:wr.cell? _=some (.slice _ k _):=HBx4.1.cell 1;have HgA:=kp (show(Value.slice _ k _).ownBlock≠some gN fromλh=>by have:=(Hown4.o.lt _ h).1;omega)
       go_wp2_with(at_builtin;refine iP rfl _ _ _ rfl _ 223 _ _ _ Tryz.underlying153 si0 sz0 o_ o_ rfl _ _ rfl (.slice _ k _) k _ rfl Hown4 rfl o_ d_ o_ ?_;intro v6 w6 hown6 happ6;obtain⟨A6,c6,h6⟩:=bY hown6;subst h6;have Hown6:=kp hown6;have Hap6:=kp happ6;have HB6:=kp (show aa _ _ _ _ from(happ6.bI o_ HgA).trans HBx4.1);obtain⟨g1,g2⟩:w6.cell? _=some (.slice _ k _)/\w6.frozen? _=false:=⟨HB6.o.cell 1,HB6.o.free 1⟩;clear hown6 happ6 n1)
       have Hll6:=kp (show dq ⟨_,_,_⟩ = .slice A2 j c2 by unfold dq;rw[Hcl]);have Hcs6:=kp (show iD _ _ _ (.slice _ cs.length _) _ by rw[Hcl];exact Hcs);have Hls6:=kp (eL.app Hls4 Hcs6.o HgB3 Hlsw (by rw[Hll6];trivial) Hap6 Hll Hm4.o.dy.fY);have Hm6:=kp ((Hm4.o.app Hap6 (λi hi=>⟨aF Hgw (Nat.le_of_succ_le (Hown4.o.lt i hi).1),Hls4.o.off i hi⟩)).set (o:=1) Hgw HBx4.2 (.slice A6 (k+1) c6));exact⟨⟨_,o_,o_,_,_,_,_,_,_,_,_,_,Hm6,λi hi=>HFF2 i (HFF i hi),HB6.o.set 1 _,HBx4.2,Hls6.o.aJ o_ _,by rw[aE,Hll];rfl,He2,Hgood2,λh=>by rw[map_append];exact Hst.1 h,Hst.2⟩,o_⟩
    .obtain rfl:k=m:=o_
     have Hdn:=kp (show∀ s l,j5 b.ps f at_ part ((r.fs.map _).drop k) _=some (s,l)fromλs l=>by
      rw[drop_of_length_le (by rw[HL];omega)]
      rfl)
     have hrow:=Hm.o.row Hs.o.row Hs.o.off
     have HC:=kp (show Calls _ _ #[.pointer _,.int _ _,.int _ 0,.slice _ _ _] _ _ from
      hc _ _ _ _ _ _ _ cp 0 _ _ (Mid.EC Hm Hs.o.ro Hline Hs.o.dy.fF hrow.1 hrow.2 Hs.o.pt He1 Hgood))
     rw[Hn]at HC;clear hrow;go_wp2_with fail;refine HC.o.mono ?_;rintro e w5⟨cx,An5,cn5,nds5,st5,err5,rfl,hd5,k1,k2,k3,k4⟩;have Hm5:=kp (Hm.o.trans hd5.fw);have HB5:=kp (hd5.fw.box Hbx HgF1);have Hls5:=kp (eL.fw hd5.fw Hls);have HF5:=kp (show∀i,F i->more _ wr w5 i fromλi hi=> .inl (HFF i hi));generalize more _ _ _=F5 at*;have K1:=kp k1;have K2:=kp k2;have K3:=kp k3;have K4:=kp k4;clear hd5 k1 k2 k3 k4 HC;obtain⟨⟨_,_,r2,r3,r4,r5,r6,r7,r8,r9,r10,r11,r12,r13⟩,⟨_,_,f2,f3,f4,f5,f6,f7,f8,f9,f10,f11,f12,f13⟩⟩:=aa.bK HB5.1;obtain⟨W6,hW6⟩:∃W6,aH w5 gN 2 [.int .i64 cx.key,.int .i64 cx.child,.int .i64 cx.ag.c,.int .i64 cx.ag.s0,.int .i64 cx.ag.n0,.int .i64 cx.ag.x0,.int .i64 cx.ag.s1,.int .i64 cx.ag.n1,.int .i64 cx.ag.x1,.int .i64 cx.ag.s2,.int .i64 cx.ag.n2,.int .i64 cx.ag.x2]=W6:=⟨_,rfl⟩
     have HB6:=kp (show aa W6 _ _ #[.int _ _,.slice _ k _,.int _ _,.int _ _,.int _ _,.int _ _,.int _ _,.int _ _,.int _ _,.int _ _,.int _ _,.int _ _,.int _ _,.int _ _] by rw[<-hW6];exact sQ _ _ [.int _ _,.slice _ k _] _ HB5.1 rfl);have Hm6:=kp (show Mid b F w W6 _ _ _ _ _ _ by rw[<-hW6];exact Hm5.o.aH Hgw HB5.2 _ _);have Hls6:=kp (show eL W6 _ _ (.slice _ k _) _ by rw[<-hW6];exact eL.jA o_ _ _ _ Hls5);simp only[aH,Nat.reduceAdd]at hW6;have x4:W6.cell? _=some (.int _ _):=Hm6.o.dy.fm.cell 4;have HB52:=kp HB5.2
     have Hlt:=kp (show err5=0->err1=0/\fK _ f 0 _ _=some (st5,cx)fromλh=>by
      obtain h1|h1:=He1.o
      .rcases hcv:fK _ f 0 _ _ with _|q
       .have:=K2 h1 hcv;omega
       .obtain⟨_,e2,e3⟩:=K1 h1 q hcv;exact⟨h1,by rw[e2,e3]⟩
      .have:=K3 h1;omega)
     have Hno:=kp (show err5=7->fh _ _ _ f _ _ _=none fromλh=>by
      rw[CQ Hfp,Hl0,HT2];obtain h1|h1:=He1.o
      .rw[<-H0 h1,Hdn,Option.bind_some];rcases hcv:fK _ f 0 _ st1 with _|q
       .rfl
       .have:=(K1 h1 q hcv).1;omega
      .rw[H7 h1];rfl)
     clear HB5 Hls5 Hm5 Hm Hls Hbx;obtain he5|he5:=K4.o
     case inr=>
      subst he5;have Hfin:=kp (HQd 0 _ _ _ _ 7 _ _ Hm6 HF5 o_ (λh=>o_) (λh=>Hno rfl) (.inr rfl));go_wp2;exact Hfin
     case inl=>
      subst he5;obtain⟨e1,hcv⟩:=Hlt rfl;have hlists:=HT2.o.trans ((H0 e1).symm.trans (Hdn _ _));obtain⟨hg1,hx1,hr1⟩:=xL hnx Hs.o.pt _ _ _ _ hlists (Hs.o.dK rfl) (dE.nil _);obtain⟨hg5,hx5,hr5⟩:=sT hnx hcv hg1 Hs.o.pt;have Hg5:=kp hg5;have Hr1:=kp (lE.ext hr1 hx5);have Hr5:=kp hr5;have Hfd:=kp (IY Hfp ((xK hdp _ _ _ hlists).trans (wO hdp hcv)))
      have Hnv:=kp (show fh _ _ _ f _ _ _=if st5.nodes.length<b.most then some (⟨st5.nodes++[⟨_,ls1.map _,cx⟩],st5.parts++[(at_,part)]⟩,st5.nodes.length)else none by
       rw[CQ Hfp,Hl0,hlists,Option.bind_some,hcv,Option.bind_some])
      have HA:=kp (λW(hW:Below _ _ W)=>FT (c1:=c1) hb (Hm6.o.below hW).dy (Hs.o.ro.ax (Hm6.o.below hW).ax Hline Hs.o.dy.fF) o_ ⟨((Hls6.o.below hW).own.at_).1,((Hls6.o.below hW).own.at_).2⟩ Hg5 Hs.o.pt Hl1 Hr1 Hr5);have Hpn:=kp (show aK ⟨_,A1,_,c1,_⟩=⟨at_,ls1.map _,cx⟩from rfl);generalize aK _=pn at*;dsimp only[aZ]at HA;rw[Hll]at HA;have Hnl:=kp (show nds5.length=st5.nodes.length by rw[<-Hm6.o.dy.plain,lM]);have Hnp:=kp (show nds5.length=st5.parts.length by rw[Hm6.o.dy.len];exact Hnl);have hnmax:=aF Hm6.o.dy.most hb.most
      have Hkeep:=kp (show∀W w7,Below _ _ W->aq (λi=>i=b.ga\/isRow (.slice _ _ _) i) W w7->w7.heap[b.gb]? = W6.heap[b.gb]? /\ w7.heap[gN]? = W6.heap[gN]? /\ w7.heap[b.gm]? = W6.heap[b.gm]? fromλW w7 hW hT=>by
       have hd:=Hm6.o.dy;have hh:∀i,i<W6.heap.size->i≠b.ga->¬isRow _ i->w7.heap[i]? = W6.heap[i]?:= λi hi h1 h2=>(hT.block i (bh hi hW.size) (λe=>e.elim h1 h2)).trans (hW.block i hi)
       have hr:∀i,isRow (.slice _ _ _) i->b.B<=i:=λi hi=>(hd.nodes.1.lt i hi).1
       refine⟨hh _ hd.fm.lt hb.ba (λh=>by have:=hr _ h;have:=hb.bB;omega),hh _ HB6.o.lt (λe=>HB52 (e▸hd.fo _ (.inr (.inl rfl)))) (λh=>HB52 (hd.mw _ h)),hh _ hd.met.lt (λe=>hb.am e.symm) (λh=>by have:=hr _ h;have:=hb.mB;omega)⟩)
      have HF0:=kp (Hs.o.dy.fo _ (.inl rfl));clear hlists hg1 hx1 hr1 hg5 hx5 hr5 hcv e1;go_upto_region 20 with fail
      clear x4 r2 r3 r4 r5 r6 r7 r8 r9 r10 r11 r12 r13 f2 f3 f4 f5 f6 f7 f8 f9 f10 f11 f12 f13 hW6;have x2:W6.cell? _=some (.pointer _):=Hm6.o.dy.fm.cell 2;obtain⟨nn0,nn1,nn2,nn3,nn4,nn5,nn6,nn7,nn8,nn9,nn10,nn11,nn12,nn13⟩:=(aa.bK HB6).1;by_cases hfull:nds5.length<b.most
      .skip
       refine wp_region_noPanic ?_;refine br (t:=99) (S:=(λw'=>(w'.cell? _=some _)/\(w'.cell? _=some _/\w'.cell? _=some _/\w'.cell? _=some _/\w'.cell? _=some _/\w'.cell? _=some _/\w'.cell? _=some _/\w'.cell? _=some _/\w'.cell? _=some _/\w'.cell? _=some _/\w'.cell? _=some _/\w'.cell? _=some _/\w'.cell? _=some _/\w'.cell? _=some _/\w'.cell? _=some _))) k_ ⟨x2,nn0,nn1,nn2,nn3,nn4,nn5,nn6,nn7,nn8,nn9,nn10,nn11,nn12,nn13⟩ (λhHeld=> ?_);refine tD 0 1 2 3 hHeld ?_;refine tk 4 hHeld ?_;refine oT 5 λK hK=>?_
       go_simp
       refine(HA _ bR.drew).mono ?_;rintro e w7⟨hyes,_⟩;obtain⟨An7,cn7,n7,rfl,hpn,hown7,hbox7,hlies7,hfr7,ht7⟩:=hyes o_;have Hk7:=kp (Hkeep _ _ bR.drew ht7);have Hpn7:=kp hpn;have Hown7:=kp hown7;have Hbox7:=kp hbox7;have Hlies7:=kp hlies7;have Hfr7:=kp hfr7;have Ht7:=kp ht7;clear hyes hpn hown7 hbox7 hlies7 hfr7 ht7;refine oK hK ?_ λhHeld2=>?_
       .exact⟨(bF Hk7.1).trans x2,tH Hk7.2.1 ⟨nn0,nn1,nn2,nn3,nn4,nn5,nn6,nn7,nn8,nn9,nn10,nn11,nn12,nn13⟩⟩
       replace hHeld:=hHeld2;clear hK K hHeld2;refine tD 6 7 8 9 hHeld ?_;refine tk 10 hHeld ?_;refine bQ k_ ?_ _
       try clear hHeld
       refine NoPanic.normal ?_;clear x2 nn0 nn1 nn2 nn3 nn4 nn5 nn6 nn7 nn8 nn9 nn10 nn11 nn12 nn13 HA;have HB7:=kp (show aa _ _ _ _ from Hk7.1.trans Hm6.o.dy.fm);have x3:w7.cell? _=some (.map _):=HB7.o.cell 3;obtain⟨D7,hown7m,hat7⟩:=Hm6.o.dy.met.same Hk7.2.2;have Hat7:=kp hat7;have Hlm:=kp (show st5.parts.length<maxLen by rw[<-Hnp];unfold maxLen;omega);have Hwf:=kp (show(Lit.int _ (nds5.length:Nat)).wf=true from WalkArith.wf_i64 o_);have Hadd:=kp (λw8 hg hmet=>(Hm6.o.below bR.drew).added (p:=(at_,part)) hb Hpn7 Hown7 Hbox7 Hlies7 Hfr7 Ht7 o_ (w8:=w8) hg hmet);clear hat7
       go_wp2_with(at_mapUpdate;refine wpList_mapUpdate_own _ rfl _ _ _ _ rfl 9 3 jH Tryz.underlying141 _ _ _ _ rfl hown7m Hlm _ _ _ rfl rfl Hkey _ _ (plainElem_int Tryz.underlying3 Hwf) ?_;intro w8 hown8 hgr8;have Hown8:=kp hown8;have Hgr8:=kp hgr8;clear hown8 hgr8 x3 hown7m)
       have Hmet8:=kp (show mc _ _ (st5.parts++[(at_,part)])from⟨_,by rw[aE];trivial,by
        rw[Hz,Hnp]
        exact Hat7.o.put Hnm Hfd⟩)
       exact HQd _ _ _ _ _ 0 _ _ (Hadd _ Hgr8 Hmet8) (λi hi=> .inl (HF5 i hi)) o_ (λ_=>by rw[Hnv,if_pos (by rw[<-Hnl];omega),Hpn,Hnl]) (λh=>o_) (.inl rfl)
      .skip
       refine wp_region_noPanic ?_;refine br (t:=99) (S:=(λw'=>(w'.cell? _=some _)/\(w'.cell? _=some _/\w'.cell? _=some _/\w'.cell? _=some _/\w'.cell? _=some _/\w'.cell? _=some _/\w'.cell? _=some _/\w'.cell? _=some _/\w'.cell? _=some _/\w'.cell? _=some _/\w'.cell? _=some _/\w'.cell? _=some _/\w'.cell? _=some _/\w'.cell? _=some _/\w'.cell? _=some _))) k_ ⟨x2,nn0,nn1,nn2,nn3,nn4,nn5,nn6,nn7,nn8,nn9,nn10,nn11,nn12,nn13⟩ (λhHeld=> ?_);refine tD 0 1 2 3 hHeld ?_;refine tk 4 hHeld ?_;refine oT 5 λK hK=>?_
       go_simp
       refine(HA _ bR.drew).mono ?_;rintro e w7⟨_,hno⟩;obtain⟨rfl,hb7⟩:=hno o_;have Hb7:=kp (show Below W6.heap.size _ _ from bR.drew.trans hb7);clear hno hb7;refine oK hK ?_ λhHeld2=>?_
       .exact⟨al Hb7 x2,tH (Hb7.o.block _ HB6.o.lt) ⟨nn0,nn1,nn2,nn3,nn4,nn5,nn6,nn7,nn8,nn9,nn10,nn11,nn12,nn13⟩⟩
       replace hHeld:=hHeld2;clear hK K hHeld2;refine tD 6 7 8 9 hHeld ?_;refine tk 10 hHeld ?_;refine bQ k_ ?_ _
       try clear hHeld
       refine NoPanic.normal ?_;clear x2 nn0 nn1 nn2 nn3 nn4 nn5 nn6 nn7 nn8 nn9 nn10 nn11 nn12 nn13 HA;have Hm7:=kp (Hm6.o.below Hb7);obtain⟨g4,g5⟩:w7.cell? _=some (.int _ _)/\w7.frozen? _=false:=⟨Hm7.o.dy.fm.cell 4,Hm7.o.dy.fm.free 4⟩
       have Hfin:=kp (HQd 0 _ _ _ _ 7 _ _ (Hm7.o.fail hb HF0) HF5 o_ (λh=>o_) (λ_=>by rw[Hnv,if_neg (by rw[<-Hnl];omega)]) (.inr rfl));go_wp2;exact Hfin
end Tc
end Go.Proofs.YtibjlpkpljnicaaGreatDoor
