/- Parts. -/
import Derived.Test.YtibjlpkpljnicaaGreatDoorR13
import Derived.Test.YtibjlpkpljnicaaGreatDoorR17
import Derived.Test.YtibjlpkpljnicaaGreatDoorR21
set_option maxRecDepth 100000
set_option maxHeartbeats 8000000
set_option linter.all false
namespace Go.Proofs.YtibjlpkpljnicaaGreatDoor
namespace Tc
open List Go.RowKit Base Go.Proofs.Tryz
def jT(ps:List (LN×Ag))(i:Nat):Ag:=((ps[i]?).getD ([],az)).2
def cW:Ag->List Ag->Option Ag
 |o,[]=>some o
 |o,a::l=>(aR o a).bind λj=>cW j l
def nJ(ps:List (LN×Ag))(part:LN):Option Ag:=cW az (part.map (jT ps))
def wB{fs i f}(h:fs[i]? = some f):jT (aw fs) i=f.ag:=by
 unfold jT aw;rw[getElem?_map,h];rfl
def vW(a:Ag)(w:World)(e:Ending)(w':World):Prop:=e = .returned (.agg (aA a))/\E w w'
def xq:∀(l:List Ag)(o r:Ag),cB o->(∀a∈l,cB a)->cW o l=some r->cB r
 | [],o,r,c,_,h=>by injection h with h;grind
 |a::l,o,r,c,d,h=>by
  unfold cW at h;rcases b:aR o a with _|j
  .grind
  .rw[b]at h;exact xq l j r (rq c (d a mem_cons_self) b) (λx hx=>d x (mem_cons_of_mem _ hx)) h
def re:cB az:=by
 unfold cB az fit;simp
def Qj gb Af Ap fs cf cp l1 po pm pe part w(hbox:aa w gb 143 #[U Af fs.length cf,l1,po,pm,pe])(hf:bM w w.heap.size Af fs)(hp:Row w w.heap.size Ap (an part))(hn:part.length<=1000000)(hnf:fs.length<=1000000)(hin:∀i∈part,i<fs.length)(hfit:∀f∈fs,cB f.ag) r(hr:nJ (aw fs) part=some r) :
 Calls prog 213 #[Y gb 0,U Ap part.length cp] w (vW r w):=by
 have HJ:=J xt;have HQ:Kp (∀w',E w _->vW r w _ w'):=λw' h=>⟨rfl,h⟩;generalize hQ:vW r w=Q at*;have Hr:Kp (cW _ _=some r):=hr;obtain⟨n,hN⟩:=e_ part.length
 rw[hN]at hn⊢;have HB1:=J ((aa.new w 78 (aA az)).alloc (.cells (aA az) 78));have HB2:=J (aa.lay (w:=w.alloc (.cells (aA az) 78)) (g:=w.heap.size+1) (t:=78) (cs:=aA az) s_);have Hb0:=J (((ah _ w).alloc (ae _) (.cells (aA az) 78)).alloc s_ (.cells (aA az) 78));go_in;go_wp2
 go_loopw [6,12] (λv6 v12 wr=>∃(k:Nat)(o:Ag),k<=n/\v12 = I k/\v6 = .bool true/\aa wr w.heap.size 78 (aA az)/\aa wr (w.heap.size+1) 78 (aA o)/\cB o/\cW o ((part.drop k).map (jT (aw fs)))=some r/\E w wr) (λ_ v12 _=>n-(intOf v12).toNat)
 case atStart=>exact⟨0,_,o_,rfl,rfl,HB1,HB2,re,Hr,Hb0⟩
 .obtain⟨k,o,hk,rfl,rfl,hb1,hb2,ho,hj,(Hbe:Kp _)⟩:=hrel;clear HB1 HB2 Hb0;by_cases hlt:k<n
  .have hkl:k<part.length:=o_
   obtain⟨bp,op,hA,hbp,p0⟩:=Row.at_ (((J hp).below Hbe).more Hbe.size) (by rw[ia];omega);subst hA;unfold an at p0;rw[getElem_map]at p0;have Hdr:=J (show(part.drop k).map _=jT (aw fs) (part[k]'hkl)::(part.drop (k+1)).map _ by rw[drop_eq_getElem_cons];rfl);have hif:=(J hin) _ (gM hkl);generalize(part[k]'hkl)=i at*;have hfs:=((J hf).below Hbe).more Hbe.size;obtain⟨b,off,hA,hb,c0,c1,c2,c3,c4,c5,c6,c7,c8,c9,c10⟩:=hfs.cells i hif;have Hff:=J ((J hfit) _ (gM hif));have Haf:=J (wB (gE hif));generalize(fs[i]'hif)=f at*;have y0:=((J hbox).under Hbe).cell 0;change C _ _ 0 (U _ _ _)at y0;rw[hA]at y0;obtain⟨j,hjo⟩:∃j,aR o f.ag=some j:=by
    have:=hj;rw[Hdr,cW,Haf]at this;rcases h:aR o _ with _|j
    .grind
    simp
   have Hjn:=J (show cW j _=some r by
    have:=hj;rw[Hdr,cW,Haf,hjo]at this
    exact this)
   have Hjf:=J (rq (J ho) Hff hjo);have HJk:=J (λw=>HJ o _ w (J ho) Hff);unfold sq at HJk;rw[hjo]at HJk;simp at HJk;obtain⟨⟨a0,a1,a2,a3,a4,a5,a6,a7,a8,a9⟩,fD⟩:=aa.cr (J hb2);have b0:0<=(k:Int):=o_
   have b1:k<(n:Int):=o_
   have b2:0<=(i:Int):=o_
   have b3:i<(fs.length:Int):=o_
   clear hfs hjo hA;go_upto_region 5 with fail
   apply wp_region_noPanic;refine uG (t:=13) (S:=(λw'=>(gZ w' _ o)/\C w' _ 0 _/\(C w' b _ _/\C w' b _ _/\C w' b _ _/\C w' b _ _/\C w' b _ _/\C w' b _ _/\C w' b _ _/\C w' b _ _/\C w' b _ _/\C w' b _ _))) k_ ⟨⟨a0,a1,a2,a3,a4,a5,a6,a7,a8,a9⟩,y0,c1,c2,c3,c4,c5,c6,c7,c8,c9,c10⟩ (λhHeld=> ?_);apply tu 0 hHeld;apply tu 1 hHeld;apply tu 2 hHeld;apply tu 3 hHeld;apply tu 4 hHeld;apply tu 5 hHeld;apply tu 6 hHeld;apply tu 7 hHeld;apply tu 8 hHeld;refine oU 9 λK hK=>?_
   go_simp
   apply(HJk _).mono;rintro e wc⟨rfl,hbc⟩;have Hbc:Kp (E wr _):=bR.drew.trans hbc;refine oK hK ?_ λhHeld2=>?_
   .exact⟨⟨al Hbc a0,al Hbc a1,al Hbc a2,al Hbc a3,al Hbc a4,al Hbc a5,al Hbc a6,al Hbc a7,al Hbc a8,al Hbc a9⟩,al Hbc y0,al Hbc c1,al Hbc c2,al Hbc c3,al Hbc c4,al Hbc c5,al Hbc c6,al Hbc c7,al Hbc c8,al Hbc c9,al Hbc c10⟩
   replace hHeld:=hHeld2;apply tu 10 hHeld;apply tu 11 hHeld;refine Rl (i:=12) (oi:= ?op12) (v:= ?vp12) ?ap12 k_ k_ k_ k_ (λ_ _ _ h=>h) ?bp12 hHeld ?cp12
   case ap12=>rfl
   case bp12=>(refine Or.inl ⟨o_,?_⟩;intro w _;go_simp;try rfl)
   try simp only[Act.put,setIfInBounds_toArray,set_cons_zero,set_cons_succ]
   have Hb2c:=J ((J hb2).under Hbc);have Hb1c:=J ((J hb1).under Hbc);have Hbec:=J (Hbe.trans (Hbc.mono Hbe.size));obtain⟨⟨a0,a1,a2,a3,a4,a5,a6,a7,a8,a9⟩,fD⟩:=aa.cr Hb2c;refine Rm (o:= ?op13) k_ ?ap13 k_ (λK hK=> ?bp13)
   case ap13=>rfl
   go_simp
   apply hK.out _ _
   refine Rq (i:=14) (oi:= ?op14) (v:= ?vp14) ?ap14 k_ k_ k_ k_ (λ_ _ _ h=>h) ?bp14 ?cp14
   case ap14=>rfl
   case bp14=>(refine Or.inl ⟨o_,?_⟩;intro w _;go_simp;try rfl)
   try simp only[Act.put,setIfInBounds_toArray,set_cons_zero,set_cons_succ]
   refine Rj k_ ?_ _
   try clear hHeld
   apply NoPanic.normal;obtain⟨Wf,hWf⟩:=e_ (aH wc (w.heap.size+1) 0 [.int .i64 j.c,.int .i64 j.s0,.int .i64 j.n0,.int .i64 j.x0,.int .i64 j.s1,.int .i64 j.n1,.int .i64 j.x1,.int .i64 j.s2,.int .i64 j.n2,.int .i64 j.x2])
   have Hfb:=J (show E w Wf by rw[<-hWf];exact fq o_ _ _ _ Hbec);have Hbf:=J (show aa Wf _ _ (aA j) by rw[<-hWf];exact dS Hb2c _ rfl);have Hb1f:=J (show aa Wf _ _ _ by rw[<-hWf];exact(ee o_ _ _ _).trans Hb1c);simp only[aH,Nat.zero_add,Nat.reduceAdd]at hWf;rw[hWf];go_wp2;exact⟨⟨_,j,o_,o_,rfl,Hb1f,Hbf,Hjf,Hjn,Hfb⟩,o_⟩
  .obtain rfl:k=n:=o_
   have hor:o=r:=by
    have:=hj;rw[drop_of_length_le o_]at this;injection this
   subst hor;obtain⟨⟨a0,a1,a2,a3,a4,a5,a6,a7,a8,a9⟩,_⟩:=aa.cr (J hb2);obtain⟨⟨z0,z1,z2,z3,z4,z5,z6,z7,z8,z9⟩,fD⟩:=aa.cr (J hb1);obtain⟨Wf,hWf⟩:=e_ (aH wr w.heap.size 0 [.int .i64 o.c,.int .i64 o.s0,.int .i64 o.n0,.int .i64 o.x0,.int .i64 o.s1,.int .i64 o.n1,.int .i64 o.x1,.int .i64 o.s2,.int .i64 o.n2,.int .i64 o.x2])
   have Hfb:=J (show E w Wf by rw[<-hWf];exact fq o_ _ _ _ Hbe);have Hbf:=J (show aa Wf _ _ (aA o) by rw[<-hWf];exact dS (J hb1) _ rfl);simp only[aH,Nat.zero_add,Nat.reduceAdd]at hWf;have Hfin:=J (HQ _ Hfb);go_wp2;obtain⟨⟨z0,z1,z2,z3,z4,z5,z6,z7,z8,z9⟩,_⟩:=aa.cr Hbf;refine bodyPost_ret (by simp[results,go_sem,z0,z1,z2,z3,z4,z5,z6,z7,z8,z9]) rfl Hfin
structure St where
 nodes:List aQ
 parts:List (Nat×LN)
abbrev Rec:=LN->St->Option (St×Nat)
def mC(ps:List (LN×Ag))(at_ i:Nat):Nat:=((((ps[i]?).getD ([],az)).1)[at_]?).getD 0
def eH(ps:List (LN×Ag))(lift:LN)(at_ i:Nat):Nat:=(lift[mC ps at_ i]?).getD 0
def fK(ps:List (LN×Ag))(f:Option Rec)(key:Nat)(part:LN)(st:St):Option (St×Cl):=
 match f with
 |none=>some (st,⟨key,0,(nJ ps part).getD az⟩)
 |some g=>(g part st).map λr=>(r.1,⟨key,r.2,az⟩)
def iz(ps:List (LN×Ag))(f:Option Rec):List (Nat×LN)->St×List Cl->Option (St×List Cl)
 | [],s=>some s
 |g::gs,s=>(fK ps f g.1 g.2 s.1).bind λr=>iz ps f gs (r.1,s.2++[r.2])
def j5(ps:List (LN×Ag))(f:Option Rec)(at_:Nat)(part:LN):List LN->St×List (List Cl)->Option (St×List (List Cl))
 | [],s=>some s
 |l::ls,s=>(iz ps f (dh (eH ps l at_) part) (s.1,[])).bind λr=>j5 ps f at_ part ls (r.1,s.2++[r.2])
def fr(at_:Nat)(part:LN)(parts:List (Nat×LN)):Option Nat:=parts.findIdx? λx=>x == (at_,part)
def fh(ps:List (LN×Ag))(aL:List (List LN))(most:Nat)(f:Option Rec)(at_:Nat)(part:LN)(st:St):Option (St×Nat):=
 match fr at_ part st.parts with
 |some i=>some (st,i)
 |none=>(j5 ps f at_ part ((aL[at_]?).getD []) (st,[])).bind λr=>(fK ps f 0 part r.1).bind λq=>
  if q.1.nodes.length<most then some (⟨q.1.nodes++[⟨at_,r.2,q.2⟩],q.1.parts++[(at_,part)]⟩,q.1.nodes.length)else none
def visit(ps:List (LN×Ag))(aL:List (List LN))(most nd:Nat):Nat->Rec
 |0=>fh ps aL most none (nd-1)
 |d+1=>fh ps aL most (some (visit ps aL most nd d)) (nd-1-(d+1))
def dE{α β:Type}(R:α->β->Prop)(l:List α)(m:List β):Prop:=l.length=m.length/\∀(i:Nat)(a:α)(b:β),l[i]? = some a->m[i]? = some b->R a b
def dE.nil{α β}(R:α->β->Prop):dE R [] []:=⟨rfl,λi a b h=>o_⟩
def dE.snoc{α β}{R:α->β->Prop}{l m}(h:dE R l m){a:α}{b:β}(d:R a b):dE R (l++[a]) (m++[b]):=by
 refine⟨by rw[aE,aE,h.1];rfl,λi x y hx c=> ?_⟩;by_cases hi:i<l.length
 .rw[getElem?_append_left hi]at hx;rw[getElem?_append_left (by rw[<-h.1];omega)]at c;exact h.2 i x y hx c
 .rw[getElem?_append_right o_]at hx;rw[getElem?_append_right (by rw[<-h.1];omega)]at c;grind
def dE.imp{α β}{R c:α->β->Prop}{l m}(h:dE R l m)(hi:∀a b,R a b->c a b):dE c l m:=⟨h.1,λi a b h1 h2=>hi a b (h.2 i a b h1 h2)⟩
def kq(ps:List (LN×Ag))(last:Bool)(st:St)(at_ key:Nat)(part:LN)(c:Cl):Prop:=
 c.key=key/\if last=true then c.child=0/\c.ag=(nJ ps part).getD az else c.ag=az/\st.parts[c.child]? = some (at_+1,part)
def mf(ps:List (LN×Ag))(last:Bool)(st:St)(at_:Nat)(gs:List (Nat×LN))(l:List Cl):Prop:=dE (λg c=>kq ps last st at_ g.1 g.2 c) gs l
def lE(ps:List (LN×Ag))(last:Bool)(st:St)(at_:Nat)(part:LN)(aL:List LN)(ls:List (List Cl)):Prop:=dE (λlift l=>mf ps last st at_ (dh (eH ps lift at_) part) l) aL ls
structure lF(ps:List (LN×Ag))(aL:List (List LN))(nd:Nat)(st:St)(at_:Nat)(part:LN)(n:aQ):Prop where
 aj:n.aj=at_
 lists:lE ps (decide (at_+1=nd)) st at_ part ((aL[at_]?).getD []) n.lists
 all:kq ps (decide (at_+1=nd)) st at_ 0 part n.all
def Ext(st b:St):Prop:=∃d c,b.nodes=st.nodes++d/\b.parts=st.parts++c
def Ext.refl st:Ext st st:=⟨[],[],s_,s_⟩
def Ext.trans{a b c}(h:Ext a b)(k:Ext b c):Ext a c:=by
 obtain⟨n,f,h1,h2⟩:=h;obtain⟨e,d,g,m⟩:=k;exact⟨n++e,f++d,r_,r_⟩
def Ext.part{a b}(h:Ext a b){i:Nat}{p:Nat×LN}(c:a.parts[i]? = some p):b.parts[i]? = some p:=by
 obtain⟨e,d,h1,h2⟩:=h;grind
def Ext.node{a b}(h:Ext a b){i:Nat}{n}(c:a.nodes[i]? = some n):b.nodes[i]? = some n:=by
 obtain⟨e,d,h1,h2⟩:=h;grind
def kq.ext{ps last st b at_ key part c}(h:kq ps last st at_ key part c)(e:Ext st b):kq ps last b at_ key part c:=by
 refine⟨h.1,?_⟩;have h2:=h.2;split
 .grind
 .rename_i d;rw[if_neg d]at h2;exact⟨h2.1,e.part h2.2⟩
def mf.ext{ps last st b at_ gs l}(h:mf ps last st at_ gs l)(d:Ext st b):mf ps last b at_ gs l:=dE.imp h λ_ _ c=>c.ext d
def lE.ext{ps last st b at_ part aL ls}(h:lE ps last st at_ part aL ls)(d:Ext st b):lE ps last b at_ part aL ls:=dE.imp h λ_ _ c=>mf.ext c d
def lF.ext{ps aL nd st b at_ part n}(h:lF ps aL nd st at_ part n)(c:Ext st b):lF ps aL nd b at_ part n:=⟨h.aj,h.lists.ext c,h.all.ext c⟩
structure fI(ps:List (LN×Ag))(part:LN):Prop where
 ne:part≠[]
 lt:∀i∈part,i<ps.length
 nd:part.Nodup
def fI.group{ps part}(h:fI ps part){key}{g:Nat×LN}(c:g∈dh key part):fI ps g.2:=by
 obtain⟨h1,h2,b⟩:=o9.1 c;refine⟨b,λi hi=>h.lt i ?_,?_⟩
 .rw[h2]at hi;exact(mem_filter.1 hi).1
 .rw[h2];exact List.Pairwise.filter _ h.nd
def cR(n:aQ):List Cl:=n.lists.flatten++[n.all]
structure Good(ps:List (LN×Ag))(aL:List (List LN))(nd:Nat)(st:St):Prop where
 len:st.parts.length=st.nodes.length
 rep:∀(i:Nat)(n:aQ)(p:Nat×LN),st.nodes[i]? = some n->st.parts[i]? = some p->lF ps aL nd st p.1 p.2 n
 part:∀(i:Nat)(p:Nat×LN),st.parts[i]? = some p->p.1<nd/\fI ps p.2
 back:∀(i:Nat)(n:aQ),st.nodes[i]? = some n->n.aj+1≠nd->∀c∈cR n,c.child<i
def Good.nil ps aL nd:Good ps aL nd ⟨[],[]⟩:=⟨rfl,(λi n p h=>o_),(λi p h=>r_),(λi n h=>r_)⟩
def vH(ps:List (LN×Ag))(aL:List (List LN))(nd at_:Nat)(f:Rec):Prop:=∀part st r,f part st=some r->Good ps aL nd st->fI ps part->Good ps aL nd r.1/\Ext st r.1/\r.1.parts[r.2]? = some (at_,part)
section
variable{ps:List (LN×Ag)}{aL:List (List LN)}{nd at_:Nat}{f:Option Rec}
def nO(ps:List (LN×Ag))(aL:List (List LN))(nd at_:Nat)(f:Option Rec):Prop:=match f with
 |none=>at_+1=nd
 |some g=>at_+1<nd/\vH ps aL nd (at_+1) g
def sT(b:nO ps aL nd at_ f){key part st}{r:St×Cl}(h:fK ps f key part st=some r)(c:Good ps aL nd st)(m:fI ps part) :
 Good ps aL nd r.1/\Ext st r.1/\kq ps (decide (at_+1=nd)) r.1 at_ key part r.2:=by
 unfold fK at h;unfold nO at b;split at h
 .injection h with h;subst h;refine⟨c,Ext.refl _,rfl,?_⟩;grind
 .rename_i g;dsimp only at b;obtain⟨q,d,rfl⟩:=Option.map_eq_some_iff.1 h;obtain⟨h1,h2,e⟩:=b.2 _ _ q d c m;refine⟨h1,h2,rfl,?_⟩;grind
def DY(m:nO ps aL nd at_ f):∀(gs pre:List (Nat×LN))(s r:St×List Cl),iz ps f gs s=some r->Good ps aL nd s.1->(∀g∈gs,fI ps g.2)->mf ps (decide (at_+1=nd)) s.1 at_ pre s.2 ->
 Good ps aL nd r.1/\Ext s.1 r.1/\mf ps (decide (at_+1=nd)) r.1 at_ (pre++gs) r.2
 | [],pre,s,r,h,c,_,b=>by
  injection h with h
  subst h;rw[append_nil];exact⟨c,Ext.refl _,b⟩
 |g::gs,pre,s,r,h,c,d,b=>by
  unfold iz at h;obtain⟨q,n,h⟩:=Option.bind_eq_some_iff.1 h;obtain⟨h1,h2,u⟩:=sT m n c (d g mem_cons_self);obtain⟨p,v,e⟩:=DY m _ _ _ r h h1 (λx hx=>d x (mem_cons_of_mem _ hx)) (dE.snoc (mf.ext b h2) u);refine⟨p,h2.trans v,?_⟩;grind
def xL(n:nO ps aL nd at_ f){part}(e:fI ps part):∀(ls pre:List LN)(s r:St×List (List Cl)),j5 ps f at_ part ls s=some r->Good ps aL nd s.1->lE ps (decide (at_+1=nd)) s.1 at_ part pre s.2 ->
 Good ps aL nd r.1/\Ext s.1 r.1/\lE ps (decide (at_+1=nd)) r.1 at_ part (pre++ls) r.2
 | [],pre,s,r,h,d,c=>by
  injection h with h
  subst h;rw[append_nil];exact⟨d,Ext.refl _,c⟩
 |l::ls,pre,s,r,h,d,c=>by
  unfold j5 at h;obtain⟨q,p,h⟩:=Option.bind_eq_some_iff.1 h;obtain⟨h1,h2,v⟩:=DY n _ _ _ _ p d (λg b=>e.group b) (dE.nil _);obtain⟨u,x,m⟩:=xL n e _ _ _ r h h1 (dE.snoc (lE.ext c h2) v);refine⟨u,h2.trans x,?_⟩;grind
def IZ{part parts i}(h:fr at_ part parts=some i):parts[i]? = some (at_,part):=by
 unfold fr at h;obtain⟨hi,h1,_⟩:=findIdx?_eq_some_iff_getElem.1 h;grind
def Cr{ls:List (List Cl)}{c:Cl}(h:c∈ls.flatten):∃(k:Nat)(l:List Cl)(i:Nat),ls[k]? = some l/\l[i]? = some c:=by
 obtain⟨l,b,d⟩:=mem_flatten.1 h;obtain⟨k,hk,rfl⟩:=getElem_of_mem b;obtain⟨i,hi,rfl⟩:=getElem_of_mem d;exact⟨k,_,i,gE hk,gE hi⟩
def dE.left{α β:Type}{R:α->β->Prop}{l:List α}{m:List β}(h:dE R l m){i:Nat}{b:β}(c:m[i]? = some b):∃a,l[i]? = some a/\R a b:=by
 have hi:i<l.length:=by rw[h.1];grind
 exact⟨_,gE hi,h.2 i _ b (gE hi) c⟩
def dE.right{α β:Type}{R:α->β->Prop}{l:List α}{m:List β}(h:dE R l m){i:Nat}{a:α}(c:l[i]? = some a):∃b,m[i]? = some b/\R a b:=by
 have hi:i<m.length:=by rw[<-h.1];grind
 exact⟨_,gE hi,h.2 i a _ c (gE hi)⟩
def lF.lead{st part n}(h:lF ps aL nd st at_ part n)(f:at_+1≠nd){c}(d:c∈cR n):∃q,st.parts[c.child]? = some (at_+1,q):=by
 have hd:=decide_eq_false f;obtain d|d:=mem_append.1 d
 .obtain⟨k,l,i,h1,h2⟩:=Cr d;have b:=h.lists;rw[hd]at b;obtain⟨lift,_,e⟩:=dE.left b h1;obtain⟨g,_,e⟩:=dE.left e h2;exact⟨_,e.2.2⟩
 .rw[mem_singleton.1 d];have b:=h.all;rw[hd]at b;exact⟨_,b.2.2⟩
def CN{most}(g:nO ps aL nd at_ f):vH ps aL nd at_ (fh ps aL most f at_):=by
 intro part st r h z m;have s:at_<nd:=by
  unfold nO at g;split at g<;>omega
 unfold fh at h;split at h
 .rename_i i hi;injection h with h;subst h;exact⟨z,Ext.refl _,IZ hi⟩
 .obtain⟨q,C,h⟩:=Option.bind_eq_some_iff.1 h;obtain⟨x,hx,h⟩:=Option.bind_eq_some_iff.1 h;split at h
  .injection h with h;subst h;obtain⟨h1,h2,D⟩:=xL g m _ _ _ _ C z (dE.nil _);obtain⟨e,A,E⟩:=sT g hx h1 m;have v:Ext _ ⟨x.1.nodes++[⟨at_,q.2,x.2⟩],x.1.parts++[(at_,part)]⟩:=⟨_,_,rfl,rfl⟩;have B:lF _ _ _ _ at_ _ ⟨_,q.2,x.2⟩:=⟨rfl,D.ext A,E⟩;refine⟨⟨by simp[e.len],λi n p d b=> ?_,λi p b=> ?_,λi n d y=> ?_⟩,h2.trans (A.trans v),?_⟩
   .dsimp only at d b;by_cases hi:i<x.1.nodes.length
    .rw[getElem?_append_left hi]at d;rw[getElem?_append_left (by rw[e.len];omega)]at b;exact(e.rep i n p d b).ext v
    .rw[getElem?_append_right o_]at d;rw[getElem?_append_right (by rw[e.len];omega),e.len]at b;have h0:i-x.1.nodes.length=0:=r_
     rw[h0]at d b;injection d with d;injection b with b;subst d b;exact B.ext v
   .dsimp only at b;by_cases hi:i<x.1.parts.length
    .rw[getElem?_append_left hi]at b;exact e.part i p b
    grind
   .dsimp only at d;by_cases hi:i<x.1.nodes.length
    .rw[getElem?_append_left hi]at d;exact e.back i n d y
    .rw[getElem?_append_right o_]at d;have h0:i-x.1.nodes.length=0:=r_
     rw[h0]at d;injection d with d;subst d;intro c F;obtain⟨G,u⟩:=B.lead y F;have:=(aO u).1;rw[e.len]at this;omega
   .dsimp only;rw[<-e.len,getElem?_append_right o_];simp
  .cases h
end
def za{ps aL most nd}:∀{d:Nat},d<nd->vH ps aL nd (nd-1-d) (visit ps aL most nd d)
 |0,h=>CN (f:=none) (show nd-1+1=nd by omega)
 |d+1,h=>by
  refine CN ⟨o_,?_⟩;have e:nd-1-(d+1)+1=nd-1-d:=o_;rw[e];exact za o_
def ov:∀(b l:LN),b.Nodup->(∀x∈b,x∈l)->b.length<=l.length
 | [],l,_,_=>av _
 |x::b,l,h,d=>by
  have hx:=d x mem_cons_self;have h1:=(nodup_cons.1 h).1;have:=ov b (l.erase x) (nodup_cons.1 h).2 (λy c=>r_)
  grind
def xi key part:((dh key part).map Prod.fst).Nodup:=by
 rw[nodup_iff_pairwise_ne,pairwise_map];exact(ri _ _).imp λh e=>o_
def Bx{key part i}(hi:i∈part)(hk:key i<200):(key i,gi key part (key i))∈dh key part:=by
 refine o9.2 ⟨hk,rfl,λh=> ?_⟩;have:i∈gi key _ (key i):=mem_filter.2 ⟨hi,s_⟩;grind
def Bw{key part}{g:Nat×LN}(d:g∈dh key part):∃i∈part,key i=g.1:=by
 obtain⟨h1,h2,c⟩:=o9.1 d;obtain⟨i,hi⟩:=exists_mem_of_ne_nil _ c;rw[h2]at hi;obtain⟨b,e⟩:=mem_filter.1 hi;grind
def Jt{key b part}(d:∀i∈part,key i<200)(m:∀i∈part,∀j∈part,key i=key j->b i=b j):(dh b part).length<=(dh key part).length:=by
 classical
 have h:=ov _ (((dh _ _).map Prod.fst).map λy=>if h:∃i∈part,key i=y then b h.choose else 0) (xi b _) (λx hx=>by
  obtain⟨g,f,rfl⟩:=mem_map.1 hx;obtain⟨i,hi,e⟩:=Bw f;refine mem_map.2 ⟨key i,mem_map.2 ⟨_,Bx hi (d i hi),rfl⟩,?_⟩;have c:∃j∈part,key j=key i:=⟨i,hi,rfl⟩
  grind)
 grind
structure lv(ps:List (LN×Ag))(aL:List (List LN))(X:List LN)(m:Nat):Prop where
 n1:1<=X.length
 n16:X.length<=16
 len:aL.length=X.length
 m1:1<=m
 m3:m<=3
 rF:ps.length<=1000
 ai:∀(a:Nat)(ls:List LN)(x:LN),aL[a]? = some ls->X[a]? = some x->ls.length=x.length/\1<=x.length/\x.length<=4
 small:∀(a:Nat)(x:LN),X[a]? = some x->∀y∈x,y<=200
 lift:∀(a:Nat)(ls:List LN)(x:LN)(k:Nat)(l:LN)(y y0:Nat),aL[a]? = some ls->X[a]? = some x->ls[k]? = some l->x[k]? = some y->x[0]? = some y0->l.length<=1000/\∀q,q<y0->∃z,l[q]? = some z/\z<y
 keys:∀(i:Nat)(p:LN×Ag),ps[i]? = some p->p.1.length=X.length/\∀(a q:Nat)(x:LN),p.1[a]? = some q->X[a]? = some x->∃y0,x[0]? = some y0/\q<y0
 pI:∀(a:Nat)(ls:List LN)(k:Nat)(l l':LN)(q q' z:Nat),aL[a]? = some ls->ls[k]? = some l->ls[k+1]? = some l'->l[q]? = some z->l[q']? = some z->l'[q]? = l'[q']?
 yT:∀part,fI ps part->∃r,nJ ps part=some r/\eS m r
section
variable{ps:List (LN×Ag)}{aL:List (List LN)}{X:List LN}{m:Nat}
def lv.aj(h:lv ps aL X m){a:Nat}(b:a<X.length):∃ls x,aL[a]? = some ls/\X[a]? = some x:=
 ⟨_,_,gE (by rw[h.len];omega),gE b⟩
def lv.key(h:lv ps aL X m){a i k:Nat}{ls:List LN}{x l:LN}{y:Nat}(hi:i<ps.length)(h1:aL[a]? = some ls)(h2:X[a]? = some x)(f:ls[k]? = some l)(r:x[k]? = some y) :
 ∃p q z,ps[i]? = some p/\p.1[a]? = some q/\mC ps a i=q/\l[q]? = some z/\eH ps l a i=z/\z<y:=by
 have c:=gE hi;obtain⟨A,s⟩:=h.keys i _ c;have B:=(aO h2).1;have b:ps[i].1[a]? = some (ps[i].1[a]'o_):=o_;obtain⟨g,n,u⟩:=s a _ x b h2;obtain⟨z,e,v⟩:=(h.lift a _ x k l y g h1 h2 f r n).2 _ u;have d:mC ps a i=ps[i].1[a]'o_:=by
  unfold mC;rw[c];simp;rw[b];rfl
 refine⟨_,_,z,c,b,d,e,?_,v⟩;unfold eH;rw[d,e];rfl
def lv.cU(h:lv ps aL X m){a k:Nat}{ls:List LN}{x l:LN}(h1:aL[a]? = some ls)(h2:X[a]? = some x)(b:ls[k]? = some l):∃y,x[k]? = some y/\y<=200:=by
 have hk:k<x.length:=by
  have c:=(aO b).1;have d:=(h.ai a _ x h1 h2).1;omega
 exact⟨_,gE hk,h.small a x h2 _ (gM hk)⟩
def AF(h:lv ps aL X m){a:Nat}{part:LN}{ls:List LN}{x:LN}(h1:aL[a]? = some ls)(h2:X[a]? = some x)(A:fI ps part){st:St}(a6:st.parts.length<=1000000){J:List (List Cl)}{all:Cl}
 (I:lE ps (decide (a+1=X.length)) st a part ls J)(Z:kq ps (decide (a+1=X.length)) st a 0 part all):im (decide (a+1=X.length)) x m ⟨a,J,all⟩/\∀l∈J,l.length<=200:=by
 obtain⟨t1,t2,u⟩:=h.ai a _ x h1 h2;have W:J.length=x.length:=by rw[<-I.1];omega
 have v:∀{key}{pt}{c},fI ps pt->kq ps (decide (a+1=X.length)) st a key pt c->kj (decide (a+1=X.length)) m c/\c.child<=2000000:=by
  intro key pt c V s;have G:=s.2;unfold kj;split at G
  .rename_i hd;rw[if_pos hd];obtain⟨r,R,U⟩:=h.yT _ V;grind
  .grind
 have M:∀{k:Nat}{l},ls[k]? = some l->∀i∈part,eH ps l a i<200:=by
  intro k l hk i hi;obtain⟨y,C,u⟩:=h.cU h1 h2 hk;obtain⟨p,q,z,_,_,_,_,e,O⟩:=h.key (A.lt i hi) h1 h2 hk C;omega
 have f:∀{k:Nat}{l}{c},ls[k]? = some l->J[k]? = some c->c.length=(dh _ _).length:=λhk s=>(I.2 _ _ _ hk s).1.symm;have L:∀key:Nat->Nat,(dh key part).length<=200:=by
  intro key;have:=ov _ _ (xi key part) (λx hx=>by
   obtain⟨g,H,rfl⟩:=mem_map.1 hx;exact mem_range.2 (o9.1 H).1)
  grind
 have u:∀l∈J,l.length<=200:=by
  intro l D;obtain⟨k,hk,rfl⟩:=getElem_of_mem D;obtain⟨lift,n,G⟩:=dE.left I (gE hk);rw[f n (gE hk)];exact L _
 refine⟨⟨W,o_,o_,λl D=>r_,λy C=>by have:=h.small a x h2 y C;omega,λk l y hk C=> ?_,λk l D hk E=> ?_,Z.1,(v A Z).2,(v A Z).1⟩,u⟩
 .dsimp only at hk;obtain⟨lift,n,G⟩:=dE.left I hk;have H:∀(i:Nat) c,l[i]? = some c->∃g,(dh _ _)[i]? = some g/\kq _ _ _ a _ _ c:=λi c s=>dE.left G s;refine⟨?_,λc s=> ?_,λc s=> ?_,λc s=> ?_,λi hi=> ?_⟩
  .obtain⟨i,hi⟩:=exists_mem_of_ne_nil _ A.ne;have:=length_pos_of_mem (Bx hi (M n i hi));grind
  .obtain⟨i,hi,rfl⟩:=getElem_of_mem s;obtain⟨g,b,d⟩:=H i _ (gE hi);obtain⟨j,u,e⟩:=Bw (mem_of_getElem? b);obtain⟨p,q,z,_,_,_,_,Y,O⟩:=h.key (A.lt j u) h1 h2 n C;rw[d.1,<-e,Y];omega
  .obtain⟨i,hi,rfl⟩:=getElem_of_mem s;obtain⟨g,b,d⟩:=H i _ (gE hi);exact(v (A.group (mem_of_getElem? b)) d).2
  .obtain⟨i,hi,rfl⟩:=getElem_of_mem s;obtain⟨g,b,d⟩:=H i _ (gE hi);exact(v (A.group (mem_of_getElem? b)) d).1
  .obtain⟨g,b,d⟩:=H i _ (gE o_);obtain⟨D,B,N⟩:=H _ _ (gE hi);rw[d.1,N.1];have R:=pairwise_iff_getElem.1 (ri _ _) i _ (aO b).1 (aO B).1 o_;grind
 .dsimp only at hk E;obtain⟨lift,n,_⟩:=dE.left I hk;obtain⟨F,O,_⟩:=dE.left I E;rw[f n hk,f O E];refine Jt (M n) (λi hi j u e=> ?_);obtain⟨y,C,_⟩:=h.cU h1 h2 n;obtain⟨_,q,z,_,_,E,Y,L,_⟩:=h.key (A.lt i hi) h1 h2 n C;obtain⟨_,y,D,_,_,G,D,T,_⟩:=h.key (A.lt j u) h1 h2 n C;rw[L,T]at e;subst e;unfold eH;rw[E,G,h.pI a _ k _ F q y z h1 n O Y D]
end
def Oa(a b:Ag)(w:World)(ha:cB a)(hb:cB b)(hs:nK a b) :
 Calls prog 102 #[.agg (aA a),.agg (aA b)] w λe w'=>e = .returned (.tuple #[.agg (aA ((aR a b).getD az)),.bool true])/\Below w.heap.size w w':=by
 have HA:=kp (λw=>DM _ _ w ha.1 hb.1);have HP:=kp (λk w=>DM _ _ w (ha.ps k) (hb.ps k));have HQ:Kp (∀ j,aR a b=some j->∀w',Below _ w _->(λ(e:Ending) w'=>e = .returned (.tuple #[.agg (aA ((aR a b).getD az)),.bool true])/\Below w.heap.size w w') (.returned (.tuple #[.agg (aA j),.bool true])) w'):=λj y w' h=>⟨r_,h⟩;generalize(λ(e:Ending) w'=>e = .returned _/\Below _ w _)=Q at*;have V:=(ah _ w).alloc (ae _) (.cells (aA a) 78);have T:=V.alloc s_ (.cells (aA b) 78);have d2:=T.alloc o_ (.cells zA 78);obtain⟨n,q,f⟩:=j3_ (((aa.new w 78 (aA a)).alloc (.cells (aA b) 78)).alloc (.cells zA 78)) ((aa.lay (w:=w.alloc (.cells (aA a) 78)) (g:=w.heap.size+1) (t:=78) (cs:=aA b) s_).alloc (.cells zA 78)) (aa.lay (w:=(w.alloc (.cells (aA a) 78)).alloc (.cells (aA b) 78)) (g:=w.heap.size+1+1) (t:=78) (cs:=zA) s_);have R:(((w.alloc (.cells (aA a) 78)).alloc (.cells (aA b) 78)).alloc (.cells zA 78)).heap.size=w.heap.size+1+1+1:=s_
 have u:=kp d2;clear ha hb V T d2;dsimp only[aA]at n q f u R HQ⊢;generalize e7:((w.alloc (.cells #[.int _ _,.int _ _,.int _ _,.int _ _,.int _ _,.int _ _,.int _ _,.int _ _,.int _ _,.int _ _] _)).alloc (.cells #[.int _ _,.int _ _,.int _ _,.int _ _,.int _ _,.int _ _,.int _ _,.int _ _,.int _ _,.int _ _] _)).alloc _=B at*;have O:=kp R;obtain⟨a0,a1,a2,a3,a4,a5,a6,a7,a8,a9⟩:=(aa.cr n).1;obtain⟨b0,b1,b2,b3,b4,b5,b6,b7,b8,b9⟩:=(aa.cr q).1;by_cases h0:a.c=0
 .have y:aR a b=some b:=if_pos h0;have q0:(a.c == 0)=true:=o_
  clear HA HP h0 hs;have s:Kp (aa _ _ _ _):=dS f [.int .i64 b.c,.int .i64 b.s0,.int .i64 b.n0,.int .i64 b.x0,.int .i64 b.s1,.int .i64 b.n1,.int .i64 b.x1,.int .i64 b.s2,.int .i64 b.n2,.int .i64 b.x2] rfl;have m:Kp (Q (.returned (.tuple #[.agg #[.int _ _,.int _ _,.int _ _,.int _ _,.int _ _,.int _ _,.int _ _,.int _ _,.int _ _,.int _ _],.bool _])) _):=(HQ b y) _ (fq (Nat.le_succ_of_le (Nat.le_succ _)) [.int .i64 b.c,.int .i64 b.s0,.int .i64 b.n0,.int .i64 b.x0,.int .i64 b.s1,.int .i64 b.n1,.int .i64 b.x1,.int .i64 b.s2,.int .i64 b.n2,.int .i64 b.x2] B 0 u);obtain⟨uD,⟨v0,v1,v2,v3,v4,v5,v6,v7,v8,H⟩⟩:=aa.cr f;generalize r:aH B _ 0 _=Wr at*;simp only[aH,Nat.zero_add,Nat.reduceAdd]at r;obtain⟨t0,t1,t2,t3,W,X,N,t7,Z,L⟩:=(aa.cr s).1;clear y;go_in;go_wp2;refine bodyPost_ret ?_ rfl m;simp[results,go_sem,t0,t1,t2,t3,W,X,N,t7,Z,L]
 have q0:(a.c == 0)=false:=o_
 by_cases h1:b.c=0
 .have y:aR a b=some a:=by unfold aR;grind
  have q1:(b.c == 0)=true:=o_
  clear HA HP h0 h1 hs;have s:Kp (aa _ _ _ _):=dS f [.int .i64 a.c,.int .i64 a.s0,.int .i64 a.n0,.int .i64 a.x0,.int .i64 a.s1,.int .i64 a.n1,.int .i64 a.x1,.int .i64 a.s2,.int .i64 a.n2,.int .i64 a.x2] rfl;have m:Kp (Q (.returned (.tuple #[.agg #[.int _ _,.int _ _,.int _ _,.int _ _,.int _ _,.int _ _,.int _ _,.int _ _,.int _ _,.int _ _],.bool _])) _):=(HQ a y) _ (fq (Nat.le_succ_of_le (Nat.le_succ _)) [.int .i64 a.c,.int .i64 a.s0,.int .i64 a.n0,.int .i64 a.x0,.int .i64 a.s1,.int .i64 a.n1,.int .i64 a.x1,.int .i64 a.s2,.int .i64 a.n2,.int .i64 a.x2] B 0 u);obtain⟨uD,⟨v0,v1,v2,v3,v4,v5,v6,v7,v8,H⟩⟩:=aa.cr f;generalize r:aH B _ 0 _=Wr at*;simp only[aH,Nat.zero_add,Nat.reduceAdd]at r;obtain⟨t0,t1,t2,t3,W,X,N,t7,Z,L⟩:=(aa.cr s).1;clear y;go_in;go_wp2;refine bodyPost_ret ?_ rfl m;simp[results,go_sem,t0,t1,t2,t3,W,X,N,t7,Z,L]
 have q1:(b.c == 0)=false:=o_
 have y:aR a b=some (ju a b):=by unfold aR;grind
 have V:=kp hs;clear h0 h1 hs;have G:=kp (HA B);rw[pz V.1,pJ V.1]at G;have c7:=u.o.alloc o_ (.cells (aA (aP a b 0)) 78);have M:Kp (aa _ _ 78 (aA (aP a b 0))):=aa.lay o_;obtain⟨A,D,E,Y⟩:=j4_ (n.o.alloc (.cells (aA (aP a b 0)) 78)) (q.o.alloc (.cells (aA (aP a b 0)) 78)) (f.o.alloc (.cells (aA (aP a b 0)) 78)) c7;clear c7;go_in;go_wp2_with fail;apply G.o.mono;rintro e w'⟨rfl,rfl⟩;go_wp2;go_loopw [9] (λH wr=>∃k:Nat,k<=3/\H = .int .i64 k/\aa wr w.heap.size 78 (aA a)/\aa wr (w.heap.size+1) 78 (aA b)/\aa wr (w.heap.size+1+1) 78 zA/\aa wr (w.heap.size+1+1+1) 78 (aA (aP a b k))/\Below w.heap.size w wr) (λH _=>3-(intOf H).toNat)
 case atStart=>exact⟨0,o_,rfl,A,D,E,M,Y⟩
 .clear A D E M Y n q f u HA G e7 a0 a1 a2 a3 a4 a5 a6 a7 a8 a9 b0 b1 b2 b3 b4 b5 b6 b7 b8 b9 q0 q1;obtain⟨k,hk,rfl,D,I,c3,d4,u⟩:=hrel;obtain⟨n,q,f,z,J⟩:=j5_ D I c3 d4 u;clear D I c3 d4 u;by_cases x:k<3
  .obtain⟨⟨a0,a1,a2⟩,_⟩:=aa.part n x;obtain⟨⟨b0,b1,b2⟩,_⟩:=aa.part q x;obtain⟨_,⟨u,f1,u⟩⟩:=aa.part z x;have u:0<=(k:Int):=o_
   have u:(k:Int)<3:=o_
   have F:fit (ps a k+ps b k):=by
    match k,x with
    |0,_=>exact V.2.1
    |1,_=>exact V.2.2.1
    |2,_=>exact V.2.2.2
   have u:=kp (HP k);rw[pz F,pJ F]at u;have G:=kp (aa.Dl z x);clear HP F;generalize ps a k=s1 at*;generalize ps b k=s2 at*;generalize pn a k=n1 at*;generalize px a k=x1 at*;generalize pn b k=n2 at*;generalize px b k=x2 at*;go_upto_region 12 with fail;apply wp_region_noPanic;refine br (t:=99) (S:=(λw'=>w'.cell? _=some (.int _ _)/\w'.cell? _=some (.int _ _))) k_ ⟨a0,b0⟩ (λd=> ?_);apply tD 0 1 2 3 d;apply tD 4 5 6 7 d;apply tB 8 9 d;refine oT 10 λK hK=>?_;go_simp;apply(u _).mono;rintro e u⟨rfl,rfl⟩;refine oK hK ?_ λd=>?_
   .omega
   apply tD 11 12 13 14 d;apply tk 15 d;refine bQ k_ ?_ _;try clear d
   apply NoPanic.normal;go_upto_region 15 with fail;apply wp_region_noPanic;refine uG (t:=27) (S:=(λw'=>(w'.cell? _=some (.int _ _)/\w'.cell? _=some (.int _ _))/\(w'.cell? _=some (.int _ _)/\w'.cell? _=some (.int _ _)))) k_ ⟨⟨a1,a2⟩,b1,b2⟩ (λd=> ?_);apply tu 0 d;apply tu 1 d;apply tu 2 d;apply tu 3 d;apply tu 4 d;apply tu 5 d;apply tu 6 d;apply tu 7 d;apply tu 8 d;apply tu 9 d;apply tu 10 d;apply tu 11 d;apply tu 12 d;apply tu 13 d;apply tu 14 d;apply tu 15 d;apply tu 16 d;apply tu 17 d;apply tu 18 d;apply tu 19 d;apply tu 20 d;apply tu 21 d;apply tu 22 d;apply tu 23 d;apply tu 24 d;apply tu 25 d;apply tu 26 d;refine zg (o:= ?oq27) k_ ?aq27 ⟨k_,k_⟩ (λK hK=> ?bq27)
   case aq27=>rfl
   obtain⟨⟨u,_⟩,_⟩:=d;go_simp;apply hK.out _ _;clear hK K;apply NoPanic.normal
   have D:(if n2<n1 then n2 else n1)=min n1 n2:=o_
   have u:(if x2>x1 then x2 else x1)=max x1 x2:=o_
   try simp only[D,u]
   clear D u;obtain⟨U,u,d1,d5⟩:=j4_ (((n.o.drew.drew.aJ (p:=⟨(w.heap.size+1+1+1),1+k*3,none⟩) o_ (.int .i64 (s1+s2))).aJ (p:=⟨(w.heap.size+1+1+1),1+k*3+1,none⟩) o_ (.int .i64 (min n1 n2))).aJ (p:=⟨(w.heap.size+1+1+1),1+k*3+2,none⟩) o_ (.int .i64 (max x1 x2))) (((q.o.drew.drew.aJ (p:=⟨(w.heap.size+1+1+1),1+k*3,none⟩) o_ (.int .i64 (s1+s2))).aJ (p:=⟨(w.heap.size+1+1+1),1+k*3+1,none⟩) o_ (.int .i64 (min n1 n2))).aJ (p:=⟨(w.heap.size+1+1+1),1+k*3+2,none⟩) o_ (.int .i64 (max x1 x2))) (((f.o.drew.drew.aJ (p:=⟨(w.heap.size+1+1+1),1+k*3,none⟩) o_ (.int .i64 (s1+s2))).aJ (p:=⟨(w.heap.size+1+1+1),1+k*3+1,none⟩) o_ (.int .i64 (min n1 n2))).aJ (p:=⟨(w.heap.size+1+1+1),1+k*3+2,none⟩) o_ (.int .i64 (max x1 x2))) (((J.o.drew.drew.setCell (p:=⟨(w.heap.size+1+1+1),1+k*3,none⟩) o_ (.int .i64 (s1+s2))).setCell (p:=⟨(w.heap.size+1+1+1),1+k*3+1,none⟩) o_ (.int .i64 (min n1 n2))).setCell (p:=⟨(w.heap.size+1+1+1),1+k*3+2,none⟩) o_ (.int .i64 (max x1 x2)));go_wp2;refine⟨⟨_,o_,o_,U,u,d1,G,d5⟩,o_⟩
  .obtain rfl:k=3:=o_
   have u:=(aa.cr z).1;have s:Kp (aa _ _ _ _):=dS f [.int .i64 (aP a b 3).c,.int .i64 (aP a b 3).s0,.int .i64 (aP a b 3).n0,.int .i64 (aP a b 3).x0,.int .i64 (aP a b 3).s1,.int .i64 (aP a b 3).n1,.int .i64 (aP a b 3).x1,.int .i64 (aP a b 3).s2,.int .i64 (aP a b 3).n2,.int .i64 (aP a b 3).x2] rfl;have m:Kp (Q (.returned (.tuple #[.agg #[.int _ _,.int _ _,.int _ _,.int _ _,.int _ _,.int _ _,.int _ _,.int _ _,.int _ _,.int _ _],.bool _])) _):=(HQ (aP a b 3) (by rw[BW];omega)) _ (fq (Nat.le_succ_of_le (Nat.le_succ _)) [.int .i64 (aP a b 3).c,.int .i64 (aP a b 3).s0,.int .i64 (aP a b 3).n0,.int .i64 (aP a b 3).x0,.int .i64 (aP a b 3).s1,.int .i64 (aP a b 3).n1,.int .i64 (aP a b 3).x1,.int .i64 (aP a b 3).s2,.int .i64 (aP a b 3).n2,.int .i64 (aP a b 3).x2] _ 0 J);obtain⟨uD,⟨v0,v1,v2,v3,v4,v5,v6,v7,v8,H⟩⟩:=aa.cr f;generalize r:aH _ _ 0 _=Wr at*;simp only[aH,Nat.zero_add,Nat.reduceAdd]at r;obtain⟨t0,t1,t2,t3,W,X,N,t7,Z,L⟩:=(aa.cr s).1;clear y;go_wp2;refine bodyPost_ret ?_ rfl m;simp[results,go_sem,t0,t1,t2,t3,W,X,N,t7,Z,L]
end Tc
end Go.Proofs.YtibjlpkpljnicaaGreatDoor
