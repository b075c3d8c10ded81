/- Parts of a proof. -/
import Derived.Test.YtjopcamkclndlaaGreatH012
import Derived.DeepKeys4
set_option linter.unusedVariables false
set_option linter.unusedSimpArgs false
set_option maxRecDepth 100000
set_option maxHeartbeats 8000000
namespace Go.Proofs.YtjopcamkclndlaaGreat.Tc
open List Go.RowKit Base
abbrev gJ:=LN->Bool
def cK (fs:List Fa) (K:gJ):LN:=(range fs.length).filter fun i=>K (ei fs i)
def rN (d:cR) (a t k:Nat) (K:gJ):gJ:=fun keys=>K keys&&(iQ d t ((keys[a]?).getD 0) == k)
theorem xq {fs:List Fa} {K:gJ} {i:Nat}:i∈cK fs K↔i<fs.length/\K (ei fs i)=true:=by
 unfold cK;rw [mem_filter,mem_range]
theorem EG (fs:List Fa):cK fs (fun _=>true)=range fs.length:=filter_eq_self.2 (fun _ _=>rfl)
theorem XG {fs:List Fa} {d:cR} {a t k:Nat} {K:gJ} (h:cK fs (rN d a t k K)≠[]):cK fs K≠[]:=by
 obtain ⟨i,hi⟩:=exists_mem_of_ne_nil _ h;obtain ⟨h1,h2⟩:=xq.1 hi;exact ne_nil_of_mem (xq.2 ⟨h1,(Bool.and_eq_true _ _▸h2).1⟩)
section
variable {s:aW} {fs:List Fa} {st:St}
theorem aaV (hs:dO s) (hf:gK s fs) {a:Nat} {d:cR} (hd:s.ak[a]? = some d) (t k:Nat) (K:gJ):ia (fP (aG fs) (fq d t) a) (cK fs K) k=cK fs (rN d a t k K):=by
 unfold ia cK;rw [filter_filter];refine filter_congr (fun i hi => ?_);rw [EX hs hf (mem_range.1 hi) hd t,Bool.and_comm];rfl
theorem Mp (hs:dO s) (hf:gK s fs) {a:Nat} {d:cR} (hd:s.ak[a]? = some d) (t:Nat) (K:gJ):eu (fP (aG fs) (fq d t) a) (cK fs K)=(range 200).filterMap fun k=>if cK fs (rN d a t k K)=[] then none else some (k,cK fs (rN d a t k K)):=by
 unfold eu;simp only [aaV hs hf hd]
theorem map_take (ps:List (LN×Ag)) (K:gJ):∀n,n<=ps.length->((range n).filter fun i=>K ((ps[i]?).getD ([],aO)).1).map (mS ps)=((ps.take n).filter fun x=>K x.1).map Prod.snd
 | 0,_=>rfl
 | n+1,hn=>by
  have ae:n<ps.length:=hn;have e2:mS ps n=(ps[n]).2:=by unfold mS;rw [gE ae];rfl
  have e1:((ps[n]?).getD ([],aO)).1=(ps[n]).1:=by rw [gE ae];rfl
  rw [range_succ,filter_append,map_append,take_succ_eq_append_getElem ae,filter_append,map_append,map_take ps K n (by omega)]
  congr 1
  simp only [filter_cons,filter_nil,e1];by_cases hk:K (ps[n]).1=true
  .rw [if_pos hk,if_pos hk];simp [e2]
  .rw [if_neg hk,if_neg hk];rfl
theorem a0U (fs:List Fa) (K:gJ):tG (aG fs) (cK fs K)=jX K (aG fs):=by
 have cM:(aG fs).length=fs.length:=by unfold aG;rw [lM]
 have:=map_take (aG fs) K (aG fs).length (ah _);rw [take_of_length_le (ah _),cM] at this;unfold tG jX;rw [<-this];rfl
theorem mem_keys {fs:List Fa} {key:LN}:(∃x∈aG fs,x.1=key)↔∃i,i<fs.length/\ei fs i=key:=by
 constructor
 .rintro ⟨x,hx,e⟩;obtain ⟨i,hi,rfl⟩:=getElem_of_mem hx;have gP:i<fs.length:=by unfold aG at hi;rw [lM] at hi;exact hi
  refine ⟨i,gP,?_⟩;unfold ei;rw [gE hi];exact e
 .rintro ⟨i,hi,e⟩;have gP:i<(aG fs).length:=by unfold aG;rw [lM];exact hi
  refine ⟨(aG fs)[i],gM gP,?_⟩;rw [<-e];unfold ei;rw [gE gP];rfl
inductive Reach (s:aW):Nat->gJ->Prop
 | top:Reach s 0 fun _=>true
 | all {a:Nat} {K:gJ}:Reach s a K->Reach s (a+1) K
 | of {a:Nat} {K:gJ} {d:cR} {t k:Nat}:Reach s a K->s.ak[a]? = some d->t<d.aw.length->k<200->Reach s (a+1) (rN d a t k K)
theorem CubeS.reach (h:CubeS s fs st) (hs:dO s) (hf:gK s fs):∀ (n j:Nat),j+n+1=st.nodes.length->∃a K,st.parts[j]? = some (a,cK fs K)/\Reach s a K:=by
 intro n
 induction n using Nat.strongRecOn with
 | ind n ih =>
  intro j hj;by_cases hn:n=0
  .refine ⟨0,_,?_,.top⟩;rw [EG,<-h.top]
   congr 1
   omega
  .obtain ⟨i,nd,c,h1,h2,h3,h4⟩:=h.uJ j (by omega);have hi:=(bS h1).1;have hb:=h.kZ.back i nd h1 (by omega) c h3;obtain ⟨a,K,hp,hr⟩:=ih (st.nodes.length-i-1) (by omega) i (by omega);obtain ⟨_,jx,ha,jR,xl⟩:=h.node hp;rw [h1] at jx;injection jx with jx
   subst jx;have eH:=xl.aj;dsimp only at eH ha xl;rw [eH] at h2;have hd:=gE ha;have hl:decide (a+1=s.ak.length)=false:=decide_eq_false (by omega);rcases mem_append.1 h3 with h3 | h3
   .obtain ⟨t,l,q,k1,k2⟩:=QI h3;have fZ:=xl.lists;rw [hl,QZ a hd] at fZ;obtain ⟨lift,m1,m2⟩:=dI.left fZ k1;obtain ⟨ht,rfl⟩:=MO m1;rw [Mp hs hf hd] at m2;obtain ⟨g,m3,m4⟩:=dI.left m2 k2;obtain ⟨k,m5,m6⟩:=mem_filterMap.1 (mem_of_getElem? m3);split at m6
    .cases m6
    .injection m6 with m6
     subst m6;have:=m4.2;rw [if_neg (by simp),h4] at this;exact ⟨_,_,this.2,.of hr hd ht (mem_range.1 m5)⟩
   .rw [mem_singleton.1 h3] at h4;have:=xl.all.2;rw [hl,if_neg (by simp),h4] at this;exact ⟨_,_,this.2,.all hr⟩
theorem CubeS.has (h:CubeS s fs st) (hs:dO s) (hf:gK s fs) {a:Nat} {K:gJ} (hr:Reach s a K):a<s.ak.length->cK fs K≠[]->∃i:Nat,st.parts[i]? = some (a,cK fs K):=by
 induction hr with
 | top=>exact fun _ _=>⟨_,by rw [EG];exact h.top⟩
 | @all a K hr ih =>
  intro ha av;obtain ⟨i,hp⟩:=ih (by omega) av;obtain ⟨_,_,_,_,xl⟩:=h.node hp;have:=xl.all.2;rw [if_neg (by simp;omega)] at this;exact ⟨_,this.2⟩
 | @of a K d t k hr hd ht hk ih =>
  intro ha av;obtain ⟨i,hp⟩:=ih (by omega) (XG av);obtain ⟨n,l,hn,_,_,h3,h4⟩:=h.row hp hd ht;rw [Mp hs hf hd] at h4;have hg:(k,cK fs (rN d a t k K))∈(range 200).filterMap fun k=>if cK fs (rN d a t k K)=[] then none else some (k,cK fs (rN d a t k K)):=mem_filterMap.2 ⟨k,mem_range.2 hk,by rw [if_neg av]⟩
  obtain ⟨q,hq,e⟩:=getElem_of_mem hg;obtain ⟨c,hc,xl⟩:=dI.right h4 (gE hq);rw [e] at xl;have:=xl.2;rw [if_neg (by simp;omega)] at this;exact ⟨_,this.2⟩
end
def Pu (g:Rec):Prop:=∀part st r,g part st=some r->st.parts.Nodup->r.1.parts.Nodup
section
variable {ps:List (LN×Ag)} {lifts:List (List LN)} {a:Nat} {f:Option Rec} (hf:∀g,f=some g->Pu g)
include hf
theorem ZV {key:Nat} {part:LN} {st:St} {r:St×Cl} (h:il ps f key part st=some r) (hn:st.parts.Nodup):r.1.parts.Nodup:=by
 unfold il at h;split at h
 .injection h with h;subst h;exact hn
 .obtain ⟨q,hq,e⟩:=Option.map_eq_some_iff.1 h;subst e;exact hf _ rfl _ _ _ hq hn
theorem Y9:∀ (gs:List (Nat×LN)) (s r:St×List Cl),iA ps f gs s=some r->s.1.parts.Nodup->r.1.parts.Nodup
 | [],s,r,h,hn=>by injection h with h;subst h;exact hn
 | g::gs,s,r,h,hn=>by
  unfold iA at h;obtain ⟨q,hq,h⟩:=Option.bind_eq_some_iff.1 h;exact Y9 gs _ _ h (ZV hf hq hn)
theorem a0l {part:LN}:∀ (ls:List LN) (s r:St×List (List Cl)),iP ps f a part ls s=some r->s.1.parts.Nodup->r.1.parts.Nodup
 | [],s,r,h,hn=>by injection h with h;subst h;exact hn
 | l::ls,s,r,h,hn=>by
  unfold iP at h;obtain ⟨q,hq,h⟩:=Option.bind_eq_some_iff.1 h;exact a0l ls _ _ h (Y9 hf _ _ _ hq hn)
theorem a0t (hd:yV a f) (most:Nat):Pu (fR ps lifts most f a):=by
 intro part st r h hn;unfold fR at h;split at h
 .injection h with h;subst h;exact hn
 .rename_i eG;obtain ⟨q,hq,h⟩:=Option.bind_eq_some_iff.1 h;obtain ⟨x,hx,h⟩:=Option.bind_eq_some_iff.1 h;have OV:=(LJ hd _ _ _ hq).trans (Mo hd hx);have h2:=ZV hf hx (a0l hf _ _ _ hq hn);split at h
  .injection h with h
   subst h;have:=Zy eG OV;unfold jw at this;rw [findIdx?_eq_none_iff] at this;refine nodup_append.2 ⟨h2,pairwise_singleton _ _,fun p hp q hq e => ?_⟩;rw [mem_singleton.1 hq] at e;have:=this p hp;simp [e] at this
  .cases h
end
theorem Yt {ps:List (LN×Ag)} {lifts:List (List LN)} {most nd:Nat}:∀ {d:Nat},d<nd->Pu (visit ps lifts most nd d)
 | 0,h=>a0t (f:=none) (fun g e=>by cases e) trivial most
 | d+1,h=>a0t (f:=some (visit ps lifts most nd d)) (fun g e=>by injection e with e;subst e;exact Yt (by omega)) (by
  show MI _ _;rw [show nd-1-(d+1)+1=nd-1-d by omega]
  exact Q1 (by omega)) most
theorem YO {α:Type} {l:List α} (h:l.Nodup) {i j:Nat} {x:α} (hi:l[i]? = some x) (hj:l[j]? = some x):i=j:=by
 obtain ⟨h1,e1⟩:=bS hi;obtain ⟨h2,e2⟩:=bS hj;have hp:=pairwise_iff_getElem.1 (nodup_iff_pairwise_ne.1 h);rcases Nat.lt_trichotomy i j with h3 | h3 | h3
 .exact absurd (e1.trans e2.symm) (hp i j h1 h2 h3)
 .exact h3
 .exact absurd (e2.trans e1.symm) (hp j i h2 h1 h3)
structure Zg (s:aW) (fs:List Fa) (st:St):Prop extends CubeS s fs st where
 once:st.parts.Nodup
theorem QA {s:aW} {fs:List Fa} {most:Nat} {ns:List aI} (hs:dO s) (av:fs≠[]) (h:dQ s fs most=some ns):∃r,visit (aG fs) (s.ak.map gl) most s.ak.length (s.ak.length-1) (range fs.length) ⟨[],[]⟩=some r/\r.1.nodes=ns/\Zg s fs r.1:=by
 have hn:=hs.n1;unfold dQ at h;rw [if_neg av] at h;obtain ⟨r,hr,rfl⟩:=Option.map_eq_some_iff.1 h;have cM:(aG fs).length=fs.length:=by unfold aG;rw [lM]
 obtain ⟨h1,h2,h3⟩:=Mz (by omega:s.ak.length-1<s.ak.length) (range fs.length) ⟨[],[]⟩ r hr (Good.nil _ _ _) (by
  have:=QD (ps:=aG fs) (by unfold aG;simpa using av);rw [cM] at this
  exact this)
 obtain ⟨_,h4⟩:=Ra (by omega:s.ak.length-1<s.ak.length) _ _ _ hr;have ht:=MV hr;refine ⟨r,hr,rfl,⟨⟨h1,?_,by omega,fun j hj => ?_⟩,Yt (by omega) _ _ _ hr List.Pairwise.nil⟩⟩
 .rw [<-ht,Nat.add_sub_cancel,h3,Nat.sub_self]
 .rcases h4 j (aZ _) (by omega) with h5 | h5
  .omega
  .exact h5
def Qr (m':Nat) (g g':Rec):Prop:=∀part st r,g part st=some r->st.nodes.length<=r.1.nodes.length/\(r.1.nodes.length<=m'->g' part st=some r)
def a18 (m':Nat) (f f':Option Rec):Prop:=match f,f' with
 | none,none=>True
 | some g,some g'=>Qr m' g g'
 | _,_=>False
section
variable {ps:List (LN×Ag)} {lifts:List (List LN)} {a m':Nat} {f f':Option Rec} (hf:a18 m' f f')
include hf
theorem Ml {key:Nat} {part:LN} {st:St} {r:St×Cl} (h:il ps f key part st=some r):st.nodes.length<=r.1.nodes.length/\(r.1.nodes.length<=m'->il ps f' key part st=some r):=by
 match f,f',hf with
 | none,none,_=>injection h with h;subst h;exact ⟨ah _,fun _=>rfl⟩
 | some g,some g',hf =>
  obtain ⟨q,hq,e⟩:=Option.map_eq_some_iff.1 (show (g part st).map _=some r from h);subst e;obtain ⟨h1,h2⟩:=hf _ _ _ hq;refine ⟨h1,fun hm => ?_⟩;show (g' part st).map _=_;rw [h2 hm];rfl
theorem LH:∀ (gs:List (Nat×LN)) (s r:St×List Cl),iA ps f gs s=some r->s.1.nodes.length<=r.1.nodes.length/\(r.1.nodes.length<=m'->iA ps f' gs s=some r)
 | [],s,r,h=>by injection h with h;subst h;exact ⟨ah _,fun _=>rfl⟩
 | g::gs,s,r,h=>by
  unfold iA at h ⊢;obtain ⟨q,hq,h⟩:=Option.bind_eq_some_iff.1 h;obtain ⟨h1,h2⟩:=Ml hf hq;obtain ⟨k1,k2⟩:=LH gs _ _ h;dsimp only at k1;refine ⟨by omega,fun hm => ?_⟩;rw [h2 (by omega)];exact k2 hm
theorem Mw {part:LN}:∀ (ls:List LN) (s r:St×List (List Cl)),iP ps f a part ls s=some r->s.1.nodes.length<=r.1.nodes.length/\(r.1.nodes.length<=m'->iP ps f' a part ls s=some r)
 | [],s,r,h=>by injection h with h;subst h;exact ⟨ah _,fun _=>rfl⟩
 | l::ls,s,r,h=>by
  unfold iP at h ⊢;obtain ⟨q,hq,h⟩:=Option.bind_eq_some_iff.1 h;obtain ⟨h1,h2⟩:=LH hf _ _ _ hq;obtain ⟨k1,k2⟩:=Mw ls _ _ h;dsimp only at h1 k1;refine ⟨by omega,fun hm => ?_⟩;rw [h2 (by omega)];exact k2 hm
theorem YM {most:Nat}:Qr m' (fR ps lifts most f a) (fR ps lifts m' f' a):=by
 intro part st r h;unfold fR at h ⊢;split at h
 .rename_i i hi
  try rw [hi]
  injection h with h
  subst h;exact ⟨ah _,fun _=>rfl⟩
 .rename_i hi
  try rw [hi]
  obtain ⟨q,hq,h⟩:=Option.bind_eq_some_iff.1 h;obtain ⟨x,hx,h⟩:=Option.bind_eq_some_iff.1 h;obtain ⟨h1,h2⟩:=Mw hf _ _ _ hq;obtain ⟨k1,k2⟩:=Ml hf hx;split at h
  .injection h with h
   subst h;dsimp only at h1 ⊢;rw [aS,length_cons,length_nil];refine ⟨by omega,fun hm => ?_⟩;rw [h2 (by omega)];dsimp only [Option.bind_some];rw [k2 (by omega)];dsimp only [Option.bind_some];rw [if_pos (by omega)]
  .cases h
end
theorem PK {ps:List (LN×Ag)} {lifts:List (List LN)} {nd m m':Nat}:∀ {d:Nat},Qr m' (visit ps lifts m nd d) (visit ps lifts m' nd d)
 | 0=>YM (f:=none) (f':=none) trivial
 | d+1=>YM (f:=some (visit ps lifts m nd d)) (f':=some (visit ps lifts m' nd d)) PK
section
variable {ps:List (LN×Ag)} {lifts:List (List LN)} {a:Nat} {F:Nat->Option Rec} (hc:∀m m',a18 m' (F m) (F m')) (he:(∀m,F m=none)\/∃v:Nat->Rec,(∀m,F m=some (v m))/\∀part st,∃m r,v m part st=some r)
include hc he
omit hc in
theorem a0b (key:Nat) (part:LN) (st:St):∃m r,il ps (F m) key part st=some r:=by
 rcases he with he | ⟨v,hv,he⟩
 .exact ⟨0,_,by rw [he];rfl⟩
 .obtain ⟨m,r,h⟩:=he part st;refine ⟨m,(r.1,⟨key,r.2,aO⟩),?_⟩;rw [hv];show (v m part st).map _=_;rw [h];rfl
theorem a0H:∀ (gs:List (Nat×LN)) (s:St×List Cl),∃m r,iA ps (F m) gs s=some r
 | [],s=>⟨0,s,rfl⟩
 | g::gs,s=>by
  obtain ⟨m1,r1,h1⟩:=a0b (ps:=ps) he g.1 g.2 s.1;obtain ⟨m2,r2,h2⟩:=a0H gs (r1.1,s.2++[r1.2]);obtain ⟨k1,k2⟩:=LH (hc m2 r2.1.nodes.length) _ _ _ h2;dsimp only at k1;refine ⟨r2.1.nodes.length,r2,?_⟩;unfold iA;rw [(Ml (hc m1 r2.1.nodes.length) h1).2 k1];exact k2 (ah _)
theorem a0V (part:LN):∀ (ls:List LN) (s:St×List (List Cl)),∃m r,iP ps (F m) a part ls s=some r
 | [],s=>⟨0,s,rfl⟩
 | l::ls,s=>by
  obtain ⟨m1,r1,h1⟩:=a0H (ps:=ps) hc he (eu (fP ps l a) part) (s.1,[]);obtain ⟨m2,r2,h2⟩:=a0V part ls (r1.1,s.2++[r1.2]);obtain ⟨k1,k2⟩:=Mw (hc m2 r2.1.nodes.length) _ _ _ h2;dsimp only at k1;refine ⟨r2.1.nodes.length,r2,?_⟩;unfold iP;rw [(LH (hc m1 r2.1.nodes.length) _ _ _ h1).2 k1];exact k2 (ah _)
theorem Xw (part:LN) (st:St):∃m r,fR ps lifts m (F m) a part st=some r:=by
 cases O4:jw a part st.parts with
 | some i=>exact ⟨0,(st,i),by unfold fR;rw [O4]⟩
 | none =>
  obtain ⟨m1,r1,h1⟩:=a0V (ps:=ps) (a:=a) hc he part ((lifts[a]?).getD []) (st,[]);obtain ⟨m2,r2,h2⟩:=a0b (ps:=ps) he 0 part r1.1;have k1:=Ml (hc m2 (r2.1.nodes.length+1)) h2;have k2:=Mw (hc m1 (r2.1.nodes.length+1)) _ _ _ h1;refine ⟨r2.1.nodes.length+1,(⟨r2.1.nodes++[⟨a,r1.2,r2.2⟩],r2.1.parts++[(a,part)]⟩,r2.1.nodes.length),?_⟩;unfold fR;rw [O4];dsimp only;rw [k2.2 (by omega)];dsimp only [Option.bind_some];rw [k1.2 (by omega)];dsimp only [Option.bind_some];rw [if_pos (by omega)]
end
theorem Zj {ps:List (LN×Ag)} {lifts:List (List LN)} {nd:Nat}:∀ (d:Nat) (part:LN) (st:St),∃m r,visit ps lifts m nd d part st=some r
 | 0,part,st=>Xw (F:=fun _=>none) (fun _ _=>trivial) (.inl fun _=>rfl) part st
 | d+1,part,st=>Xw (F:=fun m=>some (visit ps lifts m nd d)) (fun _ _=>PK) (.inr ⟨_,fun _=>rfl,Zj d⟩) part st
theorem a5F {s:aW} {fs:List Fa} {m m':Nat} {ns:List aI} (h:dQ s fs m=some ns) (hm:ns.length<=m'):dQ s fs m'=some ns:=by
 unfold dQ at h ⊢;split
 .rename_i he;rw [if_pos he] at h;exact h
 .rename_i he;rw [if_neg he] at h;obtain ⟨r,hr,rfl⟩:=Option.map_eq_some_iff.1 h;rw [(PK _ _ _ hr).2 hm];rfl
theorem abR (s:aW) (fs:List Fa):∃m ns,dQ s fs m=some ns:=by
 unfold dQ;by_cases he:fs=[]
 .exact ⟨0,[],by rw [if_pos he]⟩
 .obtain ⟨m,r,h⟩:=Zj (ps:=aG fs) (lifts:=s.ak.map gl) (nd:=s.ak.length) (s.ak.length-1) (range fs.length) ⟨[],[]⟩;exact ⟨m,r.1.nodes,by rw [if_neg he,h];rfl⟩
def yH (fa fc:List Fa):Prop:=∀i,i<fa.length->∃j,j<fc.length/\ei fc j=ei fa i
theorem yH.part {fa fc:List Fa} (h:yH fa fc) {K K':gJ} (he:cK fc K=cK fc K'):cK fa K=cK fa K':=by
 unfold cK;refine filter_congr (fun i hi => ?_);obtain ⟨j,hj,e⟩:=h i (mem_range.1 hi);rw [<-e,Bool.eq_iff_iff];have H:∀L:gJ,L (ei fc j)=true↔j∈cK fc L:=fun L=>by rw [xq];exact ⟨fun h=>⟨hj,h⟩,fun h=>h.2⟩
 rw [H,H,he]
theorem yH.ne {fa fc:List Fa} (h:yH fa fc) {K:gJ} (hn:cK fa K≠[]):cK fc K≠[]:=by
 obtain ⟨i,hi⟩:=exists_mem_of_ne_nil _ hn;obtain ⟨h1,h2⟩:=xq.1 hi;obtain ⟨j,hj,e⟩:=h i h1;exact ne_nil_of_mem (xq.2 ⟨hj,by rw [e];exact h2⟩)
theorem a5X {s:aW} {fa fc:List Fa} {most:Nat} {nc:List aI} (hs:dO s) (ha:gK s fa) (hc:gK s fc) (Ci:yH fa fc) (h:dQ s fc most=some nc):∃na,dQ s fa most=some na:=by
 obtain ⟨m0,na,h0⟩:=abR s fa;by_cases av:fa=[]
 .subst av;exact ⟨[],by unfold dQ;rw [if_pos rfl]⟩
 have j7:fc≠[]:=by
  obtain ⟨j,hj,_⟩:=Ci 0 (length_pos_iff.2 av);intro e;rw [e] at hj;simp at hj
 obtain ⟨rA,_,rfl,tA⟩:=QA hs av h0;obtain ⟨rC,_,rfl,tC⟩:=QA hs j7 h;refine ⟨_,a5F h0 (aT ?_ (EW h))⟩;have H:∀i,∃j,i<rA.1.parts.length->j<rC.1.parts.length/\∃a K,rA.1.parts[i]? = some (a,cK fa K)/\rC.1.parts[j]? = some (a,cK fc K):=fun i=>by
  by_cases hi:i<rA.1.parts.length
  .rw [tA.kZ.len] at hi;obtain ⟨a,K,hp,hr⟩:=tA.toCubeS.reach hs ha (rA.1.nodes.length-i-1) i (by omega);obtain ⟨h1,h2⟩:=tA.kZ.part i _ hp;obtain ⟨j,hj⟩:=tC.toCubeS.has hs hc hr h1 (Ci.ne h2.ne);exact ⟨j,fun _=>⟨(bS hj).1,a,K,hp,hj⟩⟩
  .exact ⟨0,fun h=>absurd h hi⟩
 obtain ⟨φ,hφ⟩:=Classical.axiomOfChoice H
 have:=Be ((range rA.1.parts.length).map φ) (range rC.1.parts.length) (by
  rw [nodup_iff_pairwise_ne,pairwise_map];refine List.Pairwise.imp_of_mem (R:=fun a b=>a<b) (fun {i j} hi hj hij e => ?_) pairwise_lt_range;obtain ⟨_,a,K,h1,h2⟩:=hφ i (mem_range.1 hi);obtain ⟨_,a',K',jx,ng⟩:=hφ j (mem_range.1 hj);rw [e,ng] at h2;injection h2 with h2
  injection h2 with h3 h4
  rw [<-h3,<-Ci.part h4] at h1;have:=YO tA.once h1 jx;omega) (fun x hx=>by
  obtain ⟨i,hi,rfl⟩:=mem_map.1 hx
  exact mem_range.2 (hφ i (mem_range.1 hi)).1)
 rw [lM,length_range,length_range,tA.kZ.len,tC.kZ.len] at this;exact this
structure dU where
 nodes:List aI
 pairs:List (Int×Int)
abbrev RecM:=Int×Int->dU->Option (dU×Nat)
abbrev Hv:=Option Cl×Option Cl
def fY:Option Cl->Int
 | none => -1
 | some c=>(c.child:Int)
def xu:Option Cl->Ag
 | none=>aO
 | some c=>c.ag
def CL:Option Cl->Nat
 | none=>0
 | some c=>c.key
def Bb (f:Option RecM) (key:Nat) (h:Hv) (st:dU):Option (dU×Cl):=match f with
 | none=>(bY (xu h.1) (xu h.2)).map fun g=>(st,⟨key,0,g⟩)
 | some g=>(g (fY h.1,fY h.2) st).map fun r=>(r.1,⟨key,r.2,aO⟩)
def uH (f:Option RecM):List Hv->dU×List Cl->Option (dU×List Cl)
 | [],s=>some s
 | h::hs,s=>(Bb f (max (CL h.1) (CL h.2)) h s.1).bind fun r=>uH f hs (r.1,s.2++[r.2])
def ik:List Cl->List Cl->List Hv
 | [],[]=>[]
 | [],y::ys=>(none,some y)::ik [] ys
 | x::xs,[]=>(some x,none)::ik xs []
 | x::xs,y::ys=>if x.key<y.key then (some x,none)::ik xs (y::ys) else if y.key<x.key then (none,some y)::ik (x::xs) ys else (some x,some y)::ik xs ys
termination_by x y=>x.length+y.length
def vA (f:Option RecM) (x y:List (List Cl)):LN->dU×List (List Cl)->Option (dU×List (List Cl))
 | [],s=>some s
 | t::ts,s=>(uH f (ik ((x[t]?).getD []) ((y[t]?).getD [])) (s.1,[])).bind fun r=>vA f x y ts (r.1,s.2++[r.2])
def cL (ns:List aI) (i:Int):aI:=if i = -1 then ⟨0,[],cO⟩ else (ns[i.toNat]?).getD ⟨0,[],cO⟩
def qN (ns:List aI) (i:Int):Option Cl:=if i = -1 then none else some (cL ns i).all
def kX (p:Int×Int) (l:List (Int×Int)):Option Nat:=l.findIdx? fun x=>x == p
def xJ (X Y:List aI) (most:Nat) (f:Option RecM) (p:Int×Int) (st:dU):Option (dU×Nat) :=
 match kX p st.pairs with
 | some i=>some (st,i)
 | none=>(vA f (cL X p.1).lists (cL Y p.2).lists (range (max (cL X p.1).lists.length (cL Y p.2).lists.length)) (st,[])).bind fun r =>
  (Bb f 0 (qN X p.1,qN Y p.2) r.1).bind fun q =>
  if q.1.nodes.length<most then some (⟨q.1.nodes++[⟨max (cL X p.1).aj (cL Y p.2).aj,r.2,q.2⟩],q.1.pairs++[p]⟩,q.1.nodes.length) else none
def AK (X Y:List aI) (most:Nat):Nat->RecM
 | 0=>xJ X Y most none
 | d+1=>xJ X Y most (some (AK X Y most d))
def lR (ns:List aI):Int:=(ns.length:Int)-1
def CH (nd:Nat) (X Y:List aI) (most:Nat):Option (List aI) :=
 if X=[]/\Y=[] then some [] else (AK X Y most (nd-1) (lR X,lR Y) ⟨[],[]⟩).map fun r=>r.1.nodes
theorem YI (fa fb:Nat->Option Cl) (ha:∀k c,fa k=some c->c.key=k) (hb:∀k c,fb k=some c->c.key=k):∀ (n i:Nat),
 ik ((range' i n).filterMap fa) ((range' i n).filterMap fb)=(range' i n).filterMap fun k=>if fa k=none/\fb k=none then none else some (fa k,fb k)
 | 0,i=>by rw [range'_zero];simp [ik]
 | n+1,i=>by
  have ih:=YI fa fb ha hb n (i+1);have El:∀ (f:Nat->Option Cl),(∀k c,f k=some c->c.key=k)->∀c∈(range' (i+1) n).filterMap f,i<c.key:=fun f hf c hc=>by
   obtain ⟨k,hk,e⟩:=mem_filterMap.1 hc;rw [hf k c e];have:=(mem_range'_1.1 hk).1;omega
  have la:=El fa ha;have lb:=El fb hb;rw [range'_succ];simp only [filterMap_cons];cases DD:fa i with
  | none =>
   cases V7:fb i with
   | none=>simp only [and_self,if_true];exact ih
   | some y =>
    simp only [reduceCtorEq,and_false,if_false];have ky:=hb i y V7;cases hx:(range' (i+1) n).filterMap fa with
    | nil=>rw [hx] at ih;rw [ik,ih]
    | cons x xs =>
     rw [hx] at ih la;have:=la x mem_cons_self;rw [ik,if_neg (by omega),if_pos (by omega),ih]
  | some x =>
   have kx:=ha i x DD;cases V7:fb i with
   | none =>
    simp only [reduceCtorEq,false_and,if_false];cases hy:(range' (i+1) n).filterMap fb with
    | nil=>rw [hy] at ih;rw [ik,ih]
    | cons y ys =>
     rw [hy] at ih lb;have:=lb y mem_cons_self;rw [ik,if_pos (by omega),ih]
   | some y =>
    have ky:=hb i y V7;simp only [reduceCtorEq,and_self,if_false];rw [ik,if_neg (by omega),if_neg (by omega),ih]
theorem Mi {α:Type} {f g:Nat->Option α}:∀ {L:LN},(∀k∈L,f k=g k)->L.filterMap f=L.filterMap g
 | [],_=>rfl
 | k::L,h=>by rw [filterMap_cons,filterMap_cons,h k mem_cons_self,Mi fun j hj=>h j (mem_cons_of_mem _ hj)]
theorem Pr {α β:Type} {R:α->β->Prop} (g:Nat->Option α):∀ (L:LN) (l:List β),L.Nodup->dI R (L.filterMap g) l->∃f:Nat->Option β,l=L.filterMap f/\∀k∈L,(g k=none->f k=none)/\∀a,g k=some a->∃b,f k=some b/\R a b
 | [],l,_,h=>⟨fun _=>none,length_eq_zero_iff.1 h.1.symm,fun k hk=>by cases hk⟩
 | k::L,l,hn,h=>by
  obtain ⟨hk,hL⟩:=nodup_cons.1 hn;rw [filterMap_cons] at h;cases hg:g k with
  | none =>
   rw [hg] at h;obtain ⟨f,e,hf⟩:=Pr g L l hL h;refine ⟨fun j=>if j=k then none else f j,?_,fun j hj => ?_⟩
   .rw [filterMap_cons];simp only [if_true];rw [e];refine (Mi fun j hj => ?_);rw [if_neg (show ¬j=k from fun e=>hk (e▸hj))]
   .rcases mem_cons.1 hj with e | hj
    .subst e;exact ⟨fun _=>if_pos rfl,fun a ha=>by rw [hg] at ha;cases ha⟩
    .simp only [if_neg (show ¬j=k from fun e=>hk (e▸hj))];exact hf j hj
  | some a =>
   rw [hg] at h;dsimp only at h
   match l,h with
   | [],h=>have:=h.1;simp at this
   | b::l,h =>
    have vp:R a b:=h.2 0 a b rfl rfl;obtain ⟨f,e,hf⟩:=Pr g L l hL ⟨by have:=h.1;simpa using this,fun i x y hx hy=>h.2 (i+1) x y hx hy⟩;refine ⟨fun j=>if j=k then some b else f j,?_,fun j hj => ?_⟩
    .rw [filterMap_cons];simp only [if_true];rw [e]
     congr 1
     refine (Mi fun j hj => ?_);rw [if_neg (show ¬j=k from fun e=>hk (e▸hj))]
    .rcases mem_cons.1 hj with e | hj
     .subst e;refine ⟨fun hh=>(by rw [hg] at hh;cases hh),fun a' ha=>⟨b,if_pos rfl,?_⟩⟩;rw [hg] at ha;injection ha with ha
      exact ha▸vp
     .simp only [if_neg (show ¬j=k from fun e=>hk (e▸hj))];exact hf j hj
structure tP (s:aW) (fa fb fc:List Fa):Prop where
 eF:dO s
 oa:gK s fa
 ob:gK s fb
 oc:gK s fc
 sa:yH fa fc
 sb:yH fb fc
 cov:∀i,i<fc.length->(∃j,j<fa.length/\ei fa j=ei fc i)\/∃j,j<fb.length/\ei fb j=ei fc i
 IU:∀K:gJ,bY ((jX K (aG fa)).getD aO) ((jX K (aG fb)).getD aO)=some ((jX K (aG fc)).getD aO)
theorem tP.nil {s:aW} {fa fb fc:List Fa} (h:tP s fa fb fc) {K:gJ}:cK fc K=[]↔cK fa K=[]/\cK fb K=[]:=by
 constructor
 .intro e;exact ⟨Decidable.byContradiction fun hn=>h.sa.ne hn e,Decidable.byContradiction fun hn=>h.sb.ne hn e⟩
 .rintro ⟨e1,e2⟩;refine Decidable.byContradiction fun hn => ?_
  obtain ⟨i,hi⟩:=exists_mem_of_ne_nil _ hn;obtain ⟨h1,h2⟩:=xq.1 hi;rcases h.cov i h1 with ⟨j,hj,e⟩ | ⟨j,hj,e⟩
  .exact ne_nil_of_mem (xq.2 ⟨hj,by rw [e];exact h2⟩) e1
  .exact ne_nil_of_mem (xq.2 ⟨hj,by rw [e];exact h2⟩) e2
theorem tP.eq {s:aW} {fa fb fc:List Fa} (h:tP s fa fb fc) {K K':gJ} (ha:cK fa K=cK fa K') (hb:cK fb K=cK fb K'):cK fc K=cK fc K':=by
 unfold cK;refine filter_congr (fun i hi => ?_);rw [Bool.eq_iff_iff];rcases h.cov i (mem_range.1 hi) with ⟨j,hj,e⟩ | ⟨j,hj,e⟩
 .have H:∀L:gJ,L (ei fa j)=true↔j∈cK fa L:=fun L=>by rw [xq];exact ⟨fun h=>⟨hj,h⟩,fun h=>h.2⟩
  rw [<-e,H,H,ha]
 .have H:∀L:gJ,L (ei fb j)=true↔j∈cK fb L:=fun L=>by rw [xq];exact ⟨fun h=>⟨hj,h⟩,fun h=>h.2⟩
  rw [<-e,H,H,hb]
def rF (parts:List (Nat×LN)) (fs:List Fa) (a:Nat) (K:gJ) (i:Int):Prop:=(cK fs K=[]/\i = -1)\/(cK fs K≠[]/\∃n:Nat,i=(n:Int)/\parts[n]? = some (a,cK fs K))
theorem rF.one {parts:List (Nat×LN)} {fs:List Fa} {a:Nat} {K K':gJ} {i i':Int} (ho:parts.Nodup) (h:rF parts fs a K i) (h':rF parts fs a K' i') (e:cK fs K=cK fs K'):i=i':=by
 rcases h with ⟨h1,h2⟩ | ⟨h1,n,h2,h3⟩
 .rcases h' with ⟨k1,k2⟩ | ⟨k1,m,k2,k3⟩
  .rw [h2,k2]
  .exact absurd (e▸h1) k1
 .rcases h' with ⟨k1,k2⟩ | ⟨k1,m,k2,k3⟩
  .exact absurd (e▸k1) h1
  .rw [<-e] at k3;rw [h2,k2,YO ho h3 k3]
theorem rF.back {parts:List (Nat×LN)} {fs:List Fa} {a a':Nat} {K K':gJ} {i:Int} (h:rF parts fs a K i) (h':rF parts fs a' K' i):cK fs K=cK fs K'/\(cK fs K≠[]->a=a'):=by
 rcases h with ⟨h1,h2⟩ | ⟨h1,n,h2,h3⟩
 .rcases h' with ⟨k1,k2⟩ | ⟨k1,m,k2,k3⟩
  .exact ⟨by rw [h1,k1],fun h=>absurd h1 h⟩
  .omega
 .rcases h' with ⟨k1,k2⟩ | ⟨k1,m,k2,k3⟩
  .omega
  .have:n=m:=by omega
   subst this;rw [h3] at k3;injection k3 with k3
   injection k3 with k3 k4
   exact ⟨k4,fun _=>k3⟩
def uS (dE dF:St) (fa fb fc:List Fa) (x:Nat×LN) (p:Int×Int):Prop:=∃K:gJ,x.2=cK fc K/\cK fc K≠[]/\rF dE.parts fa x.1 K p.1/\rF dF.parts fb x.1 K p.2
structure AY (dE dF:St) (fa fb fc:List Fa) (st:St) (sm:dU):Prop where
 nodes:st.nodes=sm.nodes
 pairs:dI (uS dE dF fa fb fc) st.parts sm.pairs
section
variable {s:aW} {fa fb fc:List Fa} {dE dF:St}
theorem uS.same (ht:tP s fa fb fc) (oA:dE.parts.Nodup) (oB:dF.parts.Nodup) {x y:Nat×LN} {p q:Int×Int} (h:uS dE dF fa fb fc x p) (k:uS dE dF fa fb fc y q):x=y↔p=q:=by
 obtain ⟨K,h1,h2,h3,h4⟩:=h;obtain ⟨K',k1,k2,k3,k4⟩:=k;constructor
 .intro e;subst e;have e:=h1.symm.trans k1;exact Prod.ext (h3.one oA k3 (ht.sa.part e)) (h4.one oB k4 (ht.sb.part e))
 .intro e;subst e;obtain ⟨m1,m2⟩:=h3.back k3;obtain ⟨n1,n2⟩:=h4.back k4;have e:=ht.eq m1 n1;refine Prod.ext ?_ (by rw [h1,k1,e]);by_cases hn:cK fa K=[]
  .exact n2 fun hb=>h2 (ht.nil.2 ⟨hn,hb⟩)
  .exact m2 hn
theorem a1a (ht:tP s fa fb fc) (oA:dE.parts.Nodup) (oB:dF.parts.Nodup) {x:Nat×LN} {p:Int×Int} (h:uS dE dF fa fb fc x p):∀ (l:List (Nat×LN)) (m:List (Int×Int)),dI (uS dE dF fa fb fc) l m->kX p m=jw x.1 x.2 l
 | [],[],_=>rfl
 | [],_::_,hr=>by have:=hr.1;simp at this
 | _::_,[],hr=>by have:=hr.1;simp at this
 | y::l,q::m,hr=>by
  have h0:=hr.2 0 y q rfl rfl;have ih:=a1a ht oA oB h l m ⟨by have:=hr.1;simpa using this,fun i a b ha hb=>hr.2 (i+1) a b ha hb⟩;unfold kX jw at ih ⊢;rw [findIdx?_cons,findIdx?_cons,ih];have e:(y == (x.1,x.2))=(q == p):=by
   rw [Bool.eq_iff_iff,beq_iff_eq,beq_iff_eq];exact h0.same ht oA oB h
  rw [e]
end
theorem dI.cons {α β:Type} {R:α->β->Prop} {l:List α} {m:List β} {a:α} {b:β} (vp:R a b) (h:dI R l m):dI R (a::l) (b::m):=by
 refine ⟨by rw [length_cons,length_cons,h.1],fun i x y hx hy => ?_⟩;cases i with
 | zero=>injection hx with hx;injection hy with hy;rw [<-hx,<-hy];exact vp
 | succ i=>exact h.2 i x y hx hy
theorem XX {α β:Type} {R:α->β->Prop} {g:Nat->Option α} {h:Nat->Option β}:∀ (L:LN),(∀k∈L,(g k=none↔h k=none)/\∀a b,g k=some a->h k=some b->R a b)->dI R (L.filterMap g) (L.filterMap h)
 | [],_=>dI.nil _
 | k::L,H=>by
  have ih:=XX L (fun j hj=>H j (mem_cons_of_mem _ hj));obtain ⟨h1,h2⟩:=H k mem_cons_self;rw [filterMap_cons,filterMap_cons];cases hg:g k with
  | none=>rw [h1.1 hg];exact ih
  | some a =>
   cases hh:h k with
   | none=>rw [h1.2 hh] at hg;cases hg
   | some b=>exact dI.cons (h2 a b hg hh) ih
section
variable {s:aW} {fs:List Fa} {st:St}
def tL (s:aW) (fs:List Fa) (st:St) (a key:Nat) (K:gJ) (h:Option Cl):Prop:=(cK fs K=[]->h=none)/\(cK fs K≠[]->∃c,h=some c/\rL (aG fs) (decide (a+1=s.ak.length)) st a key (cK fs K) c)
theorem tL.key {a key:Nat} {K:gJ} {h:Option Cl} (hh:tL s fs st a key K h):(cK fs K≠[]->CL h=key)/\(cK fs K=[]->CL h=0):=by
 refine ⟨fun hn => ?_,fun he=>by rw [hh.1 he];rfl⟩;obtain ⟨c,rfl,hc⟩:=hh.2 hn;exact hc.1
theorem tL.ag {a key:Nat} {K:gJ} {h:Option Cl} (hh:tL s fs st a key K h) (hl:a+1=s.ak.length):xu h=(jX K (aG fs)).getD aO:=by
 rw [<-a0U];by_cases he:cK fs K=[]
 .rw [hh.1 he,he];rfl
 .obtain ⟨c,rfl,hc⟩:=hh.2 he;have:=hc.2;rw [if_pos (decide_eq_true hl)] at this;exact this.2
theorem tL.ZY {a key:Nat} {K:gJ} {h:Option Cl} (hh:tL s fs st a key K h) (hl:a+1≠s.ak.length):rF st.parts fs (a+1) K (fY h):=by
 by_cases he:cK fs K=[]
 .rw [hh.1 he];exact .inl ⟨he,rfl⟩
 .obtain ⟨c,rfl,hc⟩:=hh.2 he;have:=hc.2;rw [if_neg (by simpa using hl)] at this;exact .inr ⟨he,c.child,rfl,this.2⟩
theorem CubeS.half (h:CubeS s fs st) (hs:dO s) (hf:gK s fs) {a:Nat} {K:gJ} {i:Int} (hp:rF st.parts fs a K i) {d:cR} (hd:s.ak[a]? = some d) {t:Nat} (ht:t<d.aw.length) :
 ∃f:Nat->Option Cl,((cL st.nodes i).lists[t]?).getD []=(range 200).filterMap f/\(∀k c,f k=some c->c.key=k)/\∀k,k<200->tL s fs st a k (rN d a t k K) (f k):=by
 have adU:∀k,cK fs K=[]->cK fs (rN d a t k K)=[]:=fun k he=>Decidable.byContradiction fun hn=>XG hn he
 rcases hp with ⟨he,rfl⟩ | ⟨av,n,rfl,hp⟩
 .refine ⟨fun _=>none,?_,fun k c h=>(by cases h),fun k hk=>⟨fun _=>rfl,fun hn=>absurd (adU k he) hn⟩⟩;rw [filterMap_eq_nil_iff.2 (fun _ _=>rfl)];rfl
 .obtain ⟨nd,l,hn,_,_,h3,h4⟩:=h.row hp hd ht;have hg:cL st.nodes (n:Int)=nd:=by
   unfold cL;rw [if_neg (by omega),Int.toNat_natCast,hn];rfl
  rw [hg,h3];rw [Mp hs hf hd] at h4;obtain ⟨f,e,gZ⟩:=Pr _ _ _ nodup_range h4;have hk:∀k,k<200->tL s fs st a k (rN d a t k K) (f k):=fun k hk=>by
   obtain ⟨h5,h6⟩:=gZ k (mem_range.2 hk);refine ⟨fun he=>h5 (by rw [if_pos he]),fun hn => ?_⟩;obtain ⟨c,hc,hr⟩:=h6 _ (by rw [if_neg hn]);exact ⟨c,hc,hr⟩
  refine ⟨fun k=>if k<200 then f k else none,?_,fun k c hc => ?_,fun k jF=>by dsimp only;rw [if_pos jF];exact hk k jF⟩
  .rw [Option.getD_some,e];refine Mi fun k jF => ?_
   rw [if_pos (mem_range.1 jF)]
  .dsimp only at hc;split at hc
   .rename_i Bj;have hh:=hk k Bj;by_cases he:cK fs (rN d a t k K)=[]
    .rw [hh.1 he] at hc;cases hc
    .have:=hh.key.1 he;rw [hc] at this;exact this
   .cases hc
theorem CubeS.aao (h:CubeS s fs st) {a:Nat} {K:gJ} {i:Int} (hp:rF st.parts fs a K i):tL s fs st a 0 K (qN st.nodes i):=by
 rcases hp with ⟨he,rfl⟩ | ⟨av,n,rfl,hp⟩
 .exact ⟨fun _=>rfl,fun hn=>absurd he hn⟩
 .obtain ⟨nd,hn,_,_,hr⟩:=h.node hp;refine ⟨fun he=>absurd he av,fun _=>⟨nd.all,?_,hr.all⟩⟩;unfold qN cL;rw [if_neg (by omega),if_neg (by omega),Int.toNat_natCast,hn];rfl
theorem CubeS.head (h:CubeS s fs st) {a:Nat} {K:gJ} {i:Int} (hp:rF st.parts fs a K i) {d:cR} (hd:s.ak[a]? = some d) (h1:1<=d.aw.length):(cK fs K=[]->cL st.nodes i=⟨0,[],cO⟩)/\(cK fs K≠[]->(cL st.nodes i).aj=a/\(cL st.nodes i).lists.length=d.aw.length):=by
 rcases hp with ⟨he,rfl⟩ | ⟨av,n,rfl,hp⟩
 .exact ⟨fun _=>rfl,fun hn=>absurd he hn⟩
 .obtain ⟨nd,l,hn,h3,h4,_,_⟩:=h.row hp hd (k:=0) h1;have hg:cL st.nodes (n:Int)=nd:=by
   unfold cL;rw [if_neg (by omega),Int.toNat_natCast,hn];rfl
  rw [hg];exact ⟨fun he=>absurd he av,fun _=>⟨h3,h4⟩⟩
end
section
variable {s:aW} {fa fb fc:List Fa} {dE dF:St}
def yP (s:aW) (fa fb fc:List Fa) (dE dF:St) (a:Nat) (g:Nat×LN) (h:Hv):Prop:=max (CL h.1) (CL h.2)=g.1/\if a+1=s.ak.length then bY (xu h.1) (xu h.2)=some ((tG (aG fc) g.2).getD aO) else uS dE dF fa fb fc (a+1,g.2) (fY h.1,fY h.2)
theorem yP.of (ht:tP s fa fb fc) {a key:Nat} {K:gJ} {x y:Option Cl} (hn:cK fc K≠[]) (hx:tL s fa dE a key K x) (hy:tL s fb dF a key K y):yP s fa fb fc dE dF a (key,cK fc K) (x,y):=by
 refine ⟨?_,?_⟩
 .dsimp only;by_cases ha:cK fa K=[]
  .have hb:cK fb K≠[]:=fun hb=>hn (ht.nil.2 ⟨ha,hb⟩)
   rw [hx.key.2 ha,hy.key.1 hb];omega
  .rw [hx.key.1 ha];by_cases hb:cK fb K=[]
   .rw [hy.key.2 hb];omega
   .rw [hy.key.1 hb];omega
 .split
  .rename_i hl;dsimp only;rw [hx.ag hl,hy.ag hl,a0U];exact ht.IU K
  .rename_i hl;exact ⟨K,rfl,hn,hx.ZY hl,hy.ZY hl⟩
def nY (s:aW) (fs:List Fa) (st:St):Prop:=Zg s fs st\/(fs=[]/\st=⟨[],[]⟩)
theorem nY.once {s:aW} {fs:List Fa} {st:St} (h:nY s fs st):st.parts.Nodup:=by
 rcases h with h | ⟨_,rfl⟩
 .exact h.once
 .exact List.Pairwise.nil
theorem nY.gen {s:aW} {fs:List Fa} {st:St} (hC:nY s fs st) (hs:dO s) (ie:gK s fs) {a:Nat} {K:gJ} {i:Int} (hp:rF st.parts fs a K i) {d:cR} (hd:s.ak[a]? = some d) :
 (∀t,t<d.aw.length->∃f:Nat->Option Cl,((cL st.nodes i).lists[t]?).getD []=(range 200).filterMap f/\(∀k c,f k=some c->c.key=k)/\∀k,k<200->tL s fs st a k (rN d a t k K) (f k)) /\
 tL s fs st a 0 K (qN st.nodes i)/\(cK fs K=[]->cL st.nodes i=⟨0,[],cO⟩)/\(cK fs K≠[]->(cL st.nodes i).aj=a/\(cL st.nodes i).lists.length=d.aw.length):=by
 have h1:=(ze hs hd).n1;rcases hC with hC | ⟨rfl,rfl⟩
 .obtain ⟨k1,k2⟩:=hC.toCubeS.head hp hd h1;exact ⟨fun t lY=>hC.toCubeS.half hs ie hp hd lY,hC.toCubeS.aao hp,k1,k2⟩
 .have eY:∀L:gJ,cK ([]:List Fa) L=[]:=fun L=>rfl
  have hi:i = -1:=by
   rcases hp with ⟨_,h⟩ | ⟨h,_⟩
   .exact h
   .exact absurd (eY K) h
  subst hi;refine ⟨fun t lY=>⟨fun _=>none,?_,fun k c h=>(by cases h),fun k hk=>⟨fun _=>rfl,fun hn=>absurd (eY _) hn⟩⟩,⟨fun _=>rfl,fun hn=>absurd (eY _) hn⟩,fun _=>rfl,fun hn=>absurd (eY _) hn⟩;rw [filterMap_eq_nil_iff.2 (fun _ _=>rfl)];rfl
theorem Qd (ht:tP s fa fb fc) (hA:nY s fa dE) (hB:nY s fb dF) {a:Nat} {part:LN} {p:Int×Int} (hp:uS dE dF fa fb fc (a,part) p) {d:cR} (hd:s.ak[a]? = some d) :
 max (cL dE.nodes p.1).lists.length (cL dF.nodes p.2).lists.length=d.aw.length/\max (cL dE.nodes p.1).aj (cL dF.nodes p.2).aj=a /\
 (∀t,t<d.aw.length->dI (yP s fa fb fc dE dF a) (eu (fP (aG fc) (fq d t) a) part) (ik (((cL dE.nodes p.1).lists[t]?).getD []) (((cL dF.nodes p.2).lists[t]?).getD []))) /\
 yP s fa fb fc dE dF a (0,part) (qN dE.nodes p.1,qN dF.nodes p.2):=by
 obtain ⟨K,e,av,pa,pb⟩:=hp;dsimp only at e pa pb;subst e;obtain ⟨a1,a2,a3,a4⟩:=hA.gen ht.eF ht.oa pa hd;obtain ⟨b1,b2,b3,b4⟩:=hB.gen ht.eF ht.ob pb hd;have aX:max (cL dE.nodes p.1).lists.length (cL dF.nodes p.2).lists.length=d.aw.length/\max (cL dE.nodes p.1).aj (cL dF.nodes p.2).aj=a:=by
  by_cases ha:cK fa K=[]
  .have hb:cK fb K≠[]:=fun hb=>av (ht.nil.2 ⟨ha,hb⟩)
   rw [a3 ha,(b4 hb).1,(b4 hb).2];dsimp only;rw [length_nil];omega
  .rw [(a4 ha).1,(a4 ha).2];by_cases hb:cK fb K=[]
   .rw [b3 hb];dsimp only;rw [length_nil];omega
   .rw [(b4 hb).1,(b4 hb).2];omega
 refine ⟨aX.1,aX.2,fun t lY => ?_,yP.of ht av a2 b2⟩;obtain ⟨f1,e1,u1,v1⟩:=a1 t lY;obtain ⟨f2,e2,u2,v2⟩:=b1 t lY;rw [e1,e2,List.range_eq_range',YI f1 f2 u1 u2 200 0,<-List.range_eq_range',Mp ht.eF ht.oc hd];refine XX _ (fun k hk => ?_);have jF:=mem_range.1 hk;have hx:=v1 k jF;have hy:=v2 k jF;have a3R:(f1 k=none/\f2 k=none)↔cK fc (rN d a t k K)=[]:=by
  rw [ht.nil];constructor
  .rintro ⟨n1,n2⟩;refine ⟨Decidable.byContradiction fun hn => ?_,Decidable.byContradiction fun hn => ?_⟩
   .obtain ⟨c,hc,_⟩:=hx.2 hn;rw [n1] at hc;cases hc
   .obtain ⟨c,hc,_⟩:=hy.2 hn;rw [n2] at hc;cases hc
  .rintro ⟨n1,n2⟩;exact ⟨hx.1 n1,hy.1 n2⟩
 by_cases he:cK fc (rN d a t k K)=[]
 .rw [if_pos he,if_pos (a3R.2 he)];exact ⟨⟨fun _=>rfl,fun _=>rfl⟩,fun _ _ h=>(by cases h)⟩
 .rw [if_neg he,if_neg (fun h=>he (a3R.1 h))];refine ⟨⟨fun h=>(by cases h),fun h=>(by cases h)⟩,fun g h hg hh => ?_⟩;injection hg with hg
  injection hh with hh
  subst hg hh;exact yP.of ht he hx hy
def rE (X:List aI) (i:Int):Prop:=i = -1\/∃n:Nat,i=(n:Int)/\n<X.length
def tS (X Y:List aI) (nx:Nat):Nat->Int×Int->Prop
 | 0,p=>(rE X p.1/\rE Y p.2)/\max (cL X p.1).aj (cL Y p.2).aj+1=nx
 | d+1,p=>(rE X p.1/\rE Y p.2)/\max (cL X p.1).aj (cL Y p.2).aj+1+(d+1)=nx/\tS X Y nx d (fY (qN X p.1),fY (qN Y p.2)) /\
  ∀t,t<max (cL X p.1).lists.length (cL Y p.2).lists.length->∀h∈ik (((cL X p.1).lists[t]?).getD []) (((cL Y p.2).lists[t]?).getD []),tS X Y nx d (fY h.1,fY h.2)
theorem nY.Yu {fs:List Fa} {st:St} (h:nY s fs st) {a:Nat} {K:gJ} {i:Int} (hp:rF st.parts fs a K i):rE st.nodes i:=by
 rcases hp with ⟨_,e⟩ | ⟨_,n,e,hn⟩
 .exact .inl e
 .refine .inr ⟨n,e,?_⟩;have:=(bS hn).1;rcases h with h | ⟨_,rfl⟩
  .rw [<-h.kZ.len];exact this
  .simp at this
theorem XK (hA:nY s fa dE) (hB:nY s fb dF) {x:Nat×LN} {p:Int×Int} (hp:uS dE dF fa fb fc x p):rE dE.nodes p.1/\rE dF.nodes p.2:=by
 obtain ⟨K,_,_,h1,h2⟩:=hp;exact ⟨hA.Yu h1,hB.Yu h2⟩
theorem Rx (ht:tP s fa fb fc) (hA:nY s fa dE) (hB:nY s fb dF):∀ (d a:Nat) (part:LN) (p:Int×Int),a+d+1=s.ak.length->uS dE dF fa fb fc (a,part) p->tS dE.nodes dF.nodes s.ak.length d p
 | 0,a,part,p,ha,hp=>by
  obtain ⟨_,h2,_,_⟩:=Qd ht hA hB hp (gE (show a<s.ak.length by omega));refine ⟨XK hA hB hp,?_⟩;rw [h2];omega
 | d+1,a,part,p,ha,hp=>by
  obtain ⟨h1,h2,h3,h4⟩:=Qd ht hA hB hp (gE (show a<s.ak.length by omega));refine ⟨XK hA hB hp,by rw [h2];omega,?_,fun t lY h hh => ?_⟩
  .have:=h4.2;rw [if_neg (by omega)] at this;exact Rx ht hA hB d (a+1) _ _ (by omega) this
  .rw [h1] at lY;obtain ⟨q,hq,rfl⟩:=getElem_of_mem hh;obtain ⟨g,_,hv⟩:=dI.left (h3 t lY) (gE hq);have:=hv.2;rw [if_neg (by omega)] at this;exact Rx ht hA hB d (a+1) _ _ (by omega) this
def Qn (fa fb fc:List Fa) (dE dF:St) (a:Nat) (g:Rec) (gm:RecM):Prop:=∀part st sm r p,g part st=some r->AY dE dF fa fb fc st sm->uS dE dF fa fb fc (a,part) p->∃r',gm p sm=some r'/\AY dE dF fa fb fc r.1 r'.1/\r.2=r'.2
def a9y (s:aW) (fa fb fc:List Fa) (dE dF:St) (a:Nat) (f:Option Rec) (fm:Option RecM):Prop:=match f,fm with
 | none,none=>a+1=s.ak.length
 | some g,some gm=>a+1<s.ak.length/\Qn fa fb fc dE dF (a+1) g gm
 | _,_=>False
section
variable {a:Nat} {f:Option Rec} {fm:Option RecM} (hf:a9y s fa fb fc dE dF a f fm)
include hf
theorem Yq {g:Nat×LN} {h:Hv} (hh:yP s fa fb fc dE dF a g h) {st:St} {sm:dU} {r:St×Cl} (hr:il (aG fc) f g.1 g.2 st=some r) (hs:AY dE dF fa fb fc st sm):∃r',Bb fm g.1 h sm=some r'/\AY dE dF fa fb fc r.1 r'.1/\r.2=r'.2:=by
 match f,fm,hf with
 | none,none,hf =>
  injection hr with hr
  subst hr;have h2:=hh.2;rw [if_pos (show a+1=s.ak.length from hf)] at h2;exact ⟨_,by show (bY _ _).map _=_;rw [h2];rfl,hs,rfl⟩
 | some q,some qm,hf =>
  obtain ⟨x,hx,e⟩:=Option.map_eq_some_iff.1 (show (q g.2 st).map _=some r from hr);subst e;have h2:=hh.2;rw [if_neg (by have:=hf.1;omega)] at h2;obtain ⟨x',h3,h4,h5⟩:=hf.2 _ _ _ _ _ hx hs h2;exact ⟨_,by show (qm _ sm).map _=_;rw [h3];rfl,h4,by rw [h5]⟩
theorem Y0:∀ (gs:List (Nat×LN)) (hs:List Hv) (st:St) (sm:dU) (l:List Cl) (r:St×List Cl),dI (yP s fa fb fc dE dF a) gs hs->iA (aG fc) f gs (st,l)=some r->AY dE dF fa fb fc st sm->∃r',uH fm hs (sm,l)=some r'/\AY dE dF fa fb fc r.1 r'.1/\r.2=r'.2
 | [],[],st,sm,l,r,_,hr,hs=>by injection hr with hr;subst hr;exact ⟨_,rfl,hs,rfl⟩
 | [],_::_,_,_,_,_,h,_,_=>by have:=h.1;simp at this
 | _::_,[],_,_,_,_,h,_,_=>by have:=h.1;simp at this
 | g::gs,h::hs,st,sm,l,r,hR,hr,hS=>by
  unfold iA at hr;obtain ⟨q,hq,hr⟩:=Option.bind_eq_some_iff.1 hr;have h0:=hR.2 0 g h rfl rfl;obtain ⟨q',k1,k2,k3⟩:=Yq hf h0 hq hS;dsimp only at hr;obtain ⟨r',m1,m2,m3⟩:=Y0 gs hs q.1 q'.1 (l++[q.2]) r ⟨by have:=hR.1;simpa using this,fun i x y hx hy=>hR.2 (i+1) x y hx hy⟩ hr k2;refine ⟨r',?_,m2,m3⟩;unfold uH;rw [h0.1,k1];show uH fm hs (q'.1,l++[q'.2])=_;rw [<-k3];exact m1
theorem YK {part:LN} {d:cR} {x y:List (List Cl)}:∀ (ts:LN) (st:St) (sm:dU) (l:List (List Cl)) (r:St×List (List Cl)),(∀t∈ts,dI (yP s fa fb fc dE dF a) (eu (fP (aG fc) (fq d t) a) part) (ik ((x[t]?).getD []) ((y[t]?).getD [])))->iP (aG fc) f a part (ts.map (fq d)) (st,l)=some r->AY dE dF fa fb fc st sm->∃r',vA fm x y ts (sm,l)=some r'/\AY dE dF fa fb fc r.1 r'.1/\r.2=r'.2
 | [],st,sm,l,r,_,hr,hs=>by injection hr with hr;subst hr;exact ⟨_,rfl,hs,rfl⟩
 | t::ts,st,sm,l,r,hR,hr,hS=>by
  rw [map_cons] at hr;unfold iP at hr;obtain ⟨q,hq,hr⟩:=Option.bind_eq_some_iff.1 hr;obtain ⟨q',k1,k2,k3⟩:=Y0 hf _ _ _ _ _ _ (hR t mem_cons_self) hq hS;dsimp only at hr;obtain ⟨r',m1,m2,m3⟩:=YK ts q.1 q'.1 (l++[q.2]) r (fun t' h'=>hR t' (mem_cons_of_mem _ h')) hr k2;refine ⟨r',?_,m2,m3⟩;unfold vA;dsimp only;rw [k1];show vA fm x y ts (q'.1,l++[q'.2])=_;rw [<-k3];exact m1
theorem Yl (ht:tP s fa fb fc) (hA:nY s fa dE) (hB:nY s fb dF) (most:Nat):Qn fa fb fc dE dF a (fR (aG fc) (s.ak.map gl) most f a) (xJ dE.nodes dF.nodes most fm):=by
 have br:a<s.ak.length:=by
  match f,fm,hf with
  | none,none,hf=>exact Nat.lt_of_succ_le (Nat.le_of_eq hf)
  | some _,some _,hf=>have:=hf.1;omega
 have hd:=gE br;generalize s.ak[a]=d at hd;intro part st sm r p hr hS hp;unfold fR at hr;unfold xJ;rw [a1a ht hA.once hB.once hp _ _ hS.pairs];dsimp only;split at hr
 .rename_i i hi;injection hr with hr
  subst hr;rw [hi];exact ⟨_,rfl,hS,rfl⟩
 .rename_i hi;rw [hi];obtain ⟨q,hq,hr⟩:=Option.bind_eq_some_iff.1 hr;obtain ⟨x,hx,hr⟩:=Option.bind_eq_some_iff.1 hr;obtain ⟨h1,h2,h3,eY⟩:=Qd ht hA hB hp hd;rw [h1,h2];rw [QZ a hd] at hq;obtain ⟨q',k1,k2,k3⟩:=YK (d:=d) (x:=(cL dE.nodes p.1).lists) (y:=(cL dF.nodes p.2).lists) hf (range d.aw.length) st sm [] q (fun t lY=>h3 t (mem_range.1 lY)) hq hS;rw [k1];dsimp only [Option.bind_some];obtain ⟨x',m1,m2,m3⟩:=Yq hf eY hx k2;dsimp only at m1;rw [m1];dsimp only [Option.bind_some];rw [<-m2.nodes];split at hr
  .rename_i ae;rw [if_pos ae];injection hr with hr
   subst hr;refine ⟨_,rfl,⟨by dsimp only;rw [m3,k3],?_⟩,rfl⟩;exact dI.snoc m2.pairs hp
  .cases hr
end
theorem YE (ht:tP s fa fb fc) (hA:nY s fa dE) (hB:nY s fb dF) (most:Nat):∀d,d<s.ak.length->Qn fa fb fc dE dF (s.ak.length-1-d) (visit (aG fc) (s.ak.map gl) most s.ak.length d) (AK dE.nodes dF.nodes most d)
 | 0,h=>Yl (f:=none) (fm:=none) (show s.ak.length-1+1=s.ak.length by omega) ht hA hB most
 | d+1,h=>by
  refine Yl (f:=some _) (fm:=some _) ⟨by omega,?_⟩ ht hA hB most;rw [show s.ak.length-1-(d+1)+1=s.ak.length-1-d by omega];exact YE ht hA hB most d (by omega)
end
theorem ZF {s:aW} {fs:List Fa} {most:Nat} {ns:List aI} (hs:dO s) (h:dQ s fs most=some ns):∃st,st.nodes=ns/\nY s fs st/\rF st.parts fs 0 (fun _=>true) (lR ns):=by
 by_cases he:fs=[]
 .subst he;have:=F8 h;subst this;exact ⟨⟨[],[]⟩,rfl,.inr ⟨rfl,rfl⟩,.inl ⟨rfl,rfl⟩⟩
 .obtain ⟨r,_,rfl,hT⟩:=QA hs he h;refine ⟨r.1,rfl,.inl hT,.inr ⟨?_,r.1.nodes.length-1,?_,?_⟩⟩
  .rw [EG];intro e;exact he (length_eq_zero_iff.1 (by simpa using congrArg length e))
  .unfold lR;have:=hT.pos;omega
  .rw [EG];exact hT.top
theorem a6M {s:aW} {fa fb fc:List Fa} {most m1 m2:Nat} {na nb nc:List aI} (ht:tP s fa fb fc) (ha:dQ s fa m1=some na) (hb:dQ s fb m2=some nb) (hc:dQ s fc most=some nc):CH s.ak.length na nb most=some nc/\((na≠[]\/nb≠[])->tS na nb s.ak.length (s.ak.length-1) (lR na,lR nb)):=by
 obtain ⟨dE,rfl,hA,pA⟩:=ZF ht.eF ha;obtain ⟨dF,rfl,hB,pB⟩:=ZF ht.eF hb;have hn:=ht.eF.n1;unfold CH;by_cases he:fc=[]
 .subst he;have:=F8 hc;subst this;have z:∀ {fs:List Fa} {st:St},yH fs ([]:List Fa)->nY s fs st->st.nodes=[]:=by
   intro fs st Ci hC;rcases hC with hC | ⟨_,rfl⟩
   .exfalso;have h1:=hC.kZ.part _ _ hC.top;obtain ⟨i,hi⟩:=exists_mem_of_ne_nil _ h1.2.ne;obtain ⟨j,hj,_⟩:=Ci i (mem_range.1 hi);simp at hj
   .rfl
  have y1:=z ht.sa hA;have y2:=z ht.sb hB;rw [y1,y2];exact ⟨by rw [if_pos ⟨rfl,rfl⟩],fun h=>absurd rfl (h.elim id id)⟩
 .unfold dQ at hc;rw [if_neg he] at hc;obtain ⟨r,hr,rfl⟩:=Option.map_eq_some_iff.1 hc;have av:cK fc (fun _=>true)≠[]:=by
   rw [EG];intro e;exact he (length_eq_zero_iff.1 (by simpa using congrArg length e))
  rw [<-EG] at hr;have e0:s.ak.length-1-(s.ak.length-1)=0:=by omega
  have hp:uS dE dF fa fb fc (0,cK fc fun _=>true) (lR dE.nodes,lR dF.nodes):=⟨_,rfl,av,pA,pB⟩
  obtain ⟨r',k1,k2,k3⟩:=YE ht hA hB most (s.ak.length-1) (by omega) _ _ ⟨[],[]⟩ _ (lR dE.nodes,lR dF.nodes) hr ⟨rfl,dI.nil _⟩ (by rw [e0];exact hp);refine ⟨?_,fun _=>Rx ht hA hB _ 0 _ _ (by omega) hp⟩;rw [if_neg,k1,k2.nodes]
  .rfl
  .rintro ⟨e1,e2⟩;have z:∀ {fs:List Fa} {st:St},nY s fs st->st.nodes=[]->fs=[]:=by
    intro fs st hC hh;rcases hC with hC | ⟨h,_⟩
    .have:=hC.pos;rw [hh] at this;simp at this
    .exact h
   have y1:=z hA e1;have y2:=z hB e2;subst y1 y2;exact av (ht.nil.2 ⟨rfl,rfl⟩)
def Pw (ps:List (LN×Ag)) (l:List Fa):Prop:=(∀K,jX K (aG l)=jX K ps)/\∀key,(∃x∈aG l,x.1=key)↔∃x∈ps,x.1=key
structure oN (s:aW) (rows:List Rw) (l:List Fa):Prop where
 eF:dO s
 ok:gK s l
 of:∃ps,rI s rows ps/\(∀x∈ps,xN s x.1/\GA s.aU.length 1 x.2)/\ps.length<=64/\Pw ps l
theorem PR {l:List Fa} (h:Mb l):(aG l).Pairwise fun a b=>bP a.1 b.1<0:=by
 have H:∀u v (hu:u<l.length) (hv:v<l.length),u<v->bP l[u].keys l[v].keys<0:=by
  intro u v
  induction v with
  | zero=>intro hu hv h;omega
  | succ v ih =>
   intro hu hv huv;have h1:=h v hv;by_cases FJ:u=v
   .subst FJ;exact h1
   .have h2:=ih hu (by omega) (by omega);have h3:=Fw (Int.le_of_lt h2) (Int.le_of_lt h1);rcases Int.lt_or_eq_of_le h3 with h4 | h4
    .exact h4
    .exfalso;have h5:=Fm h4;rw [<-h5,xy] at h1;omega
 unfold aG;rw [pairwise_map];exact pairwise_iff_getElem.2 fun i j hi hj hij=>H i j hi hj hij
theorem Xp {l:List (LN×Ag)} (h:l.Pairwise fun a b=>bP a.1 b.1<0) {x:LN×Ag} (hx:x∈l):jX (fun k=>k == x.1) l=some x.2:=by
 have hf:(l.filter fun y=>y.1 == x.1)=[x]:=by
  induction l with
  | nil=>cases hx
  | cons y l ih =>
   obtain ⟨h1,h2⟩:=pairwise_cons.1 h;rcases mem_cons.1 hx with e | hx
   .subst e;rw [filter_cons_of_pos (by simp),filter_eq_nil_iff.2];intro z hz he;have:=h1 z hz;rw [beq_iff_eq.1 he,AU] at this;omega
   .rw [filter_cons_of_neg,ih h2 hx];intro he;have:=h1 x hx;rw [beq_iff_eq.1 he,AU] at this;omega
 unfold jX;rw [hf];rfl
theorem Ys {s:aW} {rows:List Rw} {l l':List Fa} (h:oN s rows l) (h':oN s rows l'):aG l=aG l':=by
 obtain ⟨ps,h1,h2,h3,h4,h5⟩:=h.of;obtain ⟨ps',k1,k2,k3,k4,k5⟩:=h'.of;have e:=F4 h.eF h1 k1;subst e;have p1:=PR h.ok.vN;have p2:=PR h'.ok.vN;have half:∀ {a b:List (LN×Ag)},a.Pairwise (fun x y=>bP x.1 y.1<0)->b.Pairwise (fun x y=>bP x.1 y.1<0)->(∀K,jX K a=jX K b)->(∀key,(∃x∈a,x.1=key)->∃x∈b,x.1=key)->∀x∈a,x∈b:=by
  intro a b ha hb hs hk x hx;obtain ⟨y,hy,e⟩:=hk x.1 ⟨x,hx,rfl⟩;have e1:=Xp ha hx;have e2:=Xp hb hy;rw [e,<-hs,e1] at e2;injection e2 with e2
  have:x=y:=Prod.ext e.symm e2;rw [this];exact hy
 have nd:∀ {a:List (LN×Ag)},a.Pairwise (fun x y=>bP x.1 y.1<0)->a.Nodup:=by
  intro a ha;rw [nodup_iff_pairwise_ne];refine ha.imp fun {x y} BD e => ?_
  rw [e,AU] at BD;omega
 have hm:∀x,x∈aG l↔x∈aG l':=fun x=>⟨half p1 p2 (fun K=>(h4 K).trans (k4 K).symm) (fun key hx=>(k5 key).2 ((h5 key).1 hx)) x,half p2 p1 (fun K=>(k4 K).trans (h4 K).symm) (fun key hx=>(h5 key).2 ((k5 key).1 hx)) x⟩
 have hp:(aG l).Perm (aG l'):=(perm_ext_iff_of_nodup (nd p1) (nd p2)).2 hm;refine hp.eq_of_pairwise (le:=fun a b=>bP a.1 b.1<0) (fun a b ha hb vp wJ => ?_) p1 p2;rw [xy] at wJ;omega
theorem Qi {s:aW} {l l':List Fa} (h:aG l=aG l') (m:Nat):dQ s l m=dQ s l' m:=by
 have hl:l.length=l'.length:=by
  have:=congrArg length h;unfold aG at this;rw [lM,lM] at this;exact this
 have hn:l=[]↔l'=[]:=by rw [<-length_eq_zero_iff,<-length_eq_zero_iff,hl]
 unfold dQ;by_cases he:l=[]
 .rw [if_pos he,if_pos (hn.1 he)]
 .rw [if_neg he,if_neg (fun h=>he (hn.2 h)),h,hl]
theorem IQ {s:aW} {r1 r2:List Rw} {ps:List (LN×Ag)} (h:rI s (r1++r2) ps):∃p1 p2,ps=p1++p2/\rI s r1 p1/\rI s r2 p2:=by
 obtain ⟨l,⟨h1,h2⟩,rfl⟩:=h;rw [aS] at h1;refine ⟨aG (l.take r1.length),aG (l.drop r1.length),?_,⟨_,⟨by rw [length_take];omega,fun i r f hr hf => ?_⟩,rfl⟩,⟨_,⟨by rw [length_drop];omega,fun i r f hr hf => ?_⟩,rfl⟩⟩
 .unfold aG;rw [<-map_append,take_append_drop]
 .have hi:=(bS hr).1;rw [getElem?_take_of_lt hi] at hf;exact h2 i r f (by rw [getElem?_append_left hi];exact hr) hf
 .rw [getElem?_drop] at hf;exact h2 (r1.length+i) r f (by rw [getElem?_append_right (by omega),Nat.add_sub_cancel_left];exact hr) hf
theorem Zu {m k:Nat} {a:Ag} {j:Nat} (ha:mK j a) (Ek:lP m a\/a=aO):∀ (l:List Ag) (x:Ag) (i:Nat),GA m i x->(∀y∈l,GA m k y)->j+i+k*l.length<=5000->((bY a x).bind fun r=>gq r l)=(gq x l).bind fun r=>bY a r
 | [],x,i,hx,_,_=>by
  show ((bY a x).bind some)=bY a x;cases bY a x<;>rfl
 | b::l,x,i,hx,hl,hn=>by
  rw [length_cons,Nat.mul_succ] at hn;obtain ⟨x',hx',gx'⟩:=join_some hx.b (.inl hx.ok) (hl b mem_cons_self) (by omega:i+k<=5000);have ih:=Zu ha Ek l x' (i+k) gx' (fun y hy=>hl y (mem_cons_of_mem _ hy)) (by omega);have hs:=join_assoc ha Ek hx (hl b mem_cons_self) (by omega:j+i+k<=5000);rw [hx'] at hs;show ((bY a x).bind fun r=>(bY r b).bind fun q=>gq q l)=((bY x b).bind fun q=>gq q l).bind fun r=>bY a r
  rw [hx'];show _=(gq x' l).bind fun r=>bY a r
  rw [<-ih];have o7:((bY a x).bind fun r=>bY r b)=bY a x':=hs;rw [<-o7];cases bY a x<;>rfl
theorem a8i {m:Nat} {a:Ag} {j:Nat} (ha:mK j a) (Ek:lP m a\/a=aO) (l:List Ag) (hl:∀y∈l,GA m 1 y) (hn:j+l.length<=5000):gq a l=(gq aO l).bind fun r=>bY a r:=by
 cases l with
 | nil =>
  show some a=bY a aO;unfold bY;split
  .rename_i h0;rcases Ek with h | h
   .have:=h.c;omega
   .rw [h]
  .rfl
 | cons b l =>
  rw [length_cons] at hn;have h:=Zu ha Ek l b 1 (hl b mem_cons_self) (fun y hy=>hl y (mem_cons_of_mem _ hy)) (by omega);show ((bY a b).bind fun r=>gq r l)=((bY aO b).bind fun q=>gq q l).bind _;rw [h];rfl
theorem Rh {ps1 ps:List (LN×Ag)} {l1 l:List Fa} (h:∀x∈ps1,x∈ps) (h1:Pw ps1 l1) (h2:Pw ps l):yH l1 l:=fun i hi=>by
 obtain ⟨x,hx,e⟩:=(h1.2 (ei l1 i)).1 (mem_keys.2 ⟨i,hi,rfl⟩);exact mem_keys.1 ((h2.2 (ei l1 i)).2 ⟨x,h x hx,e⟩)
theorem a9I {s:aW} {r1 r2:List Rw} {fa fb fc:List Fa} (ha:oN s r1 fa) (hb:oN s r2 fb) (hc:oN s (r1++r2) fc):tP s fa fb fc:=by
 obtain ⟨pa,a1,a2,a3,a4⟩:=ha.of;obtain ⟨pb,b1,b2,b3,b4⟩:=hb.of;obtain ⟨pc,c1,c2,c3,c4⟩:=hc.of;obtain ⟨p1,p2,rfl,e1,e2⟩:=IQ c1;have e1:=F4 ha.eF a1 e1;have e2:=F4 ha.eF b1 e2;subst e1 e2;rw [aS] at c3;refine ⟨ha.eF,ha.ok,hb.ok,hc.ok,Rh (fun x hx=>mem_append_left _ hx) a4 c4,Rh (fun x hx=>mem_append_right _ hx) b4 c4,fun i hi => ?_,fun K => ?_⟩
 .obtain ⟨x,hx,e⟩:=(c4.2 (ei fc i)).1 (mem_keys.2 ⟨i,hi,rfl⟩);rcases mem_append.1 hx with hx | hx
  .exact .inl (mem_keys.1 ((a4.2 _).2 ⟨x,hx,e⟩))
  .exact .inr (mem_keys.1 ((b4.2 _).2 ⟨x,hx,e⟩))
 .rw [a4.1,b4.1,c4.1,QR];obtain ⟨r,hr,mf,my⟩:=RI (m:=s.aU.length) (k:=1) K pa (fun x hx=>(a2 x hx).2) (by omega);rw [hr];show bY r _=some (((gq r _)).getD aO);have iE:(pb.filter fun x=>K x.1).length<=pb.length:=length_filter_le _ _;have hl:∀y∈(pb.filter fun x=>K x.1).map Prod.snd,GA s.aU.length 1 y:=fun y hy=>by
   obtain ⟨x,hx,rfl⟩:=mem_map.1 hy;exact (b2 x (mem_filter.1 hx).1).2
  rw [a8i mf my _ hl (by rw [lM];omega)];obtain ⟨q,hq,hqb,V8⟩:=RI (m:=s.aU.length) (k:=1) K pb (fun x hx=>(b2 x hx).2) (by omega);rw [hq];unfold jX at hq;rw [hq];show bY r q=some ((bY r q).getD aO);rcases V8 with V8 | rfl
  .obtain ⟨z,hz,_⟩:=join_some mf my ⟨hqb,V8⟩ (by omega:1*pa.length+1*pb.length<=5000);rw [hz];rfl
  .unfold bY;split
   .rfl
   .rfl
def FC (s:aW) (rows:List Rw) (ns:List aI):Prop:=∃l,oN s rows l/\dQ s l 20000=some ns
theorem FC.one {s:aW} {rows:List Rw} {ns yn:List aI} (h:FC s rows ns) (h':FC s rows yn):ns=yn:=by
 obtain ⟨l,h1,h2⟩:=h;obtain ⟨l',k1,k2⟩:=h';rw [Qi (Ys h1 k1),k2] at h2;injection h2 with h2
 exact h2.symm
theorem FC.sub {s:aW} {rows:List Rw} {ns:List aI} (h:FC s rows ns) {a b c:List Rw} (e:rows=a++(b++c)) {l:List Fa} (hl:oN s b l):∃yn,dQ s l 20000=some yn:=by
 obtain ⟨l0,h1,h2⟩:=h;obtain ⟨ps,k1,k2,k3,k4⟩:=h1.of;obtain ⟨pb,b1,b2,b3,b4⟩:=hl.of;rw [e] at k1;obtain ⟨p1,p2,rfl,_,e2⟩:=IQ k1;obtain ⟨p3,p4,rfl,e3,_⟩:=IQ e2;have:=F4 hl.eF b1 e3;subst this;exact a5X hl.eF hl.ok h1.ok (Rh (fun x hx=>mem_append_right _ (mem_append_left _ hx)) b4 k4) h2
theorem FC.merge {s:aW} {r1 r2:List Rw} {na nb:List aI} {fc:List Fa} (ha:FC s r1 na) (hb:FC s r2 nb) (hc:oN s (r1++r2) fc) {nc:List aI} (h:dQ s fc 20000=some nc):CH s.ak.length na nb 20000=some nc/\((na≠[]\/nb≠[])->tS na nb s.ak.length (s.ak.length-1) (lR na,lR nb))/\FC s (r1++r2) nc:=by
 obtain ⟨fa,a1,a2⟩:=ha;obtain ⟨fb,b1,b2⟩:=hb;obtain ⟨k1,k2⟩:=a6M (a9I a1 b1 hc) a2 b2 h;exact ⟨k1,k2,fc,hc,h⟩
theorem XJ {s:aW} {rows:List Rw} {ps qs r:List (LN×Ag)} {l:List Fa} (o7:dO s) (h:rI s rows ps) (hn:ps.length<=64) (th:∀x∈ps,xN s x.1/\GA s.aU.length 1 x.2) (hp:qs.Perm ps) (hs:xC qs) (hf:ki [] qs=some r) (hl:l.map pl=r):oN s rows l:=by
 have hq:∀x∈qs,xN s x.1/\GA s.aU.length 1 x.2:=fun x hx=>th x (hp.mem_iff.1 hx)
 have gY:qs.length=ps.length:=hp.length_eq;obtain ⟨r',h1,h2,h3,h4⟩:=MB (m:=s.aU.length) (n:=ps.length) hn qs 0 [] ⟨by omega,ah _,(fun x hx=>by cases hx),(fun x hx=>(hq x hx).2),List.Pairwise.nil,hs,(fun x hx=>by cases hx)⟩;rw [hf] at h1;injection h1 with h1
 subst h1;have om:∀key,(∃x∈r,x.1=key)↔∃x∈ps,x.1=key:=fun key=>by
  rw [h4 key];constructor
  .rintro (⟨x,hx,_⟩ | ⟨x,hx,e⟩)
   .cases hx
   .exact ⟨x,hp.mem_iff.1 hx,e⟩
  .rintro ⟨x,hx,e⟩;exact .inr ⟨x,hp.mem_iff.2 hx,e⟩
 have L4:aG l=r:=hl;refine ⟨o7,⟨?_,fun f gZ => ?_,fun f gZ => ?_,fun i hi => ?_⟩,ps,h,th,hn,fun K => ?_,by rw [L4];exact om⟩
 .have:=h2.Mn;rw [<-hl,lM] at this;omega
 .obtain ⟨x,hx,e⟩:=(om f.keys).1 ⟨pl f,by rw [<-hl];exact mem_map_of_mem gZ,rfl⟩;rw [<-e];exact (th x hx).1
 .have:=h2.CD (pl f) (by rw [<-hl];exact mem_map_of_mem gZ);exact ⟨(this.more hn).b,this.ok⟩
 .have mG:=h2.up;rw [<-hl,pairwise_map] at mG;exact pairwise_iff_getElem.1 mG i (i+1) (by omega) hi (by omega)
 .rw [L4,h3 K,nil_append];unfold jX;refine Yv (m:=s.aU.length) (k:=1) ((hp.filter _).map _) aO 0 LS (.inr rfl) (fun a ha => ?_) ?_
  .obtain ⟨x,hx,rfl⟩:=mem_map.1 ha;exact (hq x (mem_filter.1 hx).1).2
  .rw [lM];have:=length_filter_le (fun x:LN×Ag=>K x.1) qs;omega
theorem Xm {s:aW} {ps qs:List (LN×Ag)} (hn:ps.length<=64) (th:∀x∈ps,xN s x.1/\GA s.aU.length 1 x.2) (hp:qs.Perm ps) (hs:xC qs):∃r,ki [] qs=some r:=by
 have gY:qs.length=ps.length:=hp.length_eq;obtain ⟨r',h1,_⟩:=MB (m:=s.aU.length) (n:=ps.length) hn qs 0 [] ⟨by omega,ah _,(fun x hx=>by cases hx),(fun x hx=>(th x (hp.mem_iff.1 hx)).2),List.Pairwise.nil,hs,(fun x hx=>by cases hx)⟩;exact ⟨r',h1⟩
theorem a8K {s:aW} {rows:List Rw} {ps:List (LN×Ag)} (hs:dO s) (h:rI s rows ps) (hn:ps.length<=64) (th:∀x∈ps,xN s x.1/\GA s.aU.length 1 x.2):∃l,oN s rows l:=by
 have hp:=mergeSort_perm ps fun a b=>decide (bP a.1 b.1<=0)
 have hsr:xC (ps.mergeSort fun a b=>decide (bP a.1 b.1<=0)):=by
  have:=pairwise_mergeSort (le:=fun a b:LN×Ag=>decide (bP a.1 b.1<=0)) (fun a b c vp cU=>decide_eq_true (Fw (of_decide_eq_true vp) (of_decide_eq_true cU))) (fun a b=>by
   rw [Bool.or_eq_true,decide_eq_true_iff,decide_eq_true_iff,xy a.1 b.1]
   omega) ps
  exact this.imp fun h=>of_decide_eq_true h
 obtain ⟨r,hr⟩:=Xm hn th hp hsr;refine ⟨r.map fun x=>⟨none,x.1,0,x.2⟩,XJ hs h hn th hp hsr hr ?_⟩;rw [map_map];exact map_id'' (fun x=>rfl) r
theorem oN.part {s:aW} {rows:List Rw} {l:List Fa} (h:oN s rows l) {a b c:List Rw} (e:rows=a++(b++c)):∃l',oN s b l':=by
 obtain ⟨ps,k1,k2,k3,k4⟩:=h.of;rw [e] at k1;obtain ⟨p1,p2,rfl,_,e2⟩:=IQ k1;obtain ⟨p3,p4,rfl,e3,_⟩:=IQ e2;simp only [aS] at k3;exact a8K h.eF e3 (by omega) (fun x hx=>k2 x (mem_append_right _ (mem_append_left _ hx)))
theorem FC.two {s:aW} {rows a r1 r2 c:List Rw} {ns na nb:List aI} (h:FC s rows ns) (e:rows=a++(r1++r2++c)) (ha:FC s r1 na) (hb:FC s r2 nb):∃nc,CH s.ak.length na nb 20000=some nc/\((na≠[]\/nb≠[])->tS na nb s.ak.length (s.ak.length-1) (lR na,lR nb))/\FC s (r1++r2) nc:=by
 obtain ⟨l0,h1,h2⟩:=h;obtain ⟨fc,hc⟩:=h1.part e;obtain ⟨nc,j7⟩:=FC.sub ⟨l0,h1,h2⟩ e hc;exact ⟨nc,ha.merge hb hc j7⟩
def jt (nd:Nat) (ns:List aI) (i:Nat):LN:=match ns[i]? with
 | some n=>if n.aj+1=nd then [] else (di n).map Cl.child
 | none=>[]
inductive oM (ch:Nat->LN):Nat->LN->Nat->Prop
 | nil {k:Nat}:oM ch k [] k
 | old {k k' c:Nat} {cs:LN}:c<k->oM ch k cs k'->oM ch k (c::cs) k'
 | new {k k' c:Nat} {cs:LN}:k<=c->oM ch k (ch c) c->oM ch (c+1) cs k'->oM ch k (c::cs) k'
theorem oM.append {ch:Nat->LN} {k k1 k2:Nat} {cs ds:LN} (h:oM ch k cs k1):oM ch k1 ds k2->oM ch k (cs++ds) k2:=by
 induction h with
 | nil=>exact id
 | old h1 _ ih=>exact fun h => .old h1 (ih h)
 | new h1 h2 _ _ ih=>exact fun h => .new h1 h2 (ih h)
def sF (st:St) (ns:List aI):Prop:=∃xs,ns=st.nodes++xs
theorem sF.of {a b:St} {ns:List aI} (h:sF b ns) (he:Ext a b):sF a ns:=by
 obtain ⟨xs,rfl⟩:=h;obtain ⟨ys,_,e,_⟩:=he;exact ⟨ys++xs,by rw [e,append_assoc]⟩
def Lv (st:St):Prop:=st.parts.length=st.nodes.length
def RO (nd:Nat) (g:Rec):Prop:=∀part st r,g part st=some r->Lv st->Lv r.1/\Ext st r.1/\∀ns,sF r.1 ns->oM (jt nd ns) st.nodes.length [r.2] r.1.nodes.length
def aar (nd a:Nat) (f:Option Rec):Prop:=match f with
 | none=>a+1=nd
 | some g=>a+1<nd/\RO nd g
section
variable {ps:List (LN×Ag)} {lifts:List (List LN)} {nd a:Nat} {f:Option Rec} (hf:aar nd a f)
include hf
def vI (nd:Nat) (f:Option Rec) (st dT:St) (cs:LN):Prop:=Lv dT/\Ext st dT/\(f=none->dT=st)/\(f≠none->∀ns,sF dT ns->oM (jt nd ns) st.nodes.length cs dT.nodes.length)
omit hf in
theorem vI.refl (nd:Nat) (f:Option Rec) {st:St} (h:Lv st):vI nd f st st []:=⟨h,Ext.refl _,fun _=>rfl,fun _ _ _ => .nil⟩
omit hf in
theorem vI.trans {x y z:St} {cs ds:LN} (h:vI nd f x y cs) (k:vI nd f y z ds):vI nd f x z (cs++ds) :=
 ⟨k.1,h.2.1.trans k.2.1,fun e=>(k.2.2.1 e).trans (h.2.2.1 e),fun e ns hp=>(h.2.2.2 e ns (hp.of k.2.1)).append (k.2.2.2 e ns hp)⟩
theorem a1e {key:Nat} {part:LN} {st:St} {r:St×Cl} (h:il ps f key part st=some r) (hl:Lv st):vI nd f st r.1 [r.2.child]:=by
 unfold il at h;split at h
 .injection h with h
  subst h;exact ⟨hl,Ext.refl _,fun _=>rfl,fun e=>absurd rfl e⟩
 .obtain ⟨q,hq,e⟩:=Option.map_eq_some_iff.1 h;subst e;obtain ⟨h1,h2,h3⟩:=hf.2 _ _ _ hq hl;exact ⟨h1,h2,fun e=>(by cases e),fun _=>h3⟩
theorem XS:∀ (gs:List (Nat×LN)) (s r:St×List Cl),iA ps f gs s=some r->Lv s.1->∃cs,r.2=s.2++cs/\vI nd f s.1 r.1 (cs.map Cl.child)
 | [],s,r,h,hl=>by injection h with h;subst h;exact ⟨[],by simp,vI.refl _ _ hl⟩
 | g::gs,s,r,h,hl=>by
  unfold iA at h;obtain ⟨q,hq,h⟩:=Option.bind_eq_some_iff.1 h;have h1:=a1e hf hq hl;obtain ⟨cs,e,h2⟩:=XS gs _ _ h h1.1;exact ⟨q.2::cs,by rw [e];simp,h1.trans h2⟩
theorem a0M {part:LN}:∀ (ls:List LN) (s r:St×List (List Cl)),iP ps f a part ls s=some r->Lv s.1->∃cs,r.2=s.2++cs/\vI nd f s.1 r.1 (cs.flatten.map Cl.child)
 | [],s,r,h,hl=>by injection h with h;subst h;exact ⟨[],by simp,vI.refl _ _ hl⟩
 | l::ls,s,r,h,hl=>by
  unfold iP at h;obtain ⟨q,hq,h⟩:=Option.bind_eq_some_iff.1 h;obtain ⟨ds,e1,h1⟩:=XS hf _ _ _ hq hl;obtain ⟨cs,e,h2⟩:=a0M ls _ _ h h1.1;refine ⟨q.2::cs,by rw [e];simp,?_⟩;rw [flatten_cons,map_append,e1];exact h1.trans h2
theorem Ya (most:Nat):RO nd (fR ps lifts most f a):=by
 intro part st r h hl;unfold fR at h;split at h
 .rename_i i hi;injection h with h
  subst h;have:=(bS (Xr hi)).1;exact ⟨hl,Ext.refl _,fun ns hp => .old (by rw [<-hl];exact this) .nil⟩
 .obtain ⟨q,hq,h⟩:=Option.bind_eq_some_iff.1 h;obtain ⟨x,hx,h⟩:=Option.bind_eq_some_iff.1 h;obtain ⟨cs,e1,h1⟩:=a0M hf _ _ _ hq hl;have h2:=h1.trans (a1e hf hx h1.1);split at h
  .injection h with h
   subst h;have hE:Ext x.1 ⟨x.1.nodes++[⟨a,q.2,x.2⟩],x.1.parts++[(a,part)]⟩:=⟨_,_,rfl,rfl⟩
   refine ⟨by unfold Lv;dsimp only;rw [aS,aS,h2.1];rfl,h2.2.1.trans hE,fun ns hp => ?_⟩;dsimp only;rw [aS];refine .new h2.2.1.len ?_ .nil;have hn:ns[x.1.nodes.length]? = some ⟨a,q.2,x.2⟩:=by
    obtain ⟨xs,rfl⟩:=hp;dsimp only;rw [append_assoc,getElem?_append_right (ah _),Nat.sub_self];rfl
   have e:jt nd ns x.1.nodes.length=if a+1=nd then [] else (q.2.flatten++[x.2]).map Cl.child:=by
    unfold jt;rw [hn];rfl
   rw [e];by_cases kU:a+1=nd
   .have V9:f=none:=by
     cases f with
     | none=>rfl
     | some g=>have:=hf.1;omega
    rw [if_pos kU,h2.2.2.1 V9];exact .nil
   .have V9:f≠none:=fun e=>by subst e;exact kU hf
    rw [if_neg kU,e1,nil_append,map_append];exact h2.2.2.2 V9 ns (hp.of hE)
  .cases h
end
theorem a1j {ps:List (LN×Ag)} {lifts:List (List LN)} {most nd:Nat}:∀ {d:Nat},d<nd->RO nd (visit ps lifts most nd d)
 | 0,h=>Ya (f:=none) (show nd-1+1=nd by omega) most
 | d+1,h=>Ya (f:=some (visit ps lifts most nd d)) ⟨by omega,a1j (by omega)⟩ most
theorem a6P {s:aW} {fs:List Fa} {most:Nat} {ns:List aI} (hs:dO s) (h:dQ s fs most=some ns) (av:ns≠[]):oM (jt s.ak.length ns) 0 [ns.length-1] ns.length:=by
 have hn:=hs.n1;by_cases he:fs=[]
 .subst he;exact absurd (F8 h) av
 .unfold dQ at h;rw [if_neg he] at h;obtain ⟨r,hr,rfl⟩:=Option.map_eq_some_iff.1 h;obtain ⟨_,_,h3⟩:=a1j (by omega:s.ak.length-1<s.ak.length) _ _ _ hr rfl;have ht:=MV hr;have:=h3 r.1.nodes ⟨[],by simp⟩;rw [show r.2=r.1.nodes.length-1 by omega] at this;exact this
theorem Zr:∀ (a:Nat) (x y:LN),bP x y<0->x.take a=y.take a->∀p q,x[a]? = some p->y[a]? = some q->p<=q
 | _,[],y,_,_,p,q,h1,_=>by simp at h1
 | _,_::_,[],h,_,p,q,_,h2=>by simp at h2
 | 0,b::x,c::y,h,_,p,q,h1,h2=>by
  injection h1 with h1
  injection h2 with h2
  subst h1 h2;rw [bP] at h;by_cases hc:c<b
  .rw [if_neg (by omega),if_pos hc] at h;omega
  .omega
 | a+1,b::x,c::y,h,e,p,q,h1,h2=>by
  rw [take_succ_cons,take_succ_cons] at e;injection e with e1 e2
  subst e1;rw [bP,if_neg (by omega),if_neg (by omega)] at h;exact Zr a x y h e2 p q h1 h2
theorem a62 {key:Nat->Nat} {part:LN} (ae:∀i∈part,key i<200) (hp:part.Pairwise fun i j=>key i<=key j):(eu key part).flatMap Prod.snd=part:=by
 have step:∀ (n:Nat) (l:LN),l.Pairwise (fun i j=>key i<=key j)->(l.filter fun i=>decide (key i<n+1))=(l.filter fun i=>decide (key i<n))++ia key l n:=by
  intro n l;unfold ia
  induction l with
  | nil=>intro _;rfl
  | cons x l ih =>
   intro hl;obtain ⟨h1,h2⟩:=pairwise_cons.1 hl;have ih:=ih h2;simp only [filter_cons];by_cases h3:key x<n
   .have e1:decide (key x<n+1)=true:=decide_eq_true (by omega);have e2:decide (key x<n)=true:=decide_eq_true h3;have e3:(key x == n)=false:=by rw [beq_eq_false_iff_ne];omega
    simp only [e1,e2,e3,if_true,Bool.false_eq_true,if_false];rw [ih];rfl
   .have e2:decide (key x<n)=false:=decide_eq_false h3;have e4:(l.filter fun i=>decide (key i<n))=[]:=filter_eq_nil_iff.2 fun y hy=>by
     have:=h1 y hy;simp;omega
    rw [e4,nil_append] at ih;simp only [e2,Bool.false_eq_true,if_false];rw [e4,nil_append,ih];by_cases h5:key x=n
    .have e1:decide (key x<n+1)=true:=decide_eq_true (by omega);have e3:(key x == n)=true:=by rw [beq_iff_eq];exact h5
     simp only [e1,e3,if_true]
    .have e1:decide (key x<n+1)=false:=decide_eq_false (by omega);have e3:(key x == n)=false:=by rw [beq_eq_false_iff_ne];exact h5
     simp only [e1,e3,Bool.false_eq_true,if_false]
 have H:∀n,((range n).filterMap fun k=>if ia key part k=[] then none else some (k,ia key part k)).flatMap Prod.snd=part.filter fun i=>decide (key i<n):=by
  intro n
  induction n with
  | zero=>rw [filter_eq_nil_iff.2 (fun i _=>by simp)];rfl
  | succ n ih =>
   rw [range_succ,filterMap_append,flatMap_append,ih,step n part hp]
   congr 1
   by_cases he:ia key part n=[]
   .simp [he]
   .simp [he]
 unfold eu;rw [H 200,filter_eq_self.2 fun i hi=>decide_eq_true (ae i hi)]
section
variable {s:aW} {fs:List Fa} {st:St}
theorem CubeS.aaB (h:CubeS s fs st) (hs:dO s) (hf:gK s fs):∀ (d i a:Nat) (part keys:LN),st.parts[i]? = some (a,part)->a+d+1=s.ak.length->part.Pairwise (fun x y=>x<y)->(∀x∈part,(ei fs x).take a=keys)->nU st.nodes d i keys=part.map fun j=>(ei fs j,mS (aG fs) j):=by
 have cM:(aG fs).length=fs.length:=by unfold aG;rw [lM]
 have a3S:=PR hf.vN;have one:∀ (f:Option (Nat->LN->List vR)) (i a:Nat) (part keys:LN),st.parts[i]? = some (a,part)->a<s.ak.length->part.Pairwise (fun x y=>x<y)->(∀x∈part,(ei fs x).take a=keys) ->
  (∀ (g:Nat×LN) (c:Cl),g.2≠[]->(∀x∈g.2,x∈part/\(ei fs x).take (a+1)=keys++[g.1])->g.2.Pairwise (fun x y=>x<y)->rL (aG fs) (decide (a+1=s.ak.length)) st a g.1 g.2 c->AN f keys c=g.2.map fun j=>(ei fs j,mS (aG fs) j)) ->
  AQ st.nodes f i keys=part.map fun j=>(ei fs j,mS (aG fs) j):=by
  intro f i a part keys hp ha H9 hk hc;have hd:=gE ha;have h0:=(hs.ak a ha).n1;obtain ⟨n,l,hn,_,_,h3,h4⟩:=h.row hp hd (k:=0) h0;obtain ⟨_,_,_,jR,_⟩:=h.node hp;have ae:∀x∈part,x<fs.length:=fun x hx=>by have:=jR.lt x hx;rw [cM] at this;exact this
  have wU:∀x∈part,fP (aG fs) (fq s.ak[a] 0) a x=sC (aG fs) a x:=fun x hx=>by rw [EX hs hf (ae x hx) hd];rfl
  have oV:=a62 (key:=fP (aG fs) (fq s.ak[a] 0) a) (part:=part) (fun x hx=>Qx hs hf (ae x hx) hd h0) (H9.imp_of_mem fun {x y} hx hy BD=>by
   rw [wU x hx,wU y hy];have h1:=pairwise_iff_getElem.1 a3S x y (by rw [cM];exact ae x hx) (by rw [cM];exact ae y hy) BD;have ex:ei fs x=((aG fs)[x]'(by rw [cM];exact ae x hx)).1:=by unfold ei;rw [gE (by rw [cM];exact ae x hx)];rfl
   have ey:ei fs y=((aG fs)[y]'(by rw [cM];exact ae y hy)).1:=by unfold ei;rw [gE (by rw [cM];exact ae y hy)];rfl
   rw [<-ex,<-ey] at h1
   exact Zr a _ _ h1 ((hk x hx).trans (hk y hy).symm) _ _ (CR hf (ae x hx) ha) (CR hf (ae y hy) ha))
  unfold AQ;rw [Mr hn h3];refine Eq.trans ?_ (congrArg (List.map fun j=>(ei fs j,mS (aG fs) j)) oV);rw [map_flatMap,flatMap_def,flatMap_def]
  congr 1
  apply ext_getElem?;intro q;rw [getElem?_map,getElem?_map];by_cases hq:q<l.length
  .obtain ⟨g,hg,hr⟩:=dI.left h4 (gE hq);rw [hg,gE hq];show some _=some _
   congr 1
   have tg:=uO.1 (mem_of_getElem? hg);refine hc g _ tg.2.2 (fun x hx => ?_) ?_ hr
   .rw [tg.2.1] at hx;obtain ⟨h6,h7⟩:=mem_filter.1 hx;have h8:=beq_iff_eq.1 h7;rw [wU x h6] at h8;have h9:=CR hf (ae x h6) ha;obtain ⟨zz,D5⟩:=bS h9;refine ⟨h6,?_⟩;rw [take_succ_eq_append_getElem zz,hk x h6,D5,h8]
   .rw [tg.2.1];exact H9.filter _
  .rw [getElem?_eq_none (by omega:l.length<=q),getElem?_eq_none (by have:=h4.1;omega)];rfl
 intro d
 induction d with
 | zero =>
  intro i a part keys hp ha H9 hk;refine one none i a part keys hp (by omega) H9 hk (fun g c av hx zO hr => ?_);have h2:=hr.2;rw [if_pos (decide_eq_true (by omega))] at h2;obtain ⟨_,_,_,jR,_⟩:=h.node hp;have ae:∀x∈part,x<fs.length:=fun x hx=>by have:=jR.lt x hx;rw [cM] at this;exact this
  rcases j':g.2 with _ | ⟨x,xs⟩
  .exact absurd j' av
  .rw [j'] at hx zO h2;have Va:∀z∈x::xs,ei fs z=keys++[g.1]:=fun z hz=>by
    have h3:=(hx z hz).2;rw [take_of_length_le (by rw [(N6 hf (ae z (hx z hz).1)).1];omega)] at h3;exact h3
   have ow:xs=[]:=by
    rcases xs with _ | ⟨y,ys⟩
    .rfl
    .exfalso;have BD:=(pairwise_cons.1 zO).1 y mem_cons_self;have h1:=pairwise_iff_getElem.1 a3S x y (by rw [cM];exact ae x (hx x mem_cons_self).1) (by rw [cM];exact ae y (hx y (mem_cons_of_mem _ mem_cons_self)).1) BD;have e:∀z (hz:z<(aG fs).length),((aG fs)[z]'hz).1=ei fs z:=fun z hz=>by unfold ei;rw [gE hz];rfl
     rw [e,e,Va x mem_cons_self,Va y (mem_cons_of_mem _ mem_cons_self),AU] at h1;omega
   subst ow;show [(keys++[c.key],c.ag)]=[(ei fs x,mS (aG fs) x)]
   rw [Va x mem_cons_self,hr.1,h2.2];rfl
 | succ d ih =>
  intro i a part keys hp ha H9 hk;refine one (some (nU st.nodes d)) i a part keys hp (by omega) H9 hk (fun g c av hx zO hr => ?_);have h2:=hr.2;rw [if_neg (by simp;omega)] at h2;show nU st.nodes d c.child (keys++[c.key])=_;rw [hr.1];exact ih c.child (a+1) g.2 _ h2.2 (by omega) zO (fun x hx'=>(hx x hx').2)
theorem CubeS.a6X (h:CubeS s fs st) (hs:dO s) (hf:gK s fs):pM s.ak.length st.nodes=aG fs:=by
 have hn:=hs.n1;have sU:=h.pos;have cM:(aG fs).length=fs.length:=by unfold aG;rw [lM]
 unfold pM;rw [if_neg (fun e=>by rw [e] at sU;simp at sU),h.aaB hs hf (s.ak.length-1) (st.nodes.length-1) 0 (range fs.length) [] h.top (by omega) pairwise_lt_range (fun x _=>rfl)];apply ext_getElem?;intro q;rw [getElem?_map];by_cases hq:q<fs.length
 .rw [getElem?_range hq,gE (by rw [cM];exact hq)];show some (ei fs q,mS (aG fs) q)=_;unfold ei mS;rw [gE (by rw [cM];exact hq)];rfl
 .rw [getElem?_eq_none (by rw [length_range];omega),getElem?_eq_none (by rw [cM];omega)];rfl
end
theorem a71 {s:aW} {fs:List Fa} {most:Nat} {ns:List aI} (hs:dO s) (hf:gK s fs) (h:dQ s fs most=some ns):pM s.ak.length ns=aG fs:=by
 by_cases av:fs=[]
 .subst av;rw [F8 h];rfl
 .obtain ⟨st,rfl,fM⟩:=PH hs av h;exact fM.a6X hs hf
def iC (w:World) (e:Ending) (w':World):Prop:=e = .returned (.bool true)/\Below w.heap.size w w'
theorem YB (A B:OA) (ca cb:Nat) (l:LN) (w:World) (hl:l.length<=1000000) (jf:Row w w.heap.size A (aP l)) (mf:Row w w.heap.size B (aP l)) :
 Calls Tryz.prog 89 #[.slice A l.length ca,.slice B l.length cb] w (iC w):=by
 have HA:=kp jf;have HB:=kp mf;have HQ:=kp (show ∀w',Below w.heap.size w w'->iC w (.returned (.bool true)) w' from fun w' h=>⟨rfl,h⟩);clear jf mf;generalize iC w=Q at *;obtain ⟨n,hn⟩:∃n,l.length=n:=⟨_,rfl⟩
 rw [hn] at hl ⊢;have Hn:=kp hn;clear hn;have q0:((n:Int) != (n:Int))=false:=by simp
 go_enter Tryz.func89,Tryz.ntmps89;go_wp2_with fail
 go_loopw [13] (fun oE wr=>∃k:Nat,k<=n/\oE = .int .i64 k/\Below w.heap.size w wr) (fun oE _=>n-(intOf oE).toNat)
 case atStart=>exact ⟨0,aZ _,rfl,aq _ _⟩
 case round =>
  obtain ⟨k,hk,rfl,aC⟩:=hrel;have ai:=kp aC;clear aC;by_cases ae:k<n
  .have aA:k<l.length:=by rw [Hn.o];exact ae
   obtain ⟨bA,oA,hA,eQ,c0⟩:=Row.at_ (HA.o.below ai.o) (k:=k) (by rw [ke];exact aA);obtain ⟨bB,oB,hB,FX,d0⟩:=Row.at_ (HB.o.below ai.o) (k:=k) (by rw [ke];exact aA);have e0:(aP l)[k]'(by rw [ke];exact aA) = .int .i64 ((l[k]'aA:Nat):Int):=by unfold aP;rw [getElem_map]
   rw [e0] at c0 d0;rw [hA,hB];clear e0 hA hB;generalize (l[k]'aA)=x at *;have i0:(0:Int)<=(k:Int):=by omega
   have i1:(k:Int)<(n:Int):=by omega
   have q1:((x:Int) != (x:Int))=false:=by simp
   go_wp2_with fail
   go_quiet (fail)
   go_wp2_with fail;exact ⟨⟨k+1,by omega,by go_num,below_drewN ai.o _⟩,by simp [intOf];omega⟩
  .obtain rfl:k=n:=by omega
   have Hf:=kp (HQ.o wr ai.o);go_wp2_with fail;exact Hf.o
theorem a7L (fn:Nat) (so:AV) (A B:OA) (ca cb n:Nat) (vs us:LV) (I:Nat->World->Prop) (w:World) (hn:n<=1000000) (hv:vs.length=n) (hu:us.length=n)
 (Cj:∀ (args:AV) (w:World),(callFunc fn args).run Tryz.prog w = .ok (.enter fn args) w) (h0:I 0 w) (hr:∀k W,I k W->Row W W.heap.size A vs/\Row W W.heap.size B us)
 (hy:∀k W (h1:k<vs.length) (h2:k<us.length),I k W->Calls Tryz.prog fn (#[vs[k],us[k]]++so) W fun e W'=>e = .returned (.bool true)/\I (k+1) W') :
 Calls Tryz.prog 87 #[.slice A n ca,.slice B n cb,.func (.func fn) #[] so] w fun e w'=>e = .returned (.bool true)/\I n w':=by
 have HR:=kp hr;have HY:=kp hy;have H0:=kp h0;generalize hQ:(fun (e:Ending) w'=>e = .returned (.bool true)/\I n w')=Q;have HQ:=kp (show ∀w',I n w'->Q (.returned (.bool true)) w' from fun w' h=>by rw [<-hQ];exact ⟨rfl,h⟩);have Hv:=kp hv;have Hu:=kp hu;clear hQ hr hy h0 hv hu;have q0:((n:Int) != (n:Int))=false:=by simp
 go_enter Tryz.func87,Tryz.ntmps87;go_wp2_with fail
 go_loopw [17] (fun kS wr=>∃k:Nat,k<=n/\kS = .int .i64 k/\I k wr) (fun kS _=>n-(intOf kS).toNat)
 case atStart=>exact ⟨0,aZ _,rfl,H0.o⟩
 case round =>
  obtain ⟨k,hk,rfl,hI⟩:=hrel;have HI:=kp hI;clear hI;by_cases ae:k<n
  .have Em:k<vs.length:=by rw [Hv.o];exact ae
   have En:k<us.length:=by rw [Hu.o];exact ae
   obtain ⟨bA,oA,hA,eQ,c0⟩:=Row.at_ (HR.o k wr HI.o).1 Em;obtain ⟨bB,oB,hB,FX,d0⟩:=Row.at_ (HR.o k wr HI.o).2 En;have jQ:=kp (HY.o k wr Em En HI.o);generalize (vs[k]'Em)=x at *;generalize (us[k]'En)=y at *;rw [hA,hB];clear hA hB;have i0:(0:Int)<=(k:Int):=by omega
   have i1:(k:Int)<(n:Int):=by omega
   go_wp2_with fail;refine jQ.o.mono ?_;rintro e w2 ⟨rfl,h2⟩;have H2:=kp h2;clear h2 c0 d0 jQ;go_wp2_with fail;exact ⟨⟨k+1,by omega,by go_num,H2.o⟩,by simp [intOf];omega⟩
  .obtain rfl:k=n:=by omega
   have Hf:=kp (HQ.o wr HI.o);go_wp2_with fail;exact Hf.o
theorem a5N (fn:Nat) (so:AV) (A B:OA) (ca cb n:Nat) (vs us:LV) (I:Nat->World->Prop) (w:World) (hn:n<=1000000) (hv:vs.length=n) (hu:us.length=n)
 (Cj:∀ (args:AV) (w:World),(callFunc fn args).run Tryz.prog w = .ok (.enter fn args) w) (h0:I 0 w) (hr:∀k W,I k W->Row W W.heap.size A vs/\Row W W.heap.size B us)
 (hy:∀k W (h1:k<vs.length) (h2:k<us.length),I k W->Calls Tryz.prog fn (#[vs[k],us[k]]++so) W fun e W'=>e = .returned (.bool true)/\I (k+1) W') :
 Calls Tryz.prog 91 #[.slice A n ca,.slice B n cb,.func (.func fn) #[] so] w fun e w'=>e = .returned (.bool true)/\I n w':=by
 have HR:=kp hr;have HY:=kp hy;have H0:=kp h0;generalize hQ:(fun (e:Ending) w'=>e = .returned (.bool true)/\I n w')=Q;have HQ:=kp (show ∀w',I n w'->Q (.returned (.bool true)) w' from fun w' h=>by rw [<-hQ];exact ⟨rfl,h⟩);have Hv:=kp hv;have Hu:=kp hu;clear hQ hr hy h0 hv hu;have q0:((n:Int) != (n:Int))=false:=by simp
 go_enter Tryz.func91,Tryz.ntmps91;go_wp2_with fail
 go_loopw [17] (fun kS wr=>∃k:Nat,k<=n/\kS = .int .i64 k/\I k wr) (fun kS _=>n-(intOf kS).toNat)
 case atStart=>exact ⟨0,aZ _,rfl,H0.o⟩
 case round =>
  obtain ⟨k,hk,rfl,hI⟩:=hrel;have HI:=kp hI;clear hI;by_cases ae:k<n
  .have Em:k<vs.length:=by rw [Hv.o];exact ae
   have En:k<us.length:=by rw [Hu.o];exact ae
   obtain ⟨bA,oA,hA,eQ,c0⟩:=Row.at_ (HR.o k wr HI.o).1 Em;obtain ⟨bB,oB,hB,FX,d0⟩:=Row.at_ (HR.o k wr HI.o).2 En;have jQ:=kp (HY.o k wr Em En HI.o);generalize (vs[k]'Em)=x at *;generalize (us[k]'En)=y at *;rw [hA,hB];clear hA hB;have i0:(0:Int)<=(k:Int):=by omega
   have i1:(k:Int)<(n:Int):=by omega
   go_wp2_with fail;refine jQ.o.mono ?_;rintro e w2 ⟨rfl,h2⟩;have H2:=kp h2;clear h2 c0 d0 jQ;go_wp2_with fail;exact ⟨⟨k+1,by omega,by go_num,H2.o⟩,by simp [intOf];omega⟩
  .obtain rfl:k=n:=by omega
   have Hf:=kp (HQ.o wr HI.o);go_wp2_with fail;exact Hf.o
theorem abd (fn:Nat) (so:AV) (A B:OA) (ca cb n:Nat) (xs ys:List Cl) (I:Nat->World->Prop) (w:World) (hn:n<=1000000) (hx:xs.length=n) (hz:ys.length=n)
 (Cj:∀ (args:AV) (w:World),(callFunc fn args).run Tryz.prog w = .ok (.enter fn args) w) (hi:∀k W W',I k W->Below W.heap.size W W'->I k W') (h0:I 0 w) (hr:∀k W,I k W->Row W W.heap.size A (xs.flatMap bT)/\Row W W.heap.size B (ys.flatMap bT))
 (hy:∀k W (h1:k<xs.length) (h2:k<ys.length),I k W->Calls Tryz.prog fn (#[.agg (bQ xs[k]),.agg (bQ ys[k])]++so) W fun e W'=>e = .returned (.bool true)/\I (k+1) W') :
 Calls Tryz.prog 130 #[.slice A n ca,.slice B n cb,.func (.func fn) #[] so] w fun e w'=>e = .returned (.bool true)/\I n w':=by
 have HR:=kp hr;have HY:=kp hy;have HH:=kp hi;have H0:=kp h0;generalize hQ:(fun (e:Ending) w'=>e = .returned (.bool true)/\I n w')=Q;have HQ:=kp (show ∀w',I n w'->Q (.returned (.bool true)) w' from fun w' h=>by rw [<-hQ];exact ⟨rfl,h⟩);have Hx:=kp hx;have Hz:=kp hz;clear hQ hr hy h0 hx hz hi;have q0:((n:Int) != (n:Int))=false:=by simp
 go_enter Tryz.func130,Tryz.ntmps130;go_wp2_with fail
 go_loopw [17] (fun kS wr=>∃k:Nat,k<=n/\kS = .int .i64 k/\I k wr) (fun kS _=>n-(intOf kS).toNat)
 case atStart=>exact ⟨0,aZ _,rfl,H0.o⟩
 case round =>
  obtain ⟨k,hk,rfl,hI⟩:=hrel;have HI:=kp hI;clear hI;by_cases ae:k<n
  .have fL:k<xs.length:=by rw [Hx.o];exact ae
   have vn:k<ys.length:=by rw [Hz.o];exact ae
   have cS:=(aq wr.heap.size wr).alloc (ah _) (.cells (bQ xs[k]) 98);have L5:=kp (HH.o k wr _ HI.o cS);have L6:=cS.alloc cS.size (.cells (bQ ys[k]) 98);have L7:=kp (HH.o k wr _ HI.o L6);have jQ:=kp (HY.o k _ fL vn L7.o);obtain ⟨bA,oA,hA,eQ,c0,c1,c2,c3,c4,c5,c6,c7,c8,c9,iw,rb⟩:=rO (HR.o k wr HI.o).1 k fL;obtain ⟨bB,oB,hB,FX,d0,d1,d2,d3,d4,d5,d6,d7,d8,d9,dB,dC⟩:=rO (HR.o k _ L5.o).2 k vn;have bL:=kp ((aa.new wr 98 (bQ xs[k])).alloc (.cells (bQ ys[k]) 98));have aV:=kp (aa.lay (w:=wr.alloc (.cells (bQ xs[k]) 98)) (g:=wr.heap.size+1) (t:=98) (cs:=bQ ys[k]) (by simp));clear cS L6 HI L5 L7;generalize (xs[k]'fL)=x at *;generalize (ys[k]'vn)=y at *;generalize dk:wr.alloc (.cells (bQ x) 98)=W1 at *;generalize dN:W1.alloc (.cells (bQ y) 98)=W2 at *;rw [hA,hB];clear hA hB;have i0:(0:Int)<=(k:Int):=by omega
   have i1:(k:Int)<(n:Int):=by omega
   have fe:W1.heap.size=wr.heap.size+1:=by rw [<-dk];simp
   have aD:=(aa.fQ bL.o).1;have bD:=(aa.fQ aV.o).1;go_wp2_with fail;refine jQ.o.mono ?_;rintro e w2 ⟨rfl,h2⟩;have H2:=kp h2;clear h2 jQ dk dN fe bL aV c0 c1 c2 c3 c4 c5 c6 c7 c8 c9 iw rb d0 d1 d2 d3 d4 d5 d6 d7 d8 d9 dB dC aD bD;go_wp2_with fail;exact ⟨⟨k+1,by omega,by go_num,H2.o⟩,by simp [intOf];omega⟩
  .obtain rfl:k=n:=by omega
   have Hf:=kp (HQ.o wr HI.o);go_wp2_with fail;exact Hf.o
theorem a7o (fn:Nat) (so:AV) (A B:OA) (ca cb n:Nat) (xs ys:List Nd) (I:Nat->World->Prop) (w:World) (hn:n<=1000000) (hx:xs.length=n) (hz:ys.length=n)
 (Cj:∀ (args:AV) (w:World),(callFunc fn args).run Tryz.prog w = .ok (.enter fn args) w) (hi:∀k W W',I k W->Below W.heap.size W W'->I k W') (h0:I 0 w) (hr:∀k W,I k W->Row W W.heap.size A (xs.flatMap dJ)/\Row W W.heap.size B (ys.flatMap dJ))
 (hy:∀k W (h1:k<xs.length) (h2:k<ys.length),I k W->Calls Tryz.prog fn (#[.agg (bG xs[k]),.agg (bG ys[k])]++so) W fun e W'=>e = .returned (.bool true)/\I (k+1) W') :
 Calls Tryz.prog 40 #[.slice A n ca,.slice B n cb,.func (.func fn) #[] so] w fun e w'=>e = .returned (.bool true)/\I n w':=by
 have HR:=kp hr;have HY:=kp hy;have HH:=kp hi;have H0:=kp h0;generalize hQ:(fun (e:Ending) w'=>e = .returned (.bool true)/\I n w')=Q;have HQ:=kp (show ∀w',I n w'->Q (.returned (.bool true)) w' from fun w' h=>by rw [<-hQ];exact ⟨rfl,h⟩);have Hx:=kp hx;have Hz:=kp hz;clear hQ hr hy h0 hx hz hi;have q0:((n:Int) != (n:Int))=false:=by simp
 go_enter Tryz.func40,Tryz.ntmps40;go_wp2_with fail
 go_loopw [17] (fun kS wr=>∃k:Nat,k<=n/\kS = .int .i64 k/\I k wr) (fun kS _=>n-(intOf kS).toNat)
 case atStart=>exact ⟨0,aZ _,rfl,H0.o⟩
 case round =>
  obtain ⟨k,hk,rfl,hI⟩:=hrel;have HI:=kp hI;clear hI;by_cases ae:k<n
  .have fL:k<xs.length:=by rw [Hx.o];exact ae
   have vn:k<ys.length:=by rw [Hz.o];exact ae
   have cS:=(aq wr.heap.size wr).alloc (ah _) (.cells (bG xs[k]) 100);have L5:=kp (HH.o k wr _ HI.o cS);have L6:=cS.alloc cS.size (.cells (bG ys[k]) 100);have L7:=kp (HH.o k wr _ HI.o L6);have jQ:=kp (HY.o k _ fL vn L7.o);obtain ⟨bA,oA,hA,eQ,c0,c1,c2,c3,c4,c5,c6,c7,c8,c9,iw,rb,O2,O3⟩:=yL (HR.o k wr HI.o).1 k fL;obtain ⟨bB,oB,hB,FX,d0,d1,d2,d3,d4,d5,d6,d7,d8,d9,dB,dC,gB,iF⟩:=yL (HR.o k _ L5.o).2 k vn;have bL:=kp ((aa.new wr 100 (bG xs[k])).alloc (.cells (bG ys[k]) 100));have aV:=kp (aa.lay (w:=wr.alloc (.cells (bG xs[k]) 100)) (g:=wr.heap.size+1) (t:=100) (cs:=bG ys[k]) (by simp));clear cS L6 HI L5 L7;generalize (xs[k]'fL)=x at *;generalize (ys[k]'vn)=y at *;generalize dk:wr.alloc (.cells (bG x) 100)=W1 at *;generalize dN:W1.alloc (.cells (bG y) 100)=W2 at *;rw [hA,hB];clear hA hB;have i0:(0:Int)<=(k:Int):=by omega
   have i1:(k:Int)<(n:Int):=by omega
   have fe:W1.heap.size=wr.heap.size+1:=by rw [<-dk];simp
   have aD:=(aa.cw bL.o).1;have bD:=(aa.cw aV.o).1;go_wp2_with fail;refine jQ.o.mono ?_;rintro e w2 ⟨rfl,h2⟩;have H2:=kp h2;clear h2 jQ dk dN fe bL aV c0 c1 c2 c3 c4 c5 c6 c7 c8 c9 iw rb O2 O3 d0 d1 d2 d3 d4 d5 d6 d7 d8 d9 dB dC gB iF aD bD;go_wp2_with fail;exact ⟨⟨k+1,by omega,by go_num,H2.o⟩,by simp [intOf];omega⟩
  .obtain rfl:k=n:=by omega
   have Hf:=kp (HQ.o wr HI.o);go_wp2_with fail;exact Hf.o
structure jJ (X:List LN) (m:Nat) (ns:List aI):Prop where
 n1:1<=X.length
 n16:X.length<=16
 m1:1<=m
 m3:m<=3
 mU:ns.length<=20000
 short:∀x∈X,x.length<=1000
 small:∀n∈ns,n.lists.length<=4/\∀l∈n.lists,l.length<=1000
 yN:EZ X.length ns
def ft (w:World) (ga:Nat) (X:List LN) (m:Nat) (ns:List aI):Prop:=∃ (A An:OA) (c cn most:Nat) (ys:List Fa) (nds:List Nd),
 aa w ga 160 (im A ys.length c m An nds.length cn most)/\ep w w.heap.size A ys/\ys.map Fa.keys=X/\jH w w.heap.size An nds/\nds.map az=ns
section
variable {X:List LN} {m ga:Nat} {ns:List aI} {w w':World}
theorem ft.below (h:ft w ga X m ns) (hb:Below w.heap.size w w'):ft w' ga X m ns:=by
 obtain ⟨A,An,c,cn,most,ys,nds,h1,h2,h3,h4,h5⟩:=h;exact ⟨A,An,c,cn,most,ys,nds,h1.under hb,(h2.below hb).more hb.size,h3,(h4.below hb).more hb.size,h5⟩
theorem Mm {nds:List Nd} (h:∀n∈nds.map az,n.lists.length<=4/\∀l∈n.lists,l.length<=1000):(∀n∈nds,za n)/\∀n∈nds,n.ls.length<=4/\∀l∈n.ls,l.cs.length<=1000:=by
 have H:∀n∈nds,n.ls.length<=4/\∀l∈n.ls,l.cs.length<=1000:=fun n hn=>by
  obtain ⟨h1,h2⟩:=h (az n) (mem_map_of_mem hn);unfold az at h1 h2;dsimp only at h1 h2;rw [lM] at h1;exact ⟨h1,fun l hl=>h2 l.cs (mem_map_of_mem hl)⟩
 exact ⟨fun n hn=>⟨(H n hn).1,fun l hl=>aT ((H n hn).2 l hl) (by decide)⟩,H⟩
theorem ft.shape (h:ft w ga X m ns) (ho:jJ X m ns):Calls Tryz.prog 33 #[.pointer (some ⟨ga,0,none⟩)] w fun e w' =>
 ∃ (A:OA) (c:Nat) (ys:List Fa),e = .returned (.agg #[.slice A ys.length c,.int .i64 (m:Nat)])/\ep w' w'.heap.size A ys/\ys.map Fa.keys=X/\Below w.heap.size w w':=by
 obtain ⟨A,An,c,cn,most,ys,nds,h1,h2,h3,h4,h5⟩:=h;have hl:ys.length=X.length:=by rw [<-h3,lM]
 refine (LR ga A An c m nds.length cn most ys w h1 h2 (by rw [hl];exact ho.n1) (by rw [hl];exact ho.n16) (fun x hx=>by have:=ho.short x.keys (by rw [<-h3];exact mem_map_of_mem hx);omega)).mono ?_;rintro e w' ⟨A',c',mH,rfl,k1,k2,k3⟩;exact ⟨A',c',mH,rfl,k1.at_,by rw [k2,h3],k3⟩
theorem ft.len (h:ft w ga X m ns) (ho:jJ X m ns):Calls Tryz.prog 42 #[.pointer (some ⟨ga,0,none⟩)] w fun e w'=>e = .returned (.int .i64 ns.length)/\w'=w:=by
 obtain ⟨A,An,c,cn,most,ys,nds,h1,h2,h3,h4,h5⟩:=h;have:=Q8 ga A An ys.length c m nds.length cn most w h1 (by rw [show ys.length=X.length by rw [<-h3,lM]];exact ho.n1);rw [show nds.length=ns.length by rw [<-h5,lM]] at this;exact this
theorem ft.top (h:ft w ga X m ns) (ho:jJ X m ns):Calls Tryz.prog 44 #[.pointer (some ⟨ga,0,none⟩)] w fun e w'=>e = .returned (.int .i64 ((ns.length:Int)-1))/\w'=w:=by
 obtain ⟨A,An,c,cn,most,ys,nds,h1,h2,h3,h4,h5⟩:=h;have hn:nds.length=ns.length:=by rw [<-h5,lM]
 have:=MM ga A An ys.length c m nds.length cn most w h1 (by rw [show ys.length=X.length by rw [<-h3,lM]];exact ho.n1) (by have:=ho.mU;omega);rw [hn] at this;exact this
theorem ft.node (h:ft w ga X m ns) (ho:jJ X m ns) {i:Nat} {n:aI} (hi:ns[i]? = some n):Calls Tryz.prog 58 #[.pointer (some ⟨ga,0,none⟩),.int .i64 (i:Nat)] w (FD n w):=by
 obtain ⟨A,An,c,cn,most,ys,nds,h1,h2,h3,h4,h5⟩:=h;subst h5;obtain ⟨k1,k2⟩:=Mm ho.small;rw [getElem?_map] at hi;obtain ⟨nd,da,rfl⟩:=Option.map_eq_some_iff.1 hi;obtain ⟨gP,e⟩:=bS da;have hm:=k2 _ (gM gP);have:=RH ga A An ys.length c m cn most nds i gP w h1 h4 (by rw [show ys.length=X.length by rw [<-h3,lM]];exact ho.n1) (by have:=ho.mU;rw [lM] at this;omega) hm.1 (fun l hl=>by have:=hm.2 l hl;omega);rw [e] at this;exact this
theorem ft.nodes (h:ft w ga X m ns) (ho:jJ X m ns):Calls Tryz.prog 38 #[.pointer (some ⟨ga,0,none⟩)] w (MD ns w):=by
 obtain ⟨A,An,c,cn,most,ys,nds,h1,h2,h3,h4,h5⟩:=h;subst h5;exact a63 ga A An ys.length c m cn most nds w h1 h4 (by rw [show ys.length=X.length by rw [<-h3,lM]];exact ho.n1) (by have:=ho.mU;rw [lM] at this;omega) (Mm ho.small).1
theorem ft.whole (h:ft w ga X m ns) (ho:jJ X m ns):Calls Tryz.prog 34 #[.pointer (some ⟨ga,0,none⟩)] w fun e w'=>e = .returned (.bool true)/\Below w.heap.size w w':=by
 obtain ⟨A,An,c,cn,most,ys,nds,h1,h2,h3,h4,h5⟩:=h;subst h5;have hl:ys.length=X.length:=by rw [<-h3,lM]
 obtain ⟨k1,k2⟩:=Mm ho.small;exact Zq ga A An ys.length c m cn most nds w h1 h4 (by rw [hl];exact ho.n1) (by rw [hl];exact ho.n16) (by have:=ho.mU;rw [lM] at this;omega) k1 (fun n hn=>(k2 n hn).2) (by rw [hl];exact ho.yN)
end
theorem a8X:∀ (args:AV) (w:World),(callFunc 89 args).run Tryz.prog w = .ok (.enter 89 args) w:=by
 intro args w
 kernel_rfl
theorem a5D:∀ (args:AV) (w:World),(callFunc 88 args).run Tryz.prog w = .ok (.enter 88 args) w:=by
 intro args w
 kernel_rfl
section
variable (A B:OA) (ca cb m:Nat) (xs ys:List Fa) (w:World)
theorem a96 (A B:OA) (ca cb:Nat) (l:LN) (w:World) (hl:l.length<=1000000) (jf:Row w w.heap.size A (aP l)) (mf:Row w w.heap.size B (aP l)) :
 Calls Tryz.prog 88 #[.slice A l.length ca,.slice B l.length cb] w (iC w):=by
 have H:=kp (YB A B ca cb l w hl jf mf);generalize hQ:iC w=Q;have HQ:=kp (show ∀w',Below w.heap.size w w'->Q (.returned (.bool true)) w' from fun w' h=>by rw [<-hQ];exact ⟨rfl,h⟩);clear jf mf hQ;go_enter Tryz.func88,Tryz.ntmps88;go_wp2_with fail;refine H.o.mono ?_;rintro e w1 ⟨rfl,hb⟩;have Hf:=kp (HQ.o w1 hb);go_wp2_with fail;exact Hf.o
theorem Zn (fn:Nat) (Cj:∀ (args:AV) (w:World),(callFunc fn args).run Tryz.prog w = .ok (.enter fn args) w)
 (hf:∀ (A B:OA) (ca cb:Nat) (l:LN) (w:World),l.length<=1000000->Row w w.heap.size A (aP l)->Row w w.heap.size B (aP l)->Calls Tryz.prog fn #[.slice A l.length ca,.slice B l.length cb] w (iC w))
 (h1:ep w w.heap.size A xs) (h2:ep w w.heap.size B ys) (he:xs.map Fa.keys=ys.map Fa.keys) (hn:xs.length<=1000000) (hs:∀x∈xs,x.keys.length<=1000000) :
 Calls Tryz.prog 87 #[.slice A xs.length ca,.slice B ys.length cb,.func (.func fn) #[] #[]] w (iC w):=by
 have hl:ys.length=xs.length:=by have:=congrArg length he;rw [lM,lM] at this;exact this.symm
 rw [hl];refine (a7L fn #[] A B ca cb xs.length (xs.map lg) (ys.map lg) (fun _ W=>Below w.heap.size w W) w hn (by rw [lM]) (by rw [lM];exact hl) Cj (aq _ _) (fun k W hW=>⟨(h1.row.below hW).more hW.size,(h2.row.below hW).more hW.size⟩) (fun k W g1 g2 hW => ?_)).mono (fun e w' h=>h);rw [lM] at g1 g2;rw [getElem_map,getElem_map];have e:ys[k].keys=xs[k].keys:=by
  have h0:(xs.map Fa.keys)[k]? = (ys.map Fa.keys)[k]? := by rw [he]
  rw [getElem?_map,getElem?_map,gE g1,gE g2] at h0;injection h0 with h0
  exact h0.symm
 have r1:=((h1.each _ (gM g1)).below hW).more hW.size;have r2:=((h2.each _ (gM g2)).below hW).more hW.size;rw [e] at r2;unfold lg;rw [e];exact (hf _ _ _ _ _ W (hs _ (gM g1)) r1 r2).mono fun e w' ⟨a,b⟩=>⟨a,hW.trans (b.mono hW.size)⟩
theorem aaM (h1:ep w w.heap.size A xs) (h2:ep w w.heap.size B ys) (he:xs.map Fa.keys=ys.map Fa.keys) (hn:xs.length<=1000000) (hs:∀x∈xs,x.keys.length<=1000000) :
 Calls Tryz.prog 84 #[.agg #[.slice A xs.length ca,.int .i64 (m:Nat)],.agg #[.slice B ys.length cb,.int .i64 (m:Nat)]] w (iC w):=by
 have au:=((aq w.heap.size w).alloc (ah _) (.cells #[.slice A xs.length ca,.int .i64 (m:Nat)] 75)).alloc (by simp) (.cells #[.slice B ys.length cb,.int .i64 (m:Nat)] 75);have H:=kp (Zn A B ca cb xs ys _ 89 a8X (fun A B ca cb l w h1 h2 h3=>YB A B ca cb l w h1 h2 h3) ((h1.below au).more au.size) ((h2.below au).more au.size) he hn hs);have bL:=kp ((aa.new w 75 #[.slice A xs.length ca,.int .i64 (m:Nat)]).alloc (.cells #[.slice B ys.length cb,.int .i64 (m:Nat)] 75));have aV:=kp (aa.lay (w:=w.alloc (.cells #[.slice A xs.length ca,.int .i64 (m:Nat)] 75)) (g:=w.heap.size+1) (t:=75) (cs:=#[.slice B ys.length cb,.int .i64 (m:Nat)]) (by simp));have ay:=kp au;generalize hQ:iC w=Q;have HQ:=kp (show ∀w',Below w.heap.size w w'->Q (.returned (.bool true)) w' from fun w' h=>by rw [<-hQ];exact ⟨rfl,h⟩);clear hQ au h1 h2 he hs;generalize dk:w.alloc (.cells #[.slice A xs.length ca,.int .i64 (m:Nat)] 75)=W1 at *;generalize dN:W1.alloc (.cells #[.slice B ys.length cb,.int .i64 (m:Nat)] 75)=W2 at *;have fe:W1.heap.size=w.heap.size+1:=by rw [<-dk];simp
 obtain ⟨a0,a1,_,_⟩:=bL.o.two;obtain ⟨b0,b1,_,_⟩:=aV.o.two;clear bL aV;generalize xs.length=nx at *;generalize ys.length=ny at *;have q0:((m:Int) == (m:Int))=true:=by simp
 go_enter Tryz.func84,Tryz.ntmps84;go_wp2_with fail;refine H.o.mono ?_;rintro e w3 ⟨rfl,hb⟩;have Hf:=kp (HQ.o w3 (ay.o.trans (hb.mono ay.o.size)));clear hb H;go_wp2_with fail;exact Hf.o
theorem Rg (h1:ep w w.heap.size A xs) (h2:ep w w.heap.size B ys) (he:xs.map Fa.keys=ys.map Fa.keys) (hn:xs.length<=1000000) (hs:∀x∈xs,x.keys.length<=1000000) :
 Calls Tryz.prog 39 #[.agg #[.slice A xs.length ca,.int .i64 (m:Nat)],.agg #[.slice B ys.length cb,.int .i64 (m:Nat)]] w (iC w):=by
 have au:=((aq w.heap.size w).alloc (ah _) (.cells #[.slice A xs.length ca,.int .i64 (m:Nat)] 75)).alloc (by simp) (.cells #[.slice B ys.length cb,.int .i64 (m:Nat)] 75);have H:=kp (Zn A B ca cb xs ys _ 88 a5D (fun A B ca cb l w h1 h2 h3=>a96 A B ca cb l w h1 h2 h3) ((h1.below au).more au.size) ((h2.below au).more au.size) he hn hs);have bL:=kp ((aa.new w 75 #[.slice A xs.length ca,.int .i64 (m:Nat)]).alloc (.cells #[.slice B ys.length cb,.int .i64 (m:Nat)] 75));have aV:=kp (aa.lay (w:=w.alloc (.cells #[.slice A xs.length ca,.int .i64 (m:Nat)] 75)) (g:=w.heap.size+1) (t:=75) (cs:=#[.slice B ys.length cb,.int .i64 (m:Nat)]) (by simp));have ay:=kp au;generalize hQ:iC w=Q;have HQ:=kp (show ∀w',Below w.heap.size w w'->Q (.returned (.bool true)) w' from fun w' h=>by rw [<-hQ];exact ⟨rfl,h⟩);clear hQ au h1 h2 he hs;generalize dk:w.alloc (.cells #[.slice A xs.length ca,.int .i64 (m:Nat)] 75)=W1 at *;generalize dN:W1.alloc (.cells #[.slice B ys.length cb,.int .i64 (m:Nat)] 75)=W2 at *;have fe:W1.heap.size=w.heap.size+1:=by rw [<-dk];simp
 obtain ⟨a0,a1,_,_⟩:=bL.o.two;obtain ⟨b0,b1,_,_⟩:=aV.o.two;clear bL aV;generalize xs.length=nx at *;generalize ys.length=ny at *;have q0:((m:Int) == (m:Int))=true:=by simp
 go_enter Tryz.func39,Tryz.ntmps39;go_wp2_with fail;refine H.o.mono ?_;rintro e w3 ⟨rfl,hb⟩;have Hf:=kp (HQ.o w3 (ay.o.trans (hb.mono ay.o.size)));clear hb H;go_wp2_with fail;exact Hf.o
end
end Go.Proofs.YtjopcamkclndlaaGreat.Tc
namespace Go.Proofs.YtjopcamkclndlaaGreat.Tc
open List Go.RowKit Base Go.Maps Go.WideMaps
theorem laidOut:laidOutB Tryz.prog=true:=by kernel_rfl
theorem QO:Keyed Tryz.prog 181:=Keyed.of_law (deep_law_laid laidOut (m:=2) (by omega) (of_decide_eq_true (by kernel_rfl)) (by kernel_rfl) (by kernel_rfl))
theorem EK:Keyed Tryz.prog 109:=Keyed.of_law (deep_law_laid laidOut (m:=2) (by omega) (of_decide_eq_true (by kernel_rfl)) (by kernel_rfl) (by kernel_rfl))
def pK (p:Int×Int):Lit := .string (keyBytes [.int .i64 p.1,.int .i64 p.2])
abbrev pV (p:Int×Int):Value := .agg #[.int .i64 p.1,.int .i64 p.2]
structure mM (p:Int×Int):Prop where
 a0 : -1<=p.1
 a1:p.1<=1000000
 b0 : -1<=p.2
 b1:p.2<=1000000
theorem mM.wf {p:Int×Int} (h:mM p):(Lit.int .i64 p.1).wf=true/\(Lit.int .i64 p.2).wf=true:=⟨WalkArith.wf_i64 (by have:=h.a0;have:=h.a1;omega),WalkArith.wf_i64 (by have:=h.b0;have:=h.b1;omega)⟩
section
variable {t:TypeId} (hk:∀p,mM p->keyOf Tryz.prog t (pV p)=some (pK p)) (K:Keyed Tryz.prog t)
theorem a0Y {fs:Array Field} (hu:Tryz.prog.underlying t=some (.struct fs)) (h1:Tryz.prog.keyType t=true) (h2:∀a b:Value,(Value.agg #[a,b]).formed Tryz.prog t=true) (h3:∀p:Int×Int,(Lit.int .i64 p.1).wf=true->(Lit.int .i64 p.2).wf=true->Tryz.prog.keyLits (Tryz.prog.types.size+1) t [.int .i64 p.1,.int .i64 p.2]=some [.int .i64 p.1,.int .i64 p.2]):∀p,mM p->keyOf Tryz.prog t (pV p)=some (pK p):=by
 intro p hp;unfold keyOf;rw [hu];dsimp only;rw [h1,h2,Bool.and_true,if_pos rfl];have:(pV p).cells.toList=[.int .i64 p.1,.int .i64 p.2]:=rfl;rw [this,h3 p hp.wf.1 hp.wf.2];rfl
include hk K
theorem MY {p q:Int×Int} (hp:mM p) (hq:mM q) (h:pK p=pK q):p=q:=by
 have:=K.inj (hk p hp) (by rw [h];exact hk q hq);injection this with this
 injection this with this
 injection this with h1 h2
 injection h2 with h2 h3
 injection h1 with _ h1
 injection h2 with _ h2
 exact Prod.ext h1 h2
structure C' (t:TypeId) (D:DataW Unit) (pairs:List (Int×Int)):Prop where
 map:IsMap D
 at_:∀p,mM p->D.atKey (pK p) (.lit (.int .i64 0)) = .lit (.int .i64 (((kX p pairs).getD 0:Nat):Int))
 has:∀p,mM p->Maps.has D (pK p)=(kX p pairs).isSome
omit hk K in
theorem C'.nil (t:TypeId):C' t (.map []:DataW Unit) []:=⟨isMap_empty,fun p _=>rfl,fun p _=>rfl⟩
omit hk K in
theorem XL {pairs:List (Int×Int)} {p:Int×Int} (h:kX p pairs=none):kX p (pairs++[p])=some pairs.length:=by
 unfold kX at *;rw [findIdx?_append,h];simp
omit hk K in
theorem YP {pairs:List (Int×Int)} {p q:Int×Int} (h:q≠p):kX q (pairs++[p])=kX q pairs:=by
 unfold kX;rw [findIdx?_append];have:([p].findIdx? fun x=>x == q)=none:=by
  have:(p == q)=false:=by simp;exact fun e=>h e.symm
  simp [findIdx?_cons,this]
 rw [this];simp
theorem C'.put {D:DataW Unit} {pairs:List (Int×Int)} (h:C' t D pairs) {p:Int×Int} (hp:mM p) (hn:kX p pairs=none):C' t (D.put (pK p) (.lit (.int .i64 ((pairs.length:Nat):Int)))) (pairs++[p]):=by
 have hl:WideAt.IsKeyLit (pK p):=trivial;refine ⟨h.map.put _ _,fun q hq => ?_,fun q hq => ?_⟩
 .by_cases e:q=p
  .subst e;rw [atKey_put_same h.map hl,XL hn];rfl
  .rw [atKey_put_other (fun hh=>e (MY hk K hq hp hh)),YP e];exact h.at_ q hq
 .by_cases e:q=p
  .subst e;rw [has_put_same h.map hl,XL hn];rfl
  .rw [has_put_other (fun hh=>e (MY hk K hq hp hh)),YP e];exact h.has q hq
structure yG (t:TypeId) (D:DataW Unit) (l:List (Int×Int)):Prop where
 map:IsMap D
 at_:∀p,mM p->D.atKey (pK p) (.lit (.int .i64 0)) = .lit (.int .i64 (if p∈l then 1 else 0))
omit hk K in
theorem yG.nil (t:TypeId):yG t (.map []:DataW Unit) []:=⟨isMap_empty,fun p _=>rfl⟩
theorem yG.put {D:DataW Unit} {l:List (Int×Int)} (h:yG t D l) {p:Int×Int} (hp:mM p):yG t (D.put (pK p) (.lit (.int .i64 1))) (l++[p]):=by
 have hl:WideAt.IsKeyLit (pK p):=trivial;refine ⟨h.map.put _ _,fun q hq => ?_⟩;by_cases e:q=p
 .subst e;rw [atKey_put_same h.map hl,if_pos (mem_append_right _ mem_cons_self)]
 .rw [atKey_put_other (fun hh=>e (MY hk K hq hp hh)),h.at_ q hq];by_cases h1:q∈l
  .rw [if_pos h1,if_pos (mem_append_left _ h1)]
  .rw [if_neg h1,if_neg (fun h2=>(mem_append.1 h2).elim h1 (fun h3=>e (mem_singleton.1 h3)))]
end
theorem YA:∃n,Tryz.prog.types.size=n+1:=Nat.exists_eq_succ_of_ne_zero (of_decide_eq_true (by kernel_rfl))
theorem PL:∀p,mM p->keyOf Tryz.prog 181 (pV p)=some (pK p):=by
 refine a0Y Tryz.underlying181 (by kernel_rfl) (fun a b => ?_) (fun p h1 h2 => ?_)
 .have hc:Tryz.prog.cellsOf 181=2:=by kernel_rfl
  simp [Value.formed,Tryz.underlying181,hc]
 .have hc:Tryz.prog.cellsOf 181=2:=by kernel_rfl
  have hi:Tryz.prog.cellsOf 3=1:=by kernel_rfl
  obtain ⟨n,hn⟩:=YA;rw [hn];simp [Program.keyLits,Tryz.underlying181,Tryz.underlying3,hc,hi,h1,h2]
theorem uX:∀p,mM p->keyOf Tryz.prog 109 (pV p)=some (pK p):=by
 refine a0Y Tryz.underlying109 (by kernel_rfl) (fun a b => ?_) (fun p h1 h2 => ?_)
 .have hc:Tryz.prog.cellsOf 109=2:=by kernel_rfl
  simp [Value.formed,Tryz.underlying109,hc]
 .have hc:Tryz.prog.cellsOf 109=2:=by kernel_rfl
  have hi:Tryz.prog.cellsOf 3=1:=by kernel_rfl
  obtain ⟨n,hn⟩:=YA;rw [hn];simp [Program.keyLits,Tryz.underlying109,Tryz.underlying3,hc,hi,h1,h2]
def vM (w:World) (g:Nat) (pairs:List (Int×Int)):Prop:=∃D:DataW Unit,w.ownsMap Tryz.prog 181 (plainElem Tryz.prog 3) g pairs.length D/\C' 181 D pairs
theorem vM.lt {w:World} {g:Nat} {pairs:List (Int×Int)} (h:vM w g pairs):g<w.heap.size:=by
 obtain ⟨D,h1,_⟩:=h;exact h1.lt
theorem vM.same {w w':World} {g:Nat} {pairs:List (Int×Int)} (h:vM w g pairs) (hs:w'.heap[g]? = w.heap[g]?):vM w' g pairs:=by
 obtain ⟨D,⟨es,cl,h1,h2⟩,h3⟩:=h;exact ⟨D,⟨es,cl,hs.trans h1,h2⟩,h3⟩
def tH (w:World) (g:Nat) (l:List (Int×Int)):Prop:=∃D:DataW Unit,w.ownsMap Tryz.prog 109 (plainElem Tryz.prog 3) g l.length D/\yG 109 D l
theorem tH.lt {w:World} {g:Nat} {l:List (Int×Int)} (h:tH w g l):g<w.heap.size:=by
 obtain ⟨D,h1,_⟩:=h;exact h1.lt
theorem tH.same {w w':World} {g:Nat} {l:List (Int×Int)} (h:tH w g l) (hs:w'.heap[g]? = w.heap[g]?):tH w' g l:=by
 obtain ⟨D,⟨es,cl,h1,h2⟩,h3⟩:=h;exact ⟨D,⟨es,cl,hs.trans h1,h2⟩,h3⟩
end Go.Proofs.YtjopcamkclndlaaGreat.Tc
