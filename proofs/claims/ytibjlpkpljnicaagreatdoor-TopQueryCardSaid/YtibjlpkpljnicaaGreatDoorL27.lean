/- Parts of a proof. -/
import Derived.Test.YtibjlpkpljnicaaGreatDoorL26
import Derived.RegionTactic
set_option maxRecDepth 100000
set_option maxHeartbeats 8000000
set_option linter.all false
namespace Go.Proofs.YtibjlpkpljnicaaGreatDoor
namespace Tc
open List Go.RowKit Base Go.Proofs.Tryz
def um{s}(n:cJ s){rows ps d}(h1:jk s rows ps)(h2:jk s rows d):ps=d:=by
 obtain⟨l,c,rfl⟩:=h1;obtain⟨r,b,rfl⟩:=h2;unfold aw;apply ext_getElem?;intro i;rw[getElem?_map,getElem?_map];by_cases hi:i<rows.length
 .have e:=gE (by rw[c.1];omega);have f:=gE (by rw[b.1];omega);obtain⟨m,p⟩:=c.2 i _ _ (gE hi) e;obtain⟨g,q⟩:=b.2 i _ _ (gE hi) f;rw[e,f];show some (pl _)=some (pl _);unfold pl;rw[p,q,eE.eq n m g]
 .rw[getElem?_eq_none (by rw[c.1];omega),getElem?_eq_none (by rw[b.1];omega)]
def C0{s}(b:cJ s){r keys}(h:eE s r keys):kO s keys:=by
 refine⟨h.n,λd hd hk h0=> ?_⟩;have ht:d<r.ar.length:=by rw[h.nt];omega
 have h1:=h.at_ d _ _ _ (gE hd) (gE ht) (gE hk);have h2:=(aO h1).1;rw[tg h0]at h2;omega
def G6{s}(d:cJ s){r keys}(h:eE s r keys):eS s.aC.length (dM r.cj):=by
 have f:=h.nv;have e:∀i,pv (r.cj.take r.cj.length) i=pv r.cj i:=o_
 have c:∀i,s.aC.length<=i->pv r.cj i=0:=λi hi=>by
  unfold pv;grind
 unfold dM fW;refine⟨o_,λk hk _=> ?_,λk hk _ _=> ?_,λk hk b=> ?_⟩
 .match k,hk with
  |0,_=>exact Int.le_refl _
  |1,_=>exact Int.le_refl _
  |2,_=>exact Int.le_refl _
 .match k,hk with
  |0,_=>trivial
  |1,_=>trivial
  |2,_=>trivial
 .match k,hk with
  |0,_=>exact⟨(e 0).trans (c 0 b),(e 0).trans (c 0 b),(e 0).trans (c 0 b)⟩
  |1,_=>exact⟨(e 1).trans (c 1 b),(e 1).trans (c 1 b),(e 1).trans (c 1 b)⟩
  |2,_=>exact⟨(e 2).trans (c 2 b),(e 2).trans (c 2 b),(e 2).trans (c 2 b)⟩
def Re{l}(b:∀x∈l,fit x)(h:ky (dM l)):fP 1 (dM l):=by
 refine⟨show 0<=1 by decide,show 1<=(1:Int)*1000000000 by decide,?_,?_,?_,zJ b⟩
 .have:=h.2 0 d_;trivial
 .have:=h.2 1 d_;trivial
 .have:=h.2 2 d_;trivial
def E8{s rows}(m:iC s rows)(d:∀r∈rows,∀x∈r.cj,fit x){ps}(h:jk s rows ps)(p:∀x∈ps,ky x.2):ps.length=rows.length/\∀x∈ps,kO s x.1/\GA s.aC.length 1 x.2:=by
 obtain⟨l,g,rfl⟩:=h;refine⟨by unfold aw;rw[lM];exact g.1,λx hx=> ?_⟩;have e:=p x hx;unfold aw at hx;obtain⟨f,q,rfl⟩:=mem_map.1 hx;obtain⟨i,hi,rfl⟩:=getElem_of_mem q;have c:i<rows.length:=by rw[<-g.1];omega
 obtain⟨n,u⟩:=g.2 i _ _ (gE c) (gE hi);have b:ky l[i].ag:=e;refine⟨C0 m.bO n,?_⟩;show GA s.aC.length 1 l[i].ag;rw[u]at b⊢;exact⟨Re (d _ (gM c)) b,G6 m.bO n⟩
def oS(nd:Nat)(st:St)(j:Nat):Prop:=∃(i:Nat)(n:aQ)(c:Cl),st.nodes[i]? = some n/\n.aj+1<nd/\c∈cR n/\c.child=j
def oS.ext{nd a b j}(h:oS nd a j)(d:Ext a b):oS nd b j:=by
 obtain⟨i,n,c,h1,h2⟩:=h;exact⟨i,n,c,d.node h1,h2⟩
structure oW(nd:Nat)(f:Option Rec)(b st:St)(S:LN):Prop where
 ext:Ext b st
 kW:∀j,b.nodes.length<=j->j<st.nodes.length->j∈S\/oS nd st j
 none:f=none->st=b
def vG(nd:Nat)(g:Rec):Prop:=∀part st r,g part st=some r->Ext st r.1/\∀j,st.nodes.length<=j->j<r.1.nodes.length->j=r.2\/oS nd r.1 j
section
variable{ps:List (LN×Ag)}{nd:Nat}{f:Option Rec}(hf:∀g,f=some g->vG nd g)
include hf
def AI{b:St}{S:LN}{key:Nat}{part:LN}{st:St}{r:St×Cl}(h:fK ps f key part st=some r)(d:oW nd f b st S):oW nd f b r.1 (S++[r.2.child]):=by
 unfold fK at h;split at h
 .injection h with h;subst h;refine⟨d.ext,λj h1 h2=> ?_,λ_=>d.none rfl⟩;rw[d.none rfl]at h2;grind
 .rename_i g;obtain⟨q,s,rfl⟩:=Option.map_eq_some_iff.1 h;obtain⟨m,n⟩:=hf g rfl _ _ q s;refine⟨d.ext.trans m,λj h1 h2=> ?_,λe=>r_⟩;by_cases p:j<st.nodes.length
  .obtain c|c:=d.kW j h1 p
   .grind
   .exact .inr (c.ext m)
  grind
def DX{b:St}:∀(gs:List (Nat×LN))(s r:St×List Cl)(S:LN),iz ps f gs s=some r->oW nd f b s.1 (S++s.2.map Cl.child)->oW nd f b r.1 (S++r.2.map Cl.child)
 | [],s,r,S,h,c=>by injection h with h;grind
 |g::gs,s,r,S,h,c=>by
  unfold iz at h;obtain⟨q,d,h⟩:=Option.bind_eq_some_iff.1 h;have h1:=AI hf d c;apply DX _ _ r S h;grind
def Ci{b:St}{at_:Nat}{part:LN}:∀(ls:List LN)(s r:St×List (List Cl)),j5 ps f at_ part ls s=some r->oW nd f b s.1 (s.2.flatten.map Cl.child)->oW nd f b r.1 (r.2.flatten.map Cl.child)
 | [],s,r,h,c=>by injection h with h;grind
 |l::ls,s,r,h,c=>by
  unfold j5 at h;obtain⟨q,d,h⟩:=Option.bind_eq_some_iff.1 h;have h1:=DX hf _ _ q (s.2.flatten.map _) d (by simpa using c);apply Ci _ _ r h;grind
def CM{at_ most:Nat}{aL:List (List LN)}(n:∀g,f=some g->at_+1<nd):vG nd (fh ps aL most f at_):=by
 intro part st r h;unfold fh at h;split at h
 .injection h with h;subst h;exact⟨Ext.refl _,λj h1 h2=>r_⟩
 .obtain⟨q,z,h⟩:=Option.bind_eq_some_iff.1 h;obtain⟨x,hx,h⟩:=Option.bind_eq_some_iff.1 h;split at h
  .injection h with h;subst h;have h1:=Ci hf _ _ q z ⟨Ext.refl _,λj h1 h2=>absurd h2 o_,λ_=>rfl⟩;have h2:=AI hf hx h1;have v:Ext _ ⟨x.1.nodes++[⟨at_,q.2,x.2⟩],x.1.parts++[(at_,part)]⟩:=⟨_,_,rfl,rfl⟩;refine⟨h2.ext.trans v,λj y d=> ?_⟩;dsimp only at d⊢;rw[aE]at d;simp only[length_cons,length_nil]at d;by_cases p:j=x.1.nodes.length
   .omega
   .obtain s|s:=h2.kW j y o_
    .right;cases m:f with
     |none=>
      have:=h2.none m;grind
     |some g=>
      have b:∃c∈cR ⟨at_,q.2,x.2⟩,c.child=j:=by
       obtain u|u:=mem_append.1 s
       .obtain⟨c,b,e⟩:=mem_map.1 u;exact⟨c,mem_append_left _ b,e⟩
       .exact⟨_,mem_append_right _ mem_cons_self,(mem_singleton.1 u).symm⟩
      obtain⟨c,b,e⟩:=b;exact⟨x.1.nodes.length,_,c,o_,n g m,b,e⟩
    .exact .inr (s.ext v)
  .cases h
end
def Ff{ps aL most nd}:∀{d:Nat},d<nd->vG nd (visit ps aL most nd d)
 |0,h=>CM (f:=none) (λg e=>by cases e) (λg e=>by cases e)
 |d+1,h=>CM (f:=some (visit ps aL most nd d)) (λg e=>by injection e with e;subst e;exact Ff o_) (λg _=>by omega)
def Q'{ps aL most nd d part}{r:St×Nat}(h:visit ps aL most nd d part ⟨[],[]⟩=some r):r.2+1=r.1.nodes.length:=by
 have H:∀ f a,fh ps aL most f a _ ⟨[],_⟩=some r->r.2+1=r.1.nodes.length:=λf a h=>by
  unfold fh at h;have e:fr a part ([])=none:=rfl;dsimp only at h;rw[e]at h;dsimp only at h;obtain⟨q,b,h⟩:=Option.bind_eq_some_iff.1 h;obtain⟨x,hx,h⟩:=Option.bind_eq_some_iff.1 h;grind
 cases d with
 |zero=>exact H _ _ h
 |succ d=>exact H _ _ h
structure fR(s:aN)(fs:List Fa)(st:St):Prop where
 dK:Good (aw fs) (s.af.map dP) s.af.length st
 top:st.parts[st.nodes.length-1]? = some (0,range fs.length)
 pos:0<st.nodes.length
 kW:∀j,j+1<st.nodes.length->oS s.af.length st j
def wY{s fs most e}(m:cJ s)(b:fs≠[])(h:dv s fs most=some e):∃st,st.nodes=e/\fR s fs st:=by
 unfold dv at h;rw[if_neg b]at h;obtain⟨r,d,rfl⟩:=Option.map_eq_some_iff.1 h;have q:=m.n1;have c:(aw fs).length=fs.length:=by unfold aw;rw[lM]
 obtain⟨h1,h2,n⟩:=za (by omega) _ _ r d (Good.nil _ _ _) (by
  have:=DN (ps:=aw fs) r_;grind)
 obtain⟨_,g⟩:=Ff (by omega) _ _ _ d;have ht:=Q' d;refine⟨_,rfl,h1,?_,o_,λj p=> ?_⟩
 .grind
 grind
section
variable{s:aN}{fs:List Fa}{st:St}
def fR.at_(h:fR s fs st){i:Nat}{n:aQ}(c:st.nodes[i]? = some n):∃p,st.parts[i]? = some p/\p.1<s.af.length/\fI (aw fs) p.2/\lF (aw fs) (s.af.map dP) s.af.length st p.1 p.2 n:=by
 have hi:=(aO c).1;have b:=gE (by rw[h.dK.len];omega);obtain⟨h1,h2⟩:=h.dK.part i _ b;exact⟨_,b,h1,h2,h.dK.rep i n _ c b⟩
def fR.sb(h:fR s fs st):qP s.af.length st.nodes:=by
 refine⟨λi n b hd c f=>h.dK.back i n b o_ c f,λn b=> ?_,λj g=>h.kW j g,λn b=> ?_⟩
 .obtain⟨p,d,_,_,e⟩:=h.at_ b;rw[h.top]at d;injection d with d;subst d;exact e.aj
 .obtain⟨i,hi,rfl⟩:=getElem_of_mem b;obtain⟨p,d,h1,_,e⟩:=h.at_ (gE hi);rw[e.aj];omega
def fR.lists(h:fR s fs st)(u:cJ s){i:Nat}{n:aQ}(r:st.nodes[i]? = some n):n.lists≠[]/\n.lists.length<=4/\∀l∈n.lists,l.length<=200:=by
 obtain⟨p,z,h1,h2,x⟩:=h.at_ r;have hd:=gE h1;have y:((s.af.map dP)[p.1]?).getD []=dP (s.af[p.1]'h1):=r_
 have g:=u.af _ h1;have b:=x.lists;rw[y]at b;have c:(dP (s.af[p.1]'h1)).length=(s.af[p.1]'h1).ai.length:=by unfold dP;simp
 have e:=b.1;rw[c]at e;refine⟨λq=>by have:=g.n1;grind,by have:=g.n2;omega,λl f=> ?_⟩;obtain⟨k,hk,rfl⟩:=getElem_of_mem f;obtain⟨lift,m,d⟩:=dE.left b (gE hk);have v:=d.1;rw[<-v];unfold dh;grind
end
section
variable{s:aN}{fs:List Fa}{st:St}
def fR.node(h:fR s fs st){i:Nat}{p:Nat×LN}(b:st.parts[i]? = some p):∃n,st.nodes[i]? = some n/\p.1<s.af.length/\fI (aw fs) p.2/\lF (aw fs) (s.af.map dP) s.af.length st p.1 p.2 n:=by
 have hi:=(aO b).1;have c:=gE (by rw[<-h.dK.len];omega);obtain⟨h1,h2⟩:=h.dK.part i _ b;exact⟨_,c,h1,h2,h.dK.rep i _ _ c b⟩
def KO{d:au}(a:Nat)(hd:s.af[a]? = some d):((s.af.map dP)[a]?).getD []=dP d:=by grind
def KL d k(hk:k<d.ai.length):(dP d)[k]? = some (iw d k):=by
 unfold dP;grind
def fR.row(h:fR s fs st){a i:Nat}{part:LN}(g:st.parts[i]? = some (a,part)){d:au}(hd:s.af[a]? = some d){k:Nat}(hk:k<d.ai.length):∃n l,st.nodes[i]? = some n/\n.aj=a/\n.lists.length=d.ai.length/\n.lists[k]? = some l/\mf (aw fs) (decide (a+1=s.af.length)) st a (dh (eH (aw fs) (iw d k) a) part) l:=by
 obtain⟨n,f,h1,h2,c⟩:=h.node g;have b:=c.lists;dsimp only at b h1;rw[KO a hd]at b;obtain⟨l,m,e⟩:=dE.right b (KL d k hk);refine⟨n,l,f,c.aj,?_,m,e⟩;rw[<-b.1];unfold dP;simp
def jC(fs:List Fa)(i:Nat):LN:=(((aw fs)[i]?).getD ([],az)).1
def C1(h:iE s fs){i:Nat}(hi:i<fs.length):(jC fs i).length=s.af.length/\kO s (jC fs i):=by
 unfold jC aw;rw[getElem?_map,gE hi];have:=h.keys _ (gM hi);exact⟨this.len,this⟩
def BY(h:iE s fs){i a:Nat}(hi:i<fs.length)(b:a<s.af.length):(jC fs i)[a]? = some (mC (aw fs) a i):=by
 obtain⟨h1,h2⟩:=C1 h hi;unfold mC;show(jC fs i)[a]? = some (((jC fs i)[a]?).getD 0);grind
def BZ(f:cJ s)(h:iE s fs){i a:Nat}(hi:i<fs.length){d:au}(hd:s.af[a]? = some d):mC (aw fs) a i<(fin d).length:=by
 obtain⟨c,e⟩:=aO hd;have h0:=BY h hi c;obtain⟨h1,h2⟩:=C1 h hi;obtain⟨hk,g⟩:=aO h0;have b:=pE f hd;subst e;have m:=h2.each a c hk b.n1;rw[Bf b,<-g];omega
def Kb(b:cJ s)(h:iE s fs){i a:Nat}(hi:i<fs.length){d:au}(hd:s.af[a]? = some d)(k:Nat):eH (aw fs) (iw d k) a i=bN d k (mC (aw fs) a i):=by
 unfold eH;rw[tM d k (BZ b h hi hd)];rfl
end
abbrev cL:=LN->Bool
def aT(fs:List Fa)(K:cL):LN:=(range fs.length).filter λi=>K (jC fs i)
def df(d:au)(a t k:Nat)(K:cL):cL:=λkeys=>K keys&&(bN d t ((keys[a]?).getD 0) == k)
def xO{fs K i}:i∈aT fs K↔i<fs.length/\K (jC fs i)=true:=by
 unfold aT;simp
def pY fs:aT fs (λ_=>true)=range fs.length:=filter_eq_self.2 (λ_ _=>rfl)
section
variable{s:aN}{fs:List Fa}{st:St}
def PA(c:cJ s)(b:iE s fs){a:Nat}{d:au}(hd:s.af[a]? = some d)(t k:Nat)(K:cL):gi (eH (aw fs) (iw d t) a) (aT fs K) k=aT fs (df d a t k K):=by
 unfold gi aT;rw[filter_filter];refine filter_congr (λi hi=> ?_);rw[Kb c b (mem_range.1 hi) hd t,Bool.and_comm];rfl
def Bv(c:cJ s)(b:iE s fs){a:Nat}{d:au}(hd:s.af[a]? = some d)(t:Nat)(K:cL):dh (eH (aw fs) (iw d t) a) (aT fs K)=(range 200).filterMap λk=>if aT fs (df d a t k K)=[]then none else some (k,aT fs (df d a t k K)):=by
 unfold dh;simp only[PA c b hd]
def map_take ps(K:cL):∀n,n<=ps.length->((range n).filter λi=>K ((ps[i]?).getD ([],az)).1).map (jT ps)=((ps.take n).filter λx=>K x.1).map Prod.snd
 |0,_=>rfl
 |n+1,c=>by
  have b:n<ps.length:=c;have d:jT ps n=(ps[n]).2:=by unfold jT;rw[gE b];rfl
  have e:((ps[n]?).getD ([],az)).1=(ps[n]).1:=r_
  rw[range_succ,filter_append,map_append,take_succ_eq_append_getElem b,filter_append,map_append,map_take _ K n o_];grind
def Qk fs K:nJ (aw fs) (aT fs K)=bW K (aw fs):=by
 have b:(aw fs).length=fs.length:=by unfold aw;rw[lM]
 have:=map_take (aw fs) K _ (ae _);rw[take_of_length_le o_,b]at this;unfold nJ bW;rw[<-this];rfl
def mem_keys{fs key}:(∃x∈aw fs,x.1=key)↔∃i,i<fs.length/\jC fs i=key:=by
 constructor
 .rintro⟨x,hx,e⟩;obtain⟨i,hi,rfl⟩:=getElem_of_mem hx;have b:i<fs.length:=by unfold aw at hi;rw[lM]at hi;omega
  refine⟨i,b,?_⟩;unfold jC;grind
 .rintro⟨i,hi,e⟩;have b:i<(aw fs).length:=by unfold aw;rw[lM];omega
  refine⟨_,gM b,?_⟩;rw[<-e];unfold jC;rw[gE b];rfl
end
def zE(most:Nat)(g:Rec):Prop:=∀part st r,g part st=some r->st.nodes.length<=most->r.1.nodes.length<=most
def CL{ps f most at_ aL}:zE most (fh ps aL most f at_):=by
 intro part st r h c;unfold fh at h;split at h
 .grind
 .obtain⟨q,d,h⟩:=Option.bind_eq_some_iff.1 h;obtain⟨x,hx,h⟩:=Option.bind_eq_some_iff.1 h;grind
def QZ{ps aL most nd}:∀{d:Nat},zE most (visit ps aL most nd d)
 |0=>CL (f:=none)
 |d+1=>CL (f:=some (visit ps aL most nd d))
def AX{s fs most b}(h:dv s fs most=some b):b.length<=most:=by
 unfold dv at h;split at h
 .grind
 .obtain⟨r,c,rfl⟩:=Option.map_eq_some_iff.1 h;exact QZ _ _ _ c o_
def wX{s most b}(h:dv s [] most=some b):b=[]:=by
 unfold dv at h;grind
structure FD(s:aN)(fs:List Fa)(ns:List aQ):Prop where
 sb:qP s.af.length ns
 small:∀n∈ns,n.lists.length<=4/\∀l∈n.lists,l.length<=1000
def Ix{s fs most m}(g:cJ s)(x:iE s fs)(h:dv s fs most=some m):FD s fs m:=by
 by_cases f:fs=[]
 .subst f;have:=wX h;subst this;refine⟨⟨λi n b=>r_,λn b=>r_,λj q=>r_,λn b=>r_⟩,λn b=>r_⟩
 .obtain⟨st,rfl,d⟩:=wY g f h;have c:=d.pos
  refine⟨d.sb,λn b=> ?_⟩
  .obtain⟨i,hi,rfl⟩:=getElem_of_mem b;obtain⟨_,h2,u⟩:=d.lists g (gE hi);grind
abbrev Hv:=Option Cl×Option Cl
def BA:Option Cl->Ag
 |none=>az
 |some c=>c.ag
def FJ(ps:List (LN×Ag))(l:List Fa):Prop:=(∀K,bW K (aw l)=bW K ps)/\∀key,(∃x∈aw l,x.1=key)↔∃x∈ps,x.1=key
structure eO(s:aN)(rows:List Rw)(l:List Fa):Prop where
 bO:cJ s
 ok:iE s l
 of:∃ps,jk s rows ps/\(∀x∈ps,kO s x.1/\GA s.aC.length 1 x.2)/\ps.length<=64/\FJ ps l
def yG{l}(h:sE l):(aw l).Pairwise λa b=>aI a.1 b.1<0:=by
 have H:∀u v d(g:v<l.length),u<v->aI l[u].keys l[v].keys<0:=by
  intro u v;induction v with
  |zero=>omega
  |succ v p=>
   intro d g m;have h1:=h v g;by_cases f:u=v
   .grind
   .have h2:=p d o_ o_;have r:=sX (Int.le_of_lt h2) (Int.le_of_lt h1);obtain e|e:=Int.lt_or_eq_of_le r
    . omega
    .exfalso;have q:=nW e;rw[<-q,jU]at h1;omega
 unfold aw;rw[pairwise_map];exact pairwise_iff_getElem.2 λi j hi n c=>H i j hi n c
def ux{l}(h:l.Pairwise λa b=>aI a.1 b.1<0){x:LN×Ag}(hx:x∈l):bW (λk=>k == x.1) l=some x.2:=by
 have g:(l.filter λy=>y.1 == x.1)=[x]:=by
  induction l with
  |nil=>cases hx
  |cons y l f=>
   obtain⟨h1,h2⟩:=pairwise_cons.1 h;obtain e|hx:=mem_cons.1 hx
   .subst e;rw[filter_cons_of_pos s_,filter_eq_nil_iff.2];intro z d c;have:=h1 z d;rw[beq_iff_eq.1 c,nX]at this;omega
   .rw[filter_cons_of_neg,f h2 hx];intro c;have:=h1 x hx;rw[beq_iff_eq.1 c,nX]at this;omega
 unfold bW;rw[g];rfl
def Bb{s rows l g}(h:eO s rows l)(h':eO s rows g):aw l=aw g:=by
 obtain⟨ps,h1,h2,J,u,p⟩:=h.of;obtain⟨F,C,H,I,q,z⟩:=h'.of;have e:=um h.bO h1 C;subst e;have p1:=yG h.ok.ja;have p2:=yG h'.ok.ja;have c:∀{a b},a.Pairwise (λx y=>aI x.1 y.1<0)->b.Pairwise (λx y=>aI x.1 y.1<0)->(∀K,bW K a=bW K b)->(∀key,(∃x∈a,x.1=key)->∃x∈b,x.1=key)->∀x∈a,x∈b:=by
  intro a b d v D hk x hx;obtain⟨y,r,e⟩:=hk _ ⟨x,hx,rfl⟩;have B:=ux d hx;have f:=ux v r;rw[e,<-D,B]at f;injection f with f;have:=Prod.ext e.symm f;rw[this];omega
 have nd:∀{a:List (LN×Ag)},a.Pairwise (λx y=>aI x.1 y.1<0)->a.Nodup:=by
  intro a d;rw[nodup_iff_pairwise_ne];refine d.imp λ{x y} m e=> ?_;rw[e,nX]at m;omega
 have G:∀x,x∈aw l↔x∈aw g:=λx=>⟨c p1 p2 (λK=>(u K).trans (q K).symm) (λkey hx=>(z _).2 ((p _).1 hx)) x,c p2 p1 (λK=>(q K).trans (u K).symm) (λkey hx=>(p _).2 ((z _).1 hx)) x⟩;have E:=(perm_ext_iff_of_nodup (nd p1) (nd p2)).2 G;refine E.eq_of_pairwise (λa b d v A n=> ?_) p1 p2;rw[jU]at n;omega
def AW{s l c}(h:aw l=aw c) m:dv s l m=dv s c m:=by
 have e:l.length=c.length:=by
  have:=congrArg length h;unfold aw at this;rw[lM,lM]at this;omega
 have d:l=[]↔c=[]:=r_
 unfold dv;grind
def xr{m k a j}(p:fP j a)(c:eS m a\/a=az):∀(l:List Ag)(x:Ag)(i:Nat),GA m i x->(∀y∈l,GA m k y)->j+i+k*l.length<=5000000->((aR a x).bind λr=>cW r l)=(cW x l).bind λr=>aR a r
 | [],x,i,hx,_,_=>by
  show((aR a x).bind some)=aR a x;simp
 |b::l,x,i,hx,f,v=>by
  rw[length_cons,Nat.mul_succ]at v;obtain⟨g,d,n⟩:=join_some hx.b (.inl hx.ok) (f b mem_cons_self) (by omega);have u:=xr p c l g _ n (λy z=>f y (mem_cons_of_mem _ z)) o_;have s:=join_assoc p c hx (f b mem_cons_self) (by omega);rw[d]at s;show((aR a x).bind λr=>(aR r b).bind λq=>cW q l)=((aR x b).bind λq=>cW q l).bind λr=>aR a r;grind
def K6{m a j}(f:fP j a)(d:eS m a\/a=az) l(e:∀y∈l,GA m 1 y)(g:j+l.length<=5000000):cW a l=(cW az l).bind λr=>aR a r:=by
 cases l with
 |nil=>
  show some a=aR a az;unfold aR;split
  .rename_i h0;obtain h|h:=d
   .have:=h.c;omega
   .rw[h]
  .rfl
 |cons b l=>
  rw[length_cons]at g;have h:=xr f d l b 1 (e b mem_cons_self) (λy n=>e y (mem_cons_of_mem _ n)) o_;show((aR a b).bind λr=>cW r l)=((aR az b).bind λq=>cW q l).bind _;rw[h];rfl
def BN{s rows ps g r l}(z:cJ s)(h:jk s rows ps)(A:ps.length<=64)(c:∀x∈ps,kO s x.1/\GA s.aC.length 1 x.2)(q:g.Perm ps)(C:mg g)(H:dT [] g=some r)(u:l.map pl=r):eO s rows l:=by
 have B:∀x∈g,kO s _/\GA _ 1 _:=λx hx=>c x (q.mem_iff.1 hx);have F:=q.length_eq;obtain⟨I,h1,h2,D,G⟩:=rf A g 0 _ ⟨o_,o_,(λx hx=>r_),(λx hx=>(B x hx).2),List.Pairwise.nil,C,(λx hx=>r_)⟩;rw[H]at h1;injection h1 with h1;subst h1;have d:∀key,(∃x∈r,x.1=key)↔∃x∈ps,x.1=key:=λkey=>by
  rw[G];grind
 have y:aw l=r:=u;refine⟨z,⟨?_,λf p=> ?_,λf p=> ?_,λi hi=> ?_⟩,_,h,c,A,λK=> ?_,by rw[y];omega⟩
 .have:=h2.ye;grind
 .obtain⟨x,hx,e⟩:=(d f.keys).1 ⟨pl f,r_,rfl⟩;grind
 .have:=h2.pW (pl f) r_;exact⟨(this.more A).b,this.ok⟩
 .have v:=h2.up;rw[<-u,pairwise_map]at v;exact pairwise_iff_getElem.1 v i _ o_ hi o_
 .rw[y,D,nil_append];unfold bW;refine BV (m:=s.aC.length) (k:=1) ((q.filter _).map _) _ 0 qS (.inr rfl) (λa E=> ?_) ?_
  .grind
  grind
def Ja{s ps c}(e:ps.length<=64)(b:∀x∈ps,kO s x.1/\GA s.aC.length 1 x.2)(d:c.Perm ps)(f:mg c):∃r,dT [] c=some r:=by
 have g:=d.length_eq;obtain⟨p,h1,_⟩:=rf e c 0 _ ⟨o_,o_,(λx hx=>r_),(λx hx=>(b x (d.mem_iff.1 hx)).2),List.Pairwise.nil,f,(λx hx=>r_)⟩;grind
def under(s:aN)(fs:List Fa)(p:Pos)(d i:Nat):Bool:=decide (p.cU<0)||(((bN ((s.af[d]?).getD ⟨⟨#[]⟩,none,[],0⟩) p.cU.toNat (mC (aw fs) d i):Nat):Int) == p.key)
def Ce d a i:∀n,bN d (a+n) i=dp d a n (bN d a i)
 |0=>rfl
 |n+1=>by
  rw[<-Nat.add_assoc,bN,dp,Ce]
def Cf d{a b}(h:a<=b) i:bN d b i=fu d a b (bN d a i):=by
 unfold fu;rw[<-Ce,Nat.add_sub_cancel' h]
structure Pk where
 f:Nat
 t:Nat
 lo:ByteArray
 hi:ByteArray
 A:OA
 set:List ByteArray
 c:Nat
 g:Bool
 bG:Nat
abbrev tK(x y:ByteArray):Bool:=Op.bytesLess x.toList y.toList
def bE(d:au)(t:Nat):List ByteArray:=((d.ai[t]?).map dU.ar).getD []
def eI(d:au)(t k:Nat):ByteArray:=((bE d t)[k]?).getD .empty
def dY(d:au)(p:Pk)(k:Nat):Bool:=
 if p.f=0 then true
 else if p.f=1 then !tK (eI d p.t k) p.lo && !tK p.hi (eI d p.t k)
 else p.set.any λx=>x.toList == (eI d p.t k).toList
structure gz(d:au)(p:Pk):Prop where
 kind:(p.f=0/\p.t=0)\/(p.f=1/\p.set=[])\/(p.f=2/\eu p.set/\∀x∈p.set,∃i:Nat,(bE d p.t)[i]? = some x)
 t:p.t<d.ai.length
 lo:p.lo.size<=16/\(p.f≠1->p.lo = .empty)
 hi:p.hi.size<=16/\(p.f≠1->p.hi = .empty)
 free:p.f=0->p.set=[]
 bG:p.bG<d.ai.length
 off:p.g=false->p.bG=0
def gj(p:Pk):Option Nat:=if p.f=0 then(if p.g then some p.bG else none)else some (if p.g then min p.t p.bG else p.t)
def bL(d:au)(p:Pk)(t:Nat):LN:=(range (bE d t).length).filter λk=>dY d p (fu d t (max p.t t) k)
def fZ(d:au)(p:Pk)(t k:Nat):LN:=if p.g then [fu d t p.bG k]else []
def lU{d p}(h:gz d p){t}(ht:gj p=some t):t<d.ai.length/\(p.f≠0->t<=p.t)/\(p.g=true->t<=p.bG):=by
 have h1:=h.t;have h2:=h.bG;unfold gj at ht;grind
def eo:List (au×Pk)->Nat->LN->Bool
 | [],_,_=>true
 |(d,p)::L,a,keys=>dY d p (bN d p.t ((keys[a]?).getD 0))&&eo L (a+1) keys
def dO:List (au×Pk)->Nat->LN->LN
 | [],_,_=>[]
 |(d,p)::L,a,keys=>(if p.g then [bN d p.bG ((keys[a]?).getD 0)]else [])++dO L (a+1) keys
def bZ(fs:List Fa):List (au×Pk)->Nat->cL->LN->List (LN×Ag)
 | [],_,K,pre=>match bW K (aw fs)with
  |some g=>[(pre,g)]
  |none=>[]
 |(d,p)::L,a,K,pre=>match gj p with
  |none=>bZ fs L (a+1) K pre
  |some t=>(bL d p t).flatMap λk=>if aT fs (df d a t k K)=[]then []else bZ fs L (a+1) (df d a t k K) (pre++fZ d p t k)
def iB(fs:List Fa)(L:List (au×Pk))(a:Nat)(K:cL)(pre:LN):List (LN×Ag):=((aw fs).filter λx=>K x.1&&eo L a x.1).map λx=>(pre++dO L a x.1,x.2)
structure iQ(m:Nat)(P W:List (LN×Ag)):Prop where
 len:P.length<=W.length
 ga:∀x∈P,GA m 2560 x.2
 gw:∀x∈W,GA m 64 x.2
 sum:∀Q,bW Q P=bW Q W
 keys:∀key,(∃x∈P,x.1=key)↔∃x∈W,x.1=key
def iQ.nil m:iQ m [] []:=⟨o_,λ_ h=>r_,λ_ h=>r_,λ_=>rfl,λ_=>Iff.rfl⟩
def K0{m k a j}(d:fP j a)(c:eS m a\/a=az) l(f:∀y∈l,GA m k y)(e:j+k*l.length<=5000000):cW a l=(cW az l).bind λr=>aR a r:=by
 cases l with
 |nil=>exact K6 d c _ (λ_ h=>r_) o_
 |cons b l=>
  rw[length_cons,Nat.mul_succ]at e;have h:=xr d c l b k (f b mem_cons_self) (λy g=>f y (mem_cons_of_mem _ g)) o_;show((aR a b).bind λr=>cW r l)=((aR az b).bind λq=>cW q l).bind _;rw[h];rfl
def EH{m k} Q{A B}(e:∀x∈A,GA m k x.2)(c:∀x∈B,GA m k x.2)(g:k*A.length+k*B.length<=5000000):bW Q (A++B)=(bW Q A).bind λa=>(bW Q B).bind λb=>aR a b:=by
 rw[uw];obtain⟨r,h1,h2,f⟩:=yS Q A e o_;rw[h1];show cW r _=(bW Q B).bind λb=>aR r b;refine K0 (k:=k) h2 f _ (λy d=> ?_) ?_
 .grind
 .rw[lM];have:=Nat.mul_le_mul_left k (length_filter_le (λx=>Q x.1) B);omega
def iQ.app{m P W f d}(h:iQ m P W)(h':iQ m f d)(g:W.length+d.length<=40):iQ m (P++f) (W++d):=by
 have h1:=h.len;have h2:=h'.len;refine⟨o_,λx hx=>(mem_append.1 hx).elim (h.ga x) (h'.ga x),λx hx=>(mem_append.1 hx).elim (h.gw x) (h'.gw x),λQ=> ?_,λkey=> ?_⟩
 .rw[EH Q h.ga h'.ga o_,EH Q h.gw h'.gw o_,h.sum,h'.sum]
 .constructor
  .rintro⟨x,hx,e⟩;obtain hx|hx:=mem_append.1 hx
   .obtain⟨y,c,b⟩:=(h.keys _).1 ⟨x,hx,e⟩;grind
   .obtain⟨y,c,b⟩:=(h'.keys _).1 ⟨x,hx,e⟩;grind
  .rintro⟨x,hx,e⟩;obtain hx|hx:=mem_append.1 hx
   .obtain⟨y,c,b⟩:=(h.keys _).2 ⟨x,hx,e⟩;grind
   .obtain⟨y,c,b⟩:=(h'.keys _).2 ⟨x,hx,e⟩;grind
def EG{m k} Q{A B}(d:∀x∈A,GA m k x.2)(e:k*A.length<=5000000)(c:A.Perm B):bW Q A=bW Q B:=by
 unfold bW;refine BV (m:=m) (k:=k) ((c.filter _).map _) _ 0 qS (.inr rfl) (λa b=> ?_) ?_
 .grind
 .rw[lM];have:=Nat.mul_le_mul_left k (length_filter_le (λx=>Q x.1) A);omega
def iQ.perm{m P W c}(h:iQ m P W)(b:W.Perm c)(d:64*W.length<=5000000):iQ m P c:=by
 refine⟨by rw[<-b.length_eq];exact h.len,h.ga,λx hx=>h.gw x (b.mem_iff.2 hx),λQ=>(h.sum Q).trans (EG Q h.gw d b),λkey=>(h.keys _).trans ?_⟩;grind
def ym{α}(f:α->Nat):∀(ks:LN)(l:List α),ks.Nodup->(ks.flatMap λk=>l.filter λx=>f x == k).Perm (l.filter λx=>decide (f x∈ks))
 | [],l,_=>by
  simp
 |k::ks,l,h=>by
  obtain⟨h1,h2⟩:=nodup_cons.1 h;have c:=ym f _ l h2;rw[flatMap_cons];apply(List.Perm.append_left _ c).trans;have b:=filter_append_perm (λx=>f x == k) (l.filter λx=>decide (f x∈k::ks));rw[filter_filter,filter_filter]at b;have d:(l.filter λa=>(f a == k)&&decide (f a∈k::ks))=l.filter λx=>f x == k:=filter_congr λx _=>r_
  have g:(l.filter λa=>(!(f a == k))&&decide (f a∈k::ks))=l.filter λx=>decide (f x∈ks):=filter_congr λx _=>r_
  grind
end Tc
namespace Tc
open List Go.ChangeShapes Go.WideShapes Go.ChangeAt Go.RowKit Go.Joins Go.Deep Base
structure Pq where
 f:Int
 t:Int
 lo:ByteArray
 hi:ByteArray
 A:OA
 set:List ByteArray
 c:Nat
 g:Bool
 bG:Int
def qh(p:Pq):LV:=[I p.f,I p.t,T p.lo,T p.hi,U p.A p.set.length p.c,.bool p.g,I p.bG]
abbrev nF(p:Pq):AV:=#[I p.f,I p.t,T p.lo,T p.hi,U p.A p.set.length p.c,.bool p.g,I p.bG]
def Du p:(qh p).length=7:=rfl
structure lC(w:World)(B:Nat)(p:Pq):Prop where
 lo:p.lo.size<=maxLen
 hi:p.hi.size<=maxLen
 n:p.set.length<=maxLen
 set:Row w B p.A (p.set.map .string)
 sz:∀x∈p.set,x.size<=maxLen
 fits:(Lit.int .i64 p.f).wf=true/\(Lit.int .i64 p.t).wf=true/\(Lit.int .i64 p.bG).wf=true
def lC.below{w w' B p}(h:lC w B p)(b:Below B w w'):lC w' B p:=⟨h.lo,h.hi,h.n,h.set.below b,h.sz,h.fits⟩
def lC.more{w B b p}(h:lC w B p)(c:B<=b):lC w b p:=⟨h.lo,h.hi,h.n,h.set.more c,h.sz,h.fits⟩
structure jt(w:World)(B:Nat)(A:OA)(l:List Pq):Prop where
 n:l.length<=maxLen
 row:Row w B A (l.flatMap qh)
 each:∀p∈l,lC w B p
def jt.below{w w' B A l}(h:jt w B A l)(b:Below B w w'):jt w' B A l:=⟨h.n,h.row.below b,λp c=>(h.each p c).below b⟩
def jt.more{w B b A l}(h:jt w B A l)(c:B<=b):jt w b A l:=⟨h.n,h.row.more c,λp d=>(h.each p d).more c⟩
def jt.pick{w B A l}(h:jt w B A l) k(hk:k<l.length) :
 ∃b off,A=some ⟨b,off,none⟩/\b<B/\C w b (off+k*7) (I l[k].f)/\C w b (off+k*7+1) (I l[k].t)/\C w b (off+k*7+2) (T l[k].lo)/\C w b (off+k*7+3) (T l[k].hi)/\C w b (off+k*7+4) (U l[k].A l[k].set.length l[k].c)/\C w b (off+k*7+5) (.bool l[k].g)/\C w b (off+k*7+6) (I l[k].bG):=by
 obtain⟨b,off,e,m,d⟩:=Row.rec Du h.row o_ k hk;exact⟨b,_,e,m,d 0 _ rfl,d 1 _ rfl,d 2 _ rfl,d 3 _ rfl,d 4 _ rfl,d 5 _ rfl,d 6 _ rfl⟩
def nE(p:Pq):Pk:=⟨p.f.toNat,p.t.toNat,p.lo,p.hi,p.A,p.set,p.c,p.g,p.bG.toNat⟩
structure lD(d:au)(p:Pq):Prop where
 f:0<=p.f
 t:0<=p.t
 bG:0<=p.bG
 ok:gz d (nE p)
section
variable{H:Type}{enc:TypeId×Value->H}{W:World}{b0:Nat}{sp:Nat->Bool}{held:Bool}{fuel:Nat}{x:DataW H×List MemPlace}{v:Value}
def Mw(h:DataW.trod enc Tryz.prog W b0 sp held fuel 27 [v]=some x) :
 ∃(A:OA)(l:List Pq)(c:Nat),v = U A l.length c/\l.length<=c/\c<=maxLen/\Row W W.heap.size A (l.flatMap qh)/\∀p∈l,lC W W.heap.size p:=by
 refine tV Du _ o_ Tryz.underlying27 Tryz.underlying58 k_ k_ rfl (λg d=> ?_) h;obtain⟨u0,n0,y0,c0,I⟩:=d 0 _ rfl;obtain⟨N,G,_,F⟩:=DataW.trod_int Tryz.underlying3 I;obtain⟨u1,n1,y1,c1,t1⟩:=d 1 _ rfl;obtain⟨Z,r,_,e⟩:=DataW.trod_int Tryz.underlying3 t1;obtain⟨u2,n2,y2,c2,t2⟩:=d 2 _ rfl;obtain⟨L,E,_,n⟩:=DataW.trod_string Tryz.underlying9 t2;obtain⟨u3,n3,y3,c3,T⟩:=d 3 _ rfl;obtain⟨M,z,_,D⟩:=DataW.trod_string Tryz.underlying9 T;obtain⟨u4,n4,y4,X,J⟩:=d 4 _ rfl;obtain⟨A1,l1,V,rfl,C,q,B,m⟩:=tW Tryz.underlying23 Tryz.underlying9 k_ J;obtain⟨u5,n5,y5,O,t5⟩:=d 5 _ rfl;obtain⟨z5,f,_⟩:=DataW.trod_bool Tryz.underlying4 t5;obtain⟨u6,n6,y6,H,Y⟩:=d 6 _ rfl;obtain⟨R,s,_,y⟩:=DataW.trod_int Tryz.underlying3 Y;injection G with G _
 injection r with r _
 injection E with E _
 injection z with z _
 injection f with f _
 injection s with s _
 subst G r E z f s;refine⟨⟨N,Z,L,M,_,_,V,z5,R⟩,λj u b=> ?_,n,D,o_,B,m,F,e,y⟩
 match j,b with
 |0,b=>injection b with b;grind
 |1,b=>injection b with b;grind
 |2,b=>injection b with b;grind
 |3,b=>injection b with b;grind
 |4,b=>injection b with b;grind
 |5,b=>injection b with b;grind
 |6,b=>injection b with b;grind
 |j+7,b=>trivial
def Mx{base:Nat}{d:DataW H}{p:List MemPlace}(r:Value.okWide Tryz.prog W .any base 29 v)(h:DataW.Trod enc Tryz.prog W 0 (λ_=>true) true 29 v d p):∃(A:OA)(l:List Pq)(c:Nat),v = .agg #[.slice A l.length c]/\l.length<=c/\jt W W.heap.size A l:=by
 obtain⟨cs,rfl,b⟩:=okWide_struct Tryz.underlying29 r;have m:cs.size=1:=b.trans k_;obtain⟨l⟩:=cs;match l,m with
 | [C],_=>
  obtain⟨f,s⟩:=h;obtain⟨u,n,y,e,z⟩:=tf Tryz.underlying29 k_ k_ s 0 _ rfl;simp[Value.cells]at e;subst e;obtain⟨A,l,c,rfl,g,q,B,x⟩:=Mw z;exact⟨A,l,c,rfl,g,o_,B,x⟩
end
end Tc
namespace Tc
open List Go.RowKit Base Go.Proofs.Tryz
abbrev cT(p:Pk):AV:=#[I p.f,I p.t,T p.lo,T p.hi,U p.A p.set.length p.c,.bool p.g,I p.bG]
structure jO(w:World)(B:Nat)(p:Pk):Prop where
 set:Row w B p.A (p.set.map .string)
 n:p.set.length<=1000000
def jO.below{w w' B p}(h:jO w B p)(b:Below B w w'):jO w' B p:=⟨h.set.below b,h.n⟩
def jO.more{w B b p}(h:jO w B p)(c:B<=b):jO w b p:=⟨h.set.more c,h.n⟩
def lD.pk{d p}(h:lD d p):nF p=cT (nE p):=by
 have h1:=h.f;have h2:=h.t;have b:=h.bG;unfold cT nE;grind
def aa.seven{w g t f e m d b n c}(h:aa w g t #[f,e,m,d,b,n,c]) :
 C w g 0 f/\C w g 1 e/\C w g 2 m/\C w g 3 d/\C w g 4 b/\C w g 5 n/\C w g 6 c:=
 ⟨h.cell 0,h.cell 1,h.cell 2,h.cell 3,h.cell 4,h.cell 5,h.cell 6⟩
abbrev mO(w:World)(e:Ending)(w':World):Prop:=e = .returned (I 0)/\E w w'
def FX p w(ht:p.t=0)(e:p.lo = .empty)(d:p.hi = .empty)(m:p.set=[]):Calls prog 239 #[.agg (cT p)] w (R_ (.bool true) w):=by
 obtain⟨f,t,lo,hi,A,set,c,g,b⟩:=p;dsimp only at ht e d m;subst ht m;rw[show ByteArray.empty=⟨#[]⟩from rfl]at e d;subst e d;have n:=J ((ah _ w).alloc (ae _) (.cells #[N f,I 0,T ⟨#[]⟩,T ⟨#[]⟩,U A 0 c,.bool g,N b] 58));unfold cT;dsimp only[length_nil];go_in;go_wp2;go_ret;trivial
def Gn p w(n:p.lo.size<=16)(m:p.hi.size<=16)(d:p.set=[]):Calls prog 240 #[.agg (cT p)] w (mO w):=by
 obtain⟨f,t,lo,hi,A,set,c,g,b⟩:=p;dsimp only at n m d;subst d;have e:=J ((ah _ w).alloc (ae _) (.cells #[N f,N t,T lo,T hi,U A 0 c,.bool g,N b] 58));have h1:decide (16<(lo.size:Int))=false:=o_;have h2:decide (16<(hi.size:Int))=false:=o_;unfold cT;dsimp only[length_nil];go_in;go_wp2;go_ret;trivial
def FO t p w(hl:p.lo = .empty)(R:p.hi = .empty)(M:eu p.set)(hm:∀x∈p.set,∃i:Nat,t.ar[i]? = some x)(z:eu t.ar)(G:t.ar.length<=1000000)(ha:iV w w.heap.size t)(O:jO w w.heap.size p):Calls prog 241 #[.agg (cY t),.agg (cT p)] w (mO w):=by
 obtain⟨f,I,lo,hi,A,set,c,g,b⟩:=p;dsimp only at hl R M hm;rw[show ByteArray.empty=⟨#[]⟩from rfl]at hl R;subst hl R;have m:=(ah _ w).alloc (ae _) (.cells (cY t) 104);have s:=J (aa.new w 104 (cY t));obtain⟨w1,v⟩:=e_ (w.alloc (.cells (cY t) 104))
 rw[v]at m s;have F:=m.alloc m.size (.cells #[N f,N I,T ⟨#[]⟩,T ⟨#[]⟩,U A set.length c,.bool g,N b] 58);have D:=J (aa.new w1 58 #[N f,N I,T ⟨#[]⟩,T ⟨#[]⟩,U A set.length c,.bool g,N b]);have y:=J (s.alloc (.cells #[N f,N I,T ⟨#[]⟩,T ⟨#[]⟩,U A set.length c,.bool g,N b] 58));have H:=O.set;dsimp only at H;have hn:=O.n;dsimp only at hn;have HR:=J (λW(d:E w W)=>EW A _ c W (by unfold maxLen;omega) ((H.below d).more d.size) M);have HS:=J (λW(d:E w W)=>(H.below d).more d.size)
 have HF:=J (λW(d:E w W) x hx=>show∃i:Nat,Calls _ _ #[U _ _ t.ct,T x] W (R_ _ W)from by
  obtain⟨i,hi⟩:=hm x hx
  exact⟨i,ER _ _ _ i x W G ((ha.ar.below d).more d.size) z hi⟩)
 have u:=J F;obtain⟨nt,C⟩:=e_ t.ar.length
 obtain⟨n,V⟩:=e_ set.length
 have Hn:=J V;unfold cT cY at*;dsimp only;rw[C]at s y v HF⊢;rw[V]at D y u HR hn⊢;clear m F M hm z G ha O H V C;generalize L:w1.alloc _=w2 at*;have pD:=aa.seven D;go_in;go_wp2_with fail;apply(HR _ u).mono;rintro e w3⟨rfl,rfl⟩;go_wp2;clear v L pD
 go_loopw [27] (λr wr=>∃(k:Nat),k<=n/\r = N k/\E w2 wr) (λr _=>n-(intOf r).toNat)
 case atStart=>exact⟨0,o_,rfl,bR⟩
 .obtain⟨k,hk,rfl,d⟩:=hrel;have Hb:=J d;have X:=ay u d;clear d;by_cases Z:k<n
  .have q:k<set.length:=by rw[Hn];omega
   obtain⟨bs,os,rfl,_,c0⟩:=(HS _ X).at_ (by rw[lM];exact q);rw[getElem_map]at c0;obtain⟨i,hf⟩:=HF _ X _ (gM q);have Hf:=J hf;clear hf;generalize set[k]'q=x at*;obtain⟨t0,t1,t2,_⟩:=(y.under Hb).three;have k0:0<=(k:Int):=o_
   have k1:k<(n:Int):=o_
   go_wp2_with fail;apply Hf.mono;rintro e w4⟨rfl,B⟩;have Y:=ay Hb B;clear B c0 t0 t1 t2;go_wp2;exact⟨⟨k+1,o_,o_,Y⟩,o_⟩
  .obtain rfl:k=n:=o_
   go_wp2;go_ret;trivial
structure Sn where
 t:Int
 At:OA
 take:LN
 ct:Nat
 Ai:OA
 dz:LN
 ci:Nat
def oL(s:Sn):LV:=[I s.t,U s.At s.take.length s.ct,U s.Ai s.dz.length s.ci]
abbrev uv(s:Sn):AV:=#[I s.t,U s.At s.take.length s.ct,U s.Ai s.dz.length s.ci]
def PY s:(oL s).length=3:=rfl
structure mP(w:World)(B:Nat)(s:Sn):Prop where
 take:Row w B s.At (an s.take)
 dz:Row w B s.Ai (an s.dz)
def mP.below{w w' B s}(h:mP w B s)(b:Below B w w'):mP w' B s:=⟨h.take.below b,h.dz.below b⟩
def mP.more{w B b s}(h:mP w B s)(c:B<=b):mP w b s:=⟨h.take.more c,h.dz.more c⟩
structure fU(w:World)(B:Nat)(A:OA)(l:List Sn):Prop where
 row:Row w B A (l.flatMap oL)
 each:∀s∈l,mP w B s
def fU.below{w w' B A l}(h:fU w B A l)(b:Below B w w'):fU w' B A l:=⟨h.row.below b,λp c=>(h.each p c).below b⟩
def fU.more{w B b A l}(h:fU w B A l)(c:B<=b):fU w b A l:=⟨h.row.more c,λp d=>(h.each p d).more c⟩
def fU.scan{w B A l}(h:fU w B A l) k(hk:k<l.length) :
 ∃b off,A=some ⟨b,off,none⟩/\b<B/\C w b (off+k*3) (I l[k].t)/\C w b (off+k*3+1) (U l[k].At l[k].take.length l[k].ct)/\C w b (off+k*3+2) (U l[k].Ai l[k].dz.length l[k].ci):=by
 obtain⟨b,off,e,d,c⟩:=Row.rec PY h.row o_ k hk;exact⟨b,_,e,d,c 0 _ rfl,c 1 _ rfl,c 2 _ rfl⟩
def iN(p:Pk):Int:=match gj p with
 |none=> -1
 |some t=>(t:Int)
def nG(d:au)(p:Pk):LN:=match gj p with
 |none=>[]
 |some t=>bL d p t
def ql(d:au)(p:Pk):LN:=match gj p with
 |none=>[]
 |some t=>if p.g then(bL d p t).map (fu d t p.bG)else []
structure jh(d:au)(p:Pk)(s:Sn):Prop where
 t:s.t=iN p
 take:s.take=nG d p
 dz:s.dz=ql d p
def uu{d p t k}(h:k∈bL d p t):k<(bE d t).length:=by
 unfold bL at h;grind
def Ei d p t:(bL d p t).Pairwise (·<·):=by
 unfold bL;exact List.Pairwise.sublist filter_sublist pairwise_lt_range
def EL{d p t}:(bL d p t).length<=(bE d t).length:=by
 have:=length_filter_le (λk=>dY d p (fu d t (max p.t t) k)) (range (bE d t).length);rw[length_range]at this;exact this
def mJ(d:au)(p:Pk)(t j:Nat):LN:=(range j).filter λk=>dY d p (fu d t (max p.t t) k)
def Qy d p t:mJ d p t (bE d t).length=bL d p t:=rfl
def Qz d p t j:mJ d p t (j+1)=if dY d p (fu d t (max p.t t) j)=true then mJ d p t j++[j]else mJ d p t j:=by
 unfold mJ;rw[range_succ,filter_append];grind
def EK d p t j:(mJ d p t j).length<=j:=by
 have:=length_filter_le (λk=>dY d p (fu d t (max p.t t) k)) (range j);rw[length_range]at this;exact this
structure Mv(F0:Nat->Prop)(w w':World)(F:Nat->Prop):Prop where
 ax:aq F0 w w'
 sub:∀k,F k->more F0 w w' k
section
variable{F0 F F1:Nat->Prop}{w w' w1:World}
def Mv.start F w:Mv F w w F:=⟨aq.refl _ _,λk hk=> .inl hk⟩
def Mv.below(h:Mv F0 w w' F)(b:E w' w1):Mv F0 w w1 F:=⟨h.ax.trans (aq.below b),λk hk=>lO o_ b.size (h.sub k hk)⟩
def Mv.trans(h:Mv F0 w w' F)(k:Mv F w' w1 F1):Mv F0 w w1 F1:=
 ⟨⟨k.ax.os.trans h.ax.os,k.ax.tape.trans h.ax.tape,k.ax.output.trans h.ax.output,aF h.ax.size k.ax.size,λi hi b=>(k.ax.block i (bh hi h.ax.size) (λc=>by
  obtain h1|⟨h1,_⟩:=h.sub i c
  .grind
  .omega)).trans (h.ax.block i hi b)⟩,λi hi=>by
  obtain h1|⟨h1,h2⟩:=k.sub i hi
  .exact lO o_ k.ax.size (h.sub i h1)
  .exact .inr ⟨aF h.ax.size h1,h2⟩⟩
def Mv.aH(h:Mv F0 w w' F){g:Nat}(c:w.heap.size<=g)(o:Nat)(b:LV):Mv F0 w (aH w' g o b) F:=
 have k:Kept (λ_=>False) _ _:=rr id b _ o;⟨l9 c _ _ _ h.ax,λi hi=>lO o_ k.size (h.sub i hi)⟩
def Mv.still(h:Mv F0 w w' F){k:Nat}(hk:k<w.heap.size)(b:¬F0 k):w'.heap[k]? = w.heap[k]?:= h.ax.block k hk b
def Mv.off(h:Mv F0 w w' F){k:Nat}(hk:k<w.heap.size)(b:¬F0 k):¬F k:=λc=>by
 obtain h1|⟨h1,_⟩:=h.sub k c
 .grind
 .omega
def Mv.row(h:Mv F0 w w' F){A:OA}{b:LV}(c:Row w w.heap.size A b)(d:∀k,cE A b k->¬F0 k):Row w' w'.heap.size A b/\∀k,cE A b k->¬F k:=
 ⟨(fO c (λk hk=>h.still (Row.bU c hk) (d k hk))).more h.ax.size,λk hk=>h.off (Row.bU c hk) (d k hk)⟩
def Mv.box(h:Mv F0 w w' F){g:Nat}{t:TypeId}{cs:AV}(b:aa w g t cs)(c:¬F0 g):aa w' g t cs/\¬F g:=⟨(h.still b.lt c).trans b,h.off b.lt c⟩
end
variable{s:aN}{fs:List Fa}{m:Nat}
def Bk{α β}{f g:α->List β}{l:List α}(h:∀a∈l,f a=g a):l.flatMap f=l.flatMap g:=by
 induction l with
 |nil=>rfl
 |cons a l c=>grind
def Ba{P W:Nat->List (LN×Ag)}:∀(ks:LN),(∀k∈ks,iQ m (P k) (W k))->(ks.flatMap W).length<=40->iQ m (ks.flatMap P) (ks.flatMap W)
 | [],_,_=>iQ.nil m
 |k::ks,h,b=>by
  rw[flatMap_cons,aE]at b;rw[flatMap_cons,flatMap_cons];exact(h k mem_cons_self).app (Ba _ (λj c=>h j (mem_cons_of_mem _ c)) o_) b
structure il(m:Nat)(fs:List Fa):Prop where
 n:fs.length<=40
 ga:∀x∈aw fs,GA m 64 x.2
def kH fs:(aw fs).length=fs.length:=by unfold aw;rw[lM]
def R7 fs L a K pre:(iB fs L a K pre).length<=fs.length:=by
 unfold iB;rw[lM,<-kH];grind
def R5(h:il m fs){L:List (au×Pk)}{a:Nat}{K:cL}{pre:LN}:∀x∈iB fs L a K pre,GA m 64 x.2:=λx hx=>by
 obtain⟨y,b,rfl⟩:=mem_map.1 hx;exact h.ga y (mem_filter.1 b).1
def MW{K:cL}(h:aT fs K=[]):(aw fs).filter (λx=>K x.1)=[]:=by
 rw[filter_eq_nil_iff];intro x hx hk;obtain⟨i,hi,e⟩:=mem_keys.1 ⟨x,hx,rfl⟩;have:i∈aT _ K:=xO.2 ⟨hi,r_⟩;grind
def rU(h:il m fs){K:cL}(hK:aT fs K≠[]):∃g,bW K (aw fs)=some g/\GA m 2560 g:=by
 obtain⟨g,h1,h2,r⟩:=tG (((aw _).filter λx=>K x.1).map _) _ 0 qS (.inr rfl) (λa d=>by
  obtain⟨x,hx,rfl⟩:=mem_map.1 d;have:=h.ga x (mem_filter.1 hx).1;exact⟨this.b,this.ok⟩) (by
   have:=length_filter_le (λx=>K x.1) (aw fs);have:=h.n;rw[lM];rw[kH]at*;omega)
 refine⟨g,h1,qR h2 ?_,r.elim id λe=> ?_⟩
 .have:=length_filter_le (λx=>K x.1) (aw fs);have:=h.n;rw[lM];rw[kH]at*;omega
 .exfalso;obtain⟨i,hi⟩:=exists_mem_of_ne_nil _ hK;obtain⟨p,q⟩:=xO.1 hi;obtain⟨x,hx,f⟩:=mem_keys.2 ⟨i,p,rfl⟩;have c:x.2∈((aw _).filter λx=>K x.1).map _:=mem_map.2 ⟨x,mem_filter.2 ⟨hx,r_⟩,rfl⟩;grind
def IS(h:il m fs)(a:Nat){K:cL}(pre:LN)(hK:aT fs K≠[]):iQ m (bZ fs [] a K pre) (iB fs [] a K pre):=by
 obtain⟨g,q,n⟩:=rU h hK;have f:bZ fs [] a K pre=[(pre,g)]:=by unfold bZ;rw[q]
 have p:iB fs [] a K pre=((aw fs).filter λx=>K x.1).map λx=>(pre,x.2):=by
  unfold iB eo dO;simp
 have b:((aw fs).filter λx=>K x.1)≠[]:=by
  obtain⟨i,hi⟩:=exists_mem_of_ne_nil _ hK;obtain⟨u,v⟩:=xO.1 hi;obtain⟨x,hx,s⟩:=mem_keys.2 ⟨i,u,rfl⟩;exact ne_nil_of_mem (mem_filter.2 ⟨hx,r_⟩)
 refine⟨?_,λx hx=> ?_,R5 h,λQ=> ?_,λkey=> ?_⟩
 .rw[f,p,lM];exact length_pos_iff.2 b
 .grind
 .rw[f,p];unfold bW at*;by_cases d:Q pre=true
  .rw[show([(pre,g)]).filter (λx=>Q _)=[(pre,g)] by simp[d],filter_map,show((aw _).filter λx=>K _).filter ((λx:LN×Ag=>Q x.1)∘λx:LN×Ag=>(pre,x.2))=_ from filter_eq_self.2 (λx _=>d),map_map];show aR az g=_;have e:(Prod.snd∘λx:LN×Ag=>(pre,x.2))=Prod.snd:=rfl;rw[e,q];rfl
  .rw[show([(pre,g)]).filter (λx=>Q _)=[] by simp[d],filter_map,show((aw _).filter λx=>K _).filter ((λx:LN×Ag=>Q x.1)∘λx:LN×Ag=>(pre,x.2))=_ from filter_eq_nil_iff.2 (λx _=>d)];rfl
 .rw[f,p];constructor
  .rintro⟨x,hx,e⟩;obtain⟨y,r⟩:=exists_mem_of_ne_nil _ b;rw[mem_singleton.1 hx]at e;exact⟨_,mem_map.2 ⟨y,r,rfl⟩,e⟩
  simp
def QA{d p}(hd:da d)(c:gz d p){t}(ht:gj p=some t){k}(hk:k<(fin d).length):bN d t k∈bL d p t↔dY d p (bN d p.t k)=true:=by
 obtain⟨h1,h2,e⟩:=lU c ht;have b:bN d t k<(bE d t).length:=by
  have:=pS hd h1 (by rw[<-tg];omega);unfold bE;rw[gE h1];exact this
 unfold bL;rw[mem_filter,mem_range];by_cases h0:p.f=0
 .have:∀x,dY d p x=true:=λx=>by unfold dY;grind
  grind
 .rw[Nat.max_eq_left o_,<-Cf d o_];grind
def xa(A:cJ s)(C:iE s fs)(h:il m fs):∀(L:List (au×Pk))(a:Nat)(K:cL)(pre:LN),(∀i x,L[i]? = some x->s.af[a+i]? = some x.1/\gz x.1 x.2)->aT fs K≠[]->iQ m (bZ fs L a K pre) (iB fs L a K pre)
 | [],a,K,pre,_,hK=>IS h a pre hK
 |(d,p)::L,a,K,pre,M,hK=>by
  obtain⟨hd,N⟩:=M 0 _ rfl;have J:=pE A hd;have r:∀i x,L[i]? = some x->s.af[a+1+i]? = some x.1/\gz x.1 x.2:=λi x hx=>by
   have:=M (i+1) x o_;grind
  rcases ht:gj p with _|t
  .have h0:p.f=0/\p.g=false:=by
    unfold gj at ht;split at ht
    .grind
    .grind
   have E:bZ fs ((d,p)::L) a K pre=bZ fs L (a+1) K pre:=by rw[bZ];rw[ht]
   have Y:iB fs ((d,p)::L) a K pre=iB fs L (a+1) K pre:=by
    unfold iB;simp only[eo,dO,dY,h0.1,h0.2,if_true,Bool.true_and];rfl
   rw[E,Y];exact xa A C h L _ K _ r hK
  .have E:bZ fs ((d,p)::L) a K pre=(bL d p t).flatMap λk=>if aT fs (df d a t k K)=[]then []else bZ fs L (a+1) (df d a t k K) (pre++fZ d p t k):=by rw[bZ];rw[ht]
   obtain⟨u,Z,T⟩:=lU N ht;have F:(bL d p t).Nodup:=by unfold bL;exact List.Nodup.sublist filter_sublist nodup_range
   have v:∀x∈aw _,((x.1)[a]?).getD 0<(fin d).length:=λx hx=>by
    obtain⟨i,hi,e⟩:=mem_keys.1 ⟨x,hx,rfl⟩;have U:a<s.af.length:=(aO hd).1;have:=BZ A C hi hd;rwa[<-e,BY C hi U,Option.getD_some]
   have y:=ym (λx:LN×Ag=>bN d t ((x.1[a]?).getD 0)) _ ((aw fs).filter λx=>K x.1&&eo L (a+1) x.1) F;have O:(((aw fs).filter λx=>K x.1&&eo L (a+1) x.1).filter λx=>decide (bN d t ((x.1[a]?).getD 0)∈bL d p t))=(aw fs).filter λx=>K x.1&&eo ((d,p)::L) a x.1:=by
    rw[filter_filter];refine filter_congr λx hx=> ?_;have hi:=QA J N ht (v x hx);simp only[eo];by_cases B:bN d t ((x.1[a]?).getD 0)∈bL d p t
    .grind
    .grind
   rw[O]at y;have c:=y.map λx=>(pre++dO ((d,p)::L) a x.1,x.2);have R:(((bL d p t).flatMap λk=>((aw fs).filter λx=>K x.1&&eo L (a+1) x.1).filter λx=>bN d t ((x.1[a]?).getD 0) == k).map λx=>(pre++dO ((d,p)::L) a x.1,x.2))=(bL d p t).flatMap λk=>iB fs L (a+1) (df d a t k K) (pre++fZ d p t k):=by
    rw[map_flatMap];refine Bk λk hk=> ?_;unfold iB;rw[filter_filter];have e:((aw _).filter λx=>(bN d t ((x.1[a]?).getD 0) == k)&&(K x.1&&eo L (a+1) x.1))=(aw fs).filter λx=>df d a t k K x.1&&eo L (a+1) x.1:=filter_congr λx _=>by
     unfold df;grind
    rw[e];refine map_congr_left λx hx=> ?_;obtain⟨V,G⟩:=mem_filter.1 hx;have I:bN d t ((x.1[a]?).getD 0)=k:=r_
    simp only[dO,fZ];by_cases z:p.g=true
    .rw[if_pos z,if_pos z,Cf d (T z),I,append_assoc]
    .grind
   rw[R]at c;have q:=c.length_eq;have H:=R7 fs ((d,p)::L) a K pre;have X:=h.n;have b:((bL d p t).flatMap λk=>iB fs L (a+1) (df d a t k K) (pre++fZ d p t k)).length<=40:=by
    rw[q];exact aF H X
   rw[E];refine iQ.perm (Ba _ (λk hk=> ?_) b) c o_;split
   .rename_i u;have:iB fs L (a+1) (df d a t k K) (pre++fZ d p t k)=[]:=by
     unfold iB;rw[map_eq_nil_iff,filter_eq_nil_iff];intro x hx D;have:=(filter_eq_nil_iff.1 (MW u)) x hx;grind
    rw[this];exact iQ.nil m
   .exact xa A C h L _ _ _ r ‹_›
structure ev(P r:List (LN×Ag)):Prop where
 up:r.Pairwise λa b=>aI a.1 b.1<0
 keys:∀key,(∃x∈r,x.1=key)↔∃x∈P,x.1=key
 sum:∀x∈r,bW (λk=>k == x.1) P=some x.2
def ev.move{P W r}(h:ev P r)(b:∀Q,bW Q P=bW Q W)(hk:∀key,(∃x∈P,x.1=key)↔∃x∈W,x.1=key):ev W r:=
 ⟨h.up,λkey=>(h.keys _).trans (hk _),λx hx=>(b _).symm.trans (h.sum x hx)⟩
def ev.one{P r c}(h:ev P r)(h':ev P c):r=c:=by
 have nd:∀{a:List (LN×Ag)},a.Pairwise (λx y=>aI x.1 y.1<0)->a.Nodup:=by
  intro a n;rw[nodup_iff_pairwise_ne];refine n.imp λ{x y} g e=> ?_;rw[e,nX]at g;omega
 have m:∀{r c},ev P r->ev P c->∀x,x∈r->x∈c:=λh h' x hx=>by
  obtain⟨y,q,e⟩:=(h'.keys _).2 ((h.keys _).1 ⟨x,hx,rfl⟩);have d:=h.sum x hx;rw[<-e,h'.sum y q]at d;grind
 refine((perm_ext_iff_of_nodup (nd h.up) (nd h'.up)).2 λx=>⟨m h h' x,m h' h x⟩).eq_of_pairwise (λa b n s p f=> ?_) h.up h'.up;rw[jU]at f;omega
def Jc{m W d r}(s:W.length<=40)(c:∀x∈W,GA m 1 x.2)(b:d.Perm W)(p:mg d)(g:dT [] d=some r):ev W r:=by
 obtain⟨u,h1,h2,q,f⟩:=rf (n:=64) d_ d 0 _ ⟨by rw[b.length_eq];omega,o_,λ_ h=>r_,λx hx=>c x (b.mem_iff.1 hx),.nil,p,λ_ h=>r_⟩;rw[g]at h1;injection h1 with h1;subst h1;refine⟨h2.up,λkey=> ?_,λx hx=> ?_⟩
 .rw[f];grind
 .rw[<-EG _ (λx hx=>c x (b.mem_iff.1 hx)) (by rw[b.length_eq];omega) b,<-ux h2.up hx,q];rfl
def J8{m W b}(g:W.length<=40)(c:∀x∈W,GA m 1 x.2)(d:b.Perm W)(e:mg b):∃r,dT [] b=some r:=by
 obtain⟨f,h1,_⟩:=rf (n:=64) d_ b 0 _ ⟨by rw[d.length_eq];omega,o_,λ_ h=>r_,λx hx=>c x (d.mem_iff.1 hx),.nil,e,λ_ h=>r_⟩;grind
def Qw{m P}(b:∀x∈P,GA m 2560 x.2)(f:P.length<=60){key a}(d:GA m 2560 a):∃bJ r,bW (λk=>k == key) P=some bJ/\aR bJ a=some r/\bW (λk=>k == key) (P++[(key,a)])=some r:=by
 obtain⟨bJ,h1,h2,e⟩:=yS (λk=>k == key) P b o_;obtain⟨r,c,_⟩:=join_some h2 e d o_;refine⟨_,r,h1,c,?_⟩;rw[uw,h1];show cW bJ (([(key,a)].filter λx=>x.1 == key).map Prod.snd)=_;rw[show([(key,a)]).filter (λx=>x.1 == key)=[(key,a)] by simp];show(aR bJ a).bind some=_;rw[c];rfl
def Qv{P key b a}(h:b≠key):bW (λk=>k == b) (P++[(key,a)])=bW (λk=>k == b) P:=by
 unfold bW;grind
def Qu{P key}(h:¬ ∃x∈P,x.1=key):bW (λk=>k == key) P=some az:=by
 unfold bW;rw[filter_eq_nil_iff.2 λx hx b=>h ⟨x,hx,beq_iff_eq.1 b⟩];rfl
structure lu(X:List LN)(m:Nat)(ns:List aQ):Prop where
 n1:1<=X.length
 n16:X.length<=16
 m1:1<=m
 m3:m<=3
 dw:ns.length<=20000
 short:∀x∈X,x.length<=1000
 small:∀n∈ns,n.lists.length<=4/\∀l∈n.lists,l.length<=1000
 sb:qP X.length ns
def jf(w:World)(ga:Nat)(X:List LN)(m:Nat)(e:List aQ):Prop:=∃(A d:OA)(c f most:Nat)(ys:List Fa)(b:List Nd),
 aa w ga 217 (eV A ys.length c m d b.length f most)/\cG w w.heap.size A ys/\ys.map Fa.keys=X/\gX w w.heap.size d b/\b.map aK=e
section
variable{X:List LN}{m ga:Nat}{ns:List aQ}{w w':World}
def jf.below(h:jf w ga X m ns)(b:E w w'):jf w' ga X m ns:=by
 obtain⟨A,g,c,p,most,ys,d,h1,h2,n,e,f⟩:=h;exact⟨A,g,c,p,_,_,d,h1.under b,(h2.below b).more b.size,n,(e.below b).more b.size,f⟩
def yP{b:List Nd}(h:∀n∈b.map aK,n.lists.length<=4/\∀l∈n.lists,l.length<=1000):(∀n∈b,vm n)/\∀n∈b,n.ls.length<=4/\∀l∈n.ls,l.cs.length<=1000:=by
 have H:∀n∈b,n.ls.length<=4/\∀l∈n.ls,l.cs.length<=1000:=λn c=>by
  obtain⟨h1,h2⟩:=h _ (mem_map_of_mem c);unfold aK at h1 h2;grind
 exact⟨λn c=>⟨(H n c).1,λl d=>aF ((H n c).2 l d) d_⟩,H⟩
def jf.shape(h:jf w ga X m ns)(g:lu X m ns):Calls prog 66 #[Y ga 0] w λe w'=>
 ∃(A:OA)(c:Nat)(ys:List Fa),e = .returned (.agg #[U A ys.length c,N m])/\cG w' w'.heap.size A ys/\ys.map Fa.keys=X/\E w w':=by
 obtain⟨A,v,c,y,most,ys,f,h1,h2,d,B,z⟩:=h;have n:ys.length=X.length:=r_
 refine(Gk _ A v c m _ y _ _ w h1 h2 (by rw[n];exact g.n1) (by rw[n];exact g.n16) (λx hx=>by have:=g.short x.keys r_;omega)).mono ?_;rintro e w'⟨q,u,b,rfl,s,p,r⟩;exact⟨q,u,b,rfl,s.at_,r_,r⟩
def jf.top(h:jf w ga X m ns)(d:lu X m ns):Calls prog 46 #[Y ga 0] w λe w'=>e = .returned (I ((ns.length:Int)-1))/\w'=w:=by
 obtain⟨A,p,c,n,most,ys,b,h1,h2,q,r,f⟩:=h;have g:b.length=ns.length:=r_
 have:=EU _ A p _ c m _ n _ w h1 (by rw[show ys.length=X.length by rw[<-q,lM]];exact d.n1) (by have:=d.dw;omega);grind
def jf.node(h:jf w ga X m ns)(g:lu X m ns){i:Nat}{n:aQ}(hi:ns[i]? = some n):Calls prog 45 #[Y ga 0,N i] w (sy n w):=by
 obtain⟨A,x,c,y,most,ys,f,h1,h2,u,v,r⟩:=h;subst r;obtain⟨z,q⟩:=yP g.small;rw[getElem?_map]at hi;obtain⟨nd,d,rfl⟩:=Option.map_eq_some_iff.1 hi;obtain⟨b,e⟩:=aO d;have p:=q _ (gM b);have:=Gg _ A x _ c m y _ f i b w h1 v (by rw[show ys.length=X.length by rw[<-u,lM]];exact g.n1) (by have:=g.dw;grind) o_ (λl s=>r_);grind
def jf.nodes(h:jf w ga X m ns)(b:lu X m ns):Calls prog 69 #[Y ga 0] w (sB ns w):=by
 obtain⟨A,g,c,p,most,ys,d,h1,h2,n,e,f⟩:=h;subst f;exact Gh _ A g _ c m p _ d w h1 e (by rw[show ys.length=X.length by rw[<-n,lM]];exact b.n1) (by have:=b.dw;grind) (yP b.small).1
def jf.whole(h:jf w ga X m ns)(b:lu X m ns):Calls prog 67 #[Y ga 0] w (R_ (.bool true) w):=by
 obtain⟨A,u,c,s,most,ys,e,h1,h2,v,g,p⟩:=h;subst p;have d:ys.length=X.length:=r_
 obtain⟨q,f⟩:=yP b.small;exact Rb _ A u _ c m s _ e w h1 g (by rw[d];exact b.n1) (by rw[d];exact b.n16) (by have:=b.dw;grind) q (λn r=>(f n r).2) (by rw[d];exact b.sb)
end
structure sj(X:List LN)(m most:Nat)(ns:List aQ):Prop where
 n1:1<=X.length
 n16:X.length<=16
 m1:1<=m
 m3:m<=3
 len:ns.length<=most
 RF:most<=1000000
 each:∀(i:Nat)(n:aQ),ns[i]? = some n->∃x,X[n.aj]? = some x/\im (decide (n.aj+1=X.length)) x m n/\(∀l∈n.lists,l.length<=1000)/\(n.aj+1=X.length\/∀c∈cR n,c.child<i/\∃n',ns[c.child]? = some n'/\n'.aj=n.aj+1)
def FY{s fs most}(h:se s fs most){part}(e:fI (aw fs) part){r}(d:nJ (aw fs) part=some r):cB r:=by
 refine xq _ _ r re (λa c=> ?_) d;obtain⟨i,hi,rfl⟩:=mem_map.1 c;have b:=e.lt i hi;unfold aw at b;rw[lM]at b;rw[wB (gE b)];exact h.fit _ (gM b)
def AJ{s fs most}(h:se s fs most){last st at_ key part c}(d:fI (aw fs) part)(e:kq (aw fs) last st at_ key part c):cB c.ag:=by
 have h2:=e.2;split at h2
 .obtain⟨r,b,_⟩:=h.cfg.yT _ d;rw[h2.2,b];exact FY h d b
 .rw[h2.1];exact re
def wW{s fs C}(e:cJ s)(T:iE s fs)(h:dv s fs 20000=some C){b}(V:20000<=b)(z:b<=1000000):sj (s.af.map aW) s.aC.length b C/\∀n∈C,∀x∈cR n,cB x.ag:=by
 have F:=AE e T (most:=20000) d_;have G:=AX h;have W:(s.af.map aW).length=s.af.length:=o_;have B:=e.n1;have N:=e.n2;by_cases r:fs=[]
 .subst r;have:=wX h;subst this;exact⟨⟨o_,o_,e.m1,e.m2,o_,z,λi n h=>r_⟩,λn B=>r_⟩
 .obtain⟨st,rfl,d⟩:=wY e r h;refine⟨⟨o_,o_,e.m1,e.m2,o_,z,λi n hi=> ?_⟩,λn B x hx=> ?_⟩
  .obtain⟨p,O,h1,h2,f⟩:=d.at_ hi;have hx:(s.af.map aW)[p.1]? = some (aW (s.af[p.1]'h1)):=r_
   have H:(s.af.map dP)[p.1]? = some (dP (s.af[p.1]'h1)):=r_
   have m:=f.lists;have v:=f.all;rw[H]at m;rw[<-W]at m v;obtain⟨M,J⟩:=AF F.cfg H hx h2 (by rw[d.dK.len];omega) m v;have hd:=f.aj;refine⟨_,by rw[hd];omega,?_,λl E=>aF (J l E) d_,?_⟩
   .rw[hd];have:n=⟨p.1,n.lists,n.all⟩:=by rw[<-hd]
    grind
   .by_cases D:n.aj+1=(s.af.map aW).length
    .omega
    .refine .inr λc A=>⟨d.dK.back i n hi o_ c A,?_⟩;obtain⟨q,I⟩:=f.lead o_ A;have u:c.child<st.nodes.length:=by rw[<-d.dK.len];grind
     refine⟨_,gE u,?_⟩;rw[(d.dK.rep _ _ _ (gE u) I).aj,hd]
  .obtain⟨i,hi,rfl⟩:=getElem_of_mem B;obtain⟨p,O,h1,h2,f⟩:=d.at_ (gE hi);obtain hx|hx:=mem_append.1 hx
   .obtain⟨k,l,j,L,U⟩:=Cr hx;obtain⟨lift,_,y⟩:=dE.left f.lists L;obtain⟨g,R,A⟩:=dE.left y U;exact AJ F (h2.group (mem_of_getElem? R)) A
   .rw[mem_singleton.1 hx];exact AJ F h2 f.all
def wV{s fs e}(b:cJ s)(f:iE s fs)(h:dv s fs 20000=some e):lu (s.af.map aW) s.aC.length e:=by
 have hk:=Ix b f h;have c:(s.af.map aW).length=s.af.length:=o_;refine⟨by rw[c];exact b.n1,by rw[c];exact b.n2,b.m1,b.m2,AX h,λx hx=> ?_,hk.small,by rw[c];exact hk.sb⟩;obtain⟨d,hd,rfl⟩:=mem_map.1 hx;obtain⟨i,hi,rfl⟩:=getElem_of_mem hd;rw[nI];exact aF (b.af i hi).n2 d_
abbrev pF(gs n c:Nat)(r st:Int):AV:=#[U (some ⟨gs,0,none⟩) n c,Z,I 0,I r,I st,.bool false]
def IH{w:World}{d gs n c:Nat}{r st:Int}{b:List ByteArray}(m:aa w d 170 (pF gs n c r st))(p:aa w gs 9 (b.map Value.string).toArray)(O:b.length=n)(L:n<=4096){i:Nat}{x:ByteArray}(hx:b[i]? = some x) :
 Calls prog 158 #[Y d 0,N i] w λe w'=>e = .returned (.tuple #[T x,I 0])/\∃f,aa w' d 170 (pF gs n c f st)/\aq (·=d) w w':=by
 have hi:=(aO hx).1;have y:=J (Dv.rP d _ n c _ 0 r _ w m o_ o_ i o_ o_);have g:gs≠d:=λe=>by
  subst e;have h1:=p.symm.trans m;grind
 have q:w.cell? ⟨gs,i,none⟩=some (.string x):=by rw[p.cell];simp[hx]
 obtain⟨u,C⟩:=Dv.aa.dL m;obtain⟨f,z⟩:=e_ (IntKind.i64.wrap (r+1));have s:Kp (aa (w.setCell (M d 3) _) d _ (pF _ n c f _)):=m.set 3 _;have v:Kp (aq (·=d) w (w.setCell (M d 3) (I f))):=.set _ _ _ rfl;have D:(w.setCell _ (I f)).cell? _=some (T x):=(bF (Below.heap_setCell w (M d 3) _ _ g)).trans q;have G:0<=(i:Int):=o_;have F:i<(n:Int):=o_;clear p m hx g;go_in;go_wp2_with fail;apply y.mono;rintro e w'⟨rfl,rfl⟩;go_upto_region 5 with fail;generalize w.setCell _ _=E at*;clear u C q;obtain⟨u,_⟩:=Dv.aa.dL s;go_wp2;go_loop [7] (λA=>A = I (-1)) (λ_=>0)
 case atStart=>rfl
 .obtain rfl:=hrel;go_wp2;go_ret2;exact⟨rfl,⟨f,s⟩,v⟩
end Tc
namespace Tc
open List Go.RowKit Base Go.Maps Go.WideMaps Go.Proofs.Tryz
def Gx(o:BinOp)(a b:Int):0<=bits o .u64 a b/\bits o .u64 a b<18446744073709551616:=by
 unfold bits;split<;>exact⟨by simp only[IntKind.wrap_u64];omega,by simp only[IntKind.wrap_u64];omega⟩
def QP{w:World}{gr gw i:Nat}{ws:List Int}(h:eM w gr gw ws)(hi:i<249):Calls prog 165 #[Y gr 0,N i] w λe w'=>e = .returned (.tuple #[])/\(∃ws',eM w' gr gw ws')/\aq (·=gw) w w':=by
 obtain⟨c0,c1,_,_⟩:=h.box.two;obtain⟨q,hq⟩:∃q:Nat,(i:Int) / 64=(q:Int):=⟨i / 64,o_⟩
 obtain⟨r,hr⟩:∃r:Nat,(i:Int) % 64=(r:Int):=⟨i % 64,o_⟩
 have hq4:q<4:=o_
 have hr64:(r:Int)<64:=o_
 obtain⟨x,hx,c2,hx0,hx1⟩:=h.word hq4;have f2:=h.words.free q;have q0:(0:Int)<=(q:Int):=o_
 have q1:(q:Int)<4:=o_
 have r0:(0:Int)<=(r:Int):=o_
 have r1:¬(r:Int)<0:=o_
 have HF:Kp (∀y:Int,0<=y/\y<18446744073709551616->(∃ws',eM (w.setCell (M gw q) (.int .u64 y)) gr gw ws')/\aq (·=gw) w (w.setCell (M gw q) (.int .u64 y))):=(λy hy=>by
  refine⟨⟨ws.set q y,⟨h.box.aJ (λe=>h.ne e) _,?_,by rw[length_set];exact h.len,λz hz=> ?_,h.ne⟩⟩,.set _ _ _ rfl⟩
  .have:=h.words.set q (.int .u64 y);rw[show(ws.map (Value.int .u64)).toArray.setIfInBounds q (.int .u64 y)=((ws.set q y).map (.int .u64)).toArray by rw[setIfInBounds_toArray,map_set]]at this;exact this
  .obtain hz|rfl:=mem_or_eq_of_mem_set hz
   .exact h.fits z hz
   .exact hy)
 clear h hi;go_in;go_wp2_with fail
 go_region
 all_goals
  go_wp2_with fail
  go_end0
  obtain⟨⟨ws',h1⟩,h2⟩:=HF (bits .xor .u64 x (IntKind.u64.wrap (2 ^ r))) (Gx _ _ _);exact⟨rfl,⟨ws',h1.1,h1.2,h1.3,h1.4,h1.5⟩,h2.drew⟩
def QQ:∀(args:AV)(w:World),(callFunc 165 args).run prog w = .ok (.enter 165 args) w:=by
 intro args w;simp[callFunc,func165,Tryz.f165,mark]
def Ps{w:World}{gr gw:Nat}{A:OA}{c:Nat}{l:LN}(h:eM w gr gw mu)(hr:Row w w.heap.size A (an l))(hfoot:∀k,cE A (an l) k->k≠gw)(ho:zx l)(hn:l.length<=249) :
 Calls prog 86 #[Y gr 0,U A l.length c] w λe w'=>e = .returned (I 0)/\(∃ws',eM w' gr gw ws')/\aq (·=gw) w w':=by
 have HC:=J (Ot (c:=c) h hr ho hn);have HE:=QQ;have Hh:=J h;have Hr:=J hr;have Ho:=J ho;have Hft:=J hfoot;generalize hN:l.length=n at*;have Hn:=J hN;clear h hr ho hN hfoot;go_in;go_wp2_with fail;apply HC.mono;rintro e w1⟨rfl,hb1⟩;have Hb1:=J hb1;clear hb1;go_wp2_with fail
 go_loopw [18] (λv18 wr=>∃k:Nat,k<=n/\v18 = N k/\(∃ws',eM wr gr gw ws')/\aq (·=gw) w wr) (λv18 wr=>n-(intOf v18).toNat)
 case atStart=>exact⟨0,av _,rfl,⟨_,Hh.under Hb1⟩,.below Hb1⟩
 .obtain⟨k,hk,rfl,⟨ws,hrm⟩,ht⟩:=hrel;have Ht:=J ht;have Hrm:=J hrm;clear ht hrm;by_cases hlt:k<n
  .have hkl:k<l.length:=by rw[Hn.o];exact hlt
   have hr':=fO Hr (λj hj=>Ht.block j (Row.bU Hr hj) (Hft j hj));obtain⟨b,off,rfl,hb,x0⟩:=Row.at_ hr' (k:=k) (by unfold an;rw[lM];exact hkl);have hx:(an l)[k]'(by unfold an;rw[lM];exact hkl) = I ((l[k]:Nat):Int):=by unfold an;rw[getElem_map]
   rw[hx]at x0;have HT:=J (QP Hrm (Ho.lt _ (gM hkl)));clear hx hr' hb;generalize l[k]=z at*;clear hkl;go_wp2_with fail;apply HT.mono;rintro e w'⟨rfl,hrm2,ht2⟩;have Hrm2:=J hrm2;have Ht2:=J ht2;clear hrm2 ht2;go_wp2_with fail;exact⟨⟨k+1,o_,by go_num,Hrm2,Ht.trans Ht2⟩,by simp[intOf];omega⟩
  .obtain rfl:k=n:=o_
   have Hws:Kp (∃ws',eM wr gr gw ws'):=⟨ws,Hrm⟩;go_wp2_with fail;go_ret;exact⟨rfl,Hws,Ht⟩
end Tc
namespace Tc
open List Go.RowKit Base Go.Proofs.Tryz
def Gq s A rows c af most w(h:cQ w w.heap.size s)(H:fT w w.heap.size A rows)(hd:af<=1000000)(hm:most<=1000000) :
 Calls prog 5 #[.agg (aG s),U A rows.length c,N af,N most] w (cy (λr=>r=true->iC s rows/\s.af.length<=af/\rows.length<=most) w):=by
 have q:=J (λr w' h u=>cy.mono (P:=λr=>r=true->iC s rows/\s.af.length<=af/\rows.length<=most) (w:=w) (r:=r) (w':=w') h u);have x:=h.n;have v:=H.n;have y:=(ah _ w).alloc (ae _) (.cells (aG s) 25);have G:=J (aa.new w 25 (aG s));have D:=J (λW(d:E w W)=>Oh s W ((h.below d).more d.size));have V:=J (λW(d:E w W)=>Ol A _ c W ((H.below d).more d.size));have M:=J (λW(d:E w W)=>Om s A _ c W ((h.below d).more d.size) ((H.below d).more d.size));have b:=J y;generalize cy (λr=>r=true->iC s _/\s.af.length<=af/\rows.length<=most) w=Q at*;unfold maxLen at x v;clear h H y;obtain⟨nd,u⟩:=e_ s.af.length;obtain⟨nr,z⟩:=e_ rows.length;unfold aG at G D M b⊢;rw[u]at G D M b x q⊢;rw[z]at V M v q⊢;clear u z;obtain⟨L,I,_,_⟩:=G.two;generalize O:w.alloc _=u at*;by_cases h1:nd<=af
 .have T:nd<=(af:Int):=o_;by_cases h2:nr<=most
  .have R:nr<=(most:Int):=o_;have Z:=J (D u b);go_in;go_wp2_with fail;apply Z.mono;clear O L I;rintro e y⟨z,rfl,_,F⟩;have p:=ay b F;have D:=bu G F;have G:=J (V y p);cases z with
   |false=>
    have g:=J (q false y (λh=>r_) p);go_wp2;exact g
   |true=>
    go_wp2_with fail;apply G.mono;rintro e y⟨z,rfl,_,C⟩;have f:=ay p C;have G:=bu D C;have V:=J (M y f);obtain⟨L,I,_,_⟩:=G.two;cases z with
    |false=>
     have g:=J (q false y (λh=>r_) f);go_wp2;exact g
    |true=>
     go_wp2_with fail;apply V.mono;rintro e D⟨z,rfl,B,X⟩;obtain⟨y,m⟩:=e_ ((z == 0));have g:=J (q y D (λh=>⟨B r_,h1,h2⟩) (f.trans (X.mono f.size)));clear B;go_wp2;exact g
  .have R:¬ nr<=(most:Int):=o_;have g:=J (q false u (λh=>r_) b);go_in;go_wp2;exact g
 .have T:¬ nd<=(af:Int):=o_;have g:=J (q false u (λh=>r_) b);go_in;go_wp2;exact g
end Tc
end Go.Proofs.YtibjlpkpljnicaaGreatDoor
