/- Parts. -/
import Derived.Test.YtibjlpkpljnicaaGreatDoorR40
import Derived.Test.YtibjlpkpljnicaaGreatDoorR45
set_option maxRecDepth 100000
set_option maxHeartbeats 8000000
set_option linter.all false
namespace Go.Proofs.YtibjlpkpljnicaaGreatDoor
namespace Tc
open List Go.RowKit Base Crc Go.Proofs.Tryz
section
variable{s:aN}{rows:List Rw}{fs ys:List Fa}{ns:List aQ}{qs:List Pk}
def eO.tab(h:eO s rows fs):∃ps,jk s rows ps/\(∀x∈ps,kO s x.1/\GA s.aC.length 1 x.2)/\ps.length=rows.length/\ev ps (aw fs):=by
 obtain⟨ps,h1,h2,_,c,d⟩:=h.of;have b:=yG h.ok.ja;refine⟨_,h1,h2,?_,b,d,λx hx=> ?_⟩
 .obtain⟨l,e,rfl⟩:=h1;rw[kH];exact e.1
 .rw[<-c];exact ux b hx
def eO.dw(h:eO s rows fs)(d:rows.length<=40):il s.aC.length fs:=by
 obtain⟨ps,_,_,e,c⟩:=h.tab;refine⟨?_,λx hx=> ?_⟩
 .have:=uy c;rw[kH]at this;omega
 .obtain⟨f,b,rfl⟩:=mem_map.1 hx;exact⟨(h.ok.ag f b).1,(h.ok.ag f b).2⟩
def xX(h:eO s rows fs)(d:dv s fs 20000=some ns)(p:ys.map Fa.keys=s.af.map aW){i:Nat}{n:aQ}(D:ns[i]? = some n){f:Nat->Nat}(z:∀i,f i<=1048576) :
 (∃hd:n.aj<ys.length,im (decide (n.aj+1=ys.length)) (ys[n.aj]'hd).keys s.aC.length (cH (decide (n.aj+1=s.af.length)) f n)) /\
 (n.aj+1=s.af.length\/∀c∈cR n,c.child<i)/\(n.lists.length<=4/\∀l∈n.lists,l.length<=1000)/\∀x∈cR (cH (decide (n.aj+1=s.af.length)) f n),x.child<=1048576/\cB x.ag:=by
 obtain⟨r,e⟩:=wW h.bO h.ok d (b:=131072) d_ d_;obtain⟨x,h1,h2,F,C⟩:=r.each i n D;rw[<-p]at h1;obtain⟨hd,hx⟩:=aO h1;rw[lM]at hd;have A:(ys[n.aj]'hd).keys=x:=r_
 have B:(s.af.map aW).length=ys.length:=r_
 have u:s.af.length=ys.length:=r_
 rw[B]at h2 C;rw[u];have G:=(h2.move λi=>aF (z i) d_);refine⟨⟨hd,r_⟩,C.imp id λh c d=>(h c d).1,⟨h2.n4,F⟩,λc d=> ?_⟩;have e:=e n (mem_of_getElem? D);unfold cH at d;by_cases g:n.aj+1=ys.length
 .rw[if_pos (decide_eq_true g)]at d;refine⟨?_,e c d⟩;have hk:kj true s.aC.length c:=by
   rw[decide_eq_true g]at h2;obtain d|d:=mem_append.1 d
   .obtain⟨l,m,d⟩:=mem_flatten.1 d;obtain⟨k,hk⟩:=getElem?_of_mem m;have v:k<x.length:=by rw[<-h2.ls];grind
    exact(h2.each k l _ hk (gE v)).cell c d
   .rw[mem_singleton.1 d];exact h2.all
  unfold kj at hk;grind
 .rw[if_neg o_]at d;obtain d|d:=mem_append.1 d
  .obtain⟨l,m,d⟩:=mem_flatten.1 d;obtain⟨H,q,rfl⟩:=mem_map.1 m;obtain⟨y,E,rfl⟩:=mem_map.1 d;exact⟨z _,e y (mem_append_left _ (mem_flatten.2 ⟨H,q,E⟩))⟩
  .rw[mem_singleton.1 d];exact⟨z _,e n.all (mem_append_right _ mem_cons_self)⟩
def eO.state(h:eO s rows fs)(d:dv s fs 20000=some ns):∃st,st.nodes=ns/\(fs≠[]->fR s fs st/\st.parts[ns.length-1]? = some (0,aT fs λ_=>true)/\0<ns.length)/\(fs=[]->ns=[]):=by
 by_cases b:fs=[]
 .subst b;exact⟨⟨_,[]⟩,rfl,λh=>absurd rfl h,λ_=>wX d⟩
 .obtain⟨st,rfl,c⟩:=wY h.bO b d;exact⟨_,rfl,λ_=>⟨c,by rw[pY];exact c.top,c.pos⟩,λe=>absurd e b⟩
def Gm(h:eO s rows fs)(hn:rows.length<=40)(hc:dv s fs 20000=some ns)(hq:iT s qs)(hys:ys.map Fa.keys=s.af.map aW){st:St}(hst:st.nodes=ns)(hs:fs≠[]->fR s fs st/\st.parts[ns.length-1]? = some (0,aT fs λ_=>true)/\0<ns.length)(h0:fs=[]->ns=[])
 {S:LN}{b:ByteArray}(hw:eJ s.af.length s.aC.length 49200 ns ns.length=some (S,b)){c:dd}(ok:c.Ok)(hb:c.b=bl b)(ht:c.rt=(iu S:Nat))(gs cx:Nat)(Ax:OA) :
 jg (iq (fi c Ax ys) 48 (.agg #[Y c.gp 0,U Ax ys.length cx,I s.aC.length]) gs c.top) gs ys s qs fs st s.aC.length c.top (dV S):=by
 have wo:=zi _ o_ _ hw;obtain⟨_,hb9,hS9⟩:=uH _ o_ _ hw;dsimp only at wo hb9 hS9;have hSb:∀i,dV S i<=1048576:=AM λx hx=>aF (hS9 x hx) d_
 have hl2:s.af.length=ys.length:=by rw[<-lM,<-hys,lM]
 have hbl:c.b.length=b.size:=o_
 have htop:fs≠[]->c.top=(dV S (ns.length-1):Nat):=λhne=>by
  have h3:=(hs o_).2.2;have hSl:ns.length-1<S.length:=r_
  have hx:=wo.lt _ (gM hSl);unfold dd.top;rw[if_pos o_,ht];have:iu S=dV S (ns.length-1):=by
   unfold iu dV;grind
  omega
 refine⟨?_,hys,h.bO.m1,h.bO.m2,?_,λht'=> ?_,h.bO,h.ok,h.dw hn,hq,λid' n hn'=> ?_⟩
 .rw[hst,hl2];refine MS ok rfl λi n hi=> ?_
  obtain⟨⟨hd,hpn⟩,hbk,⟨hsm1,hsm2⟩,hcell⟩:=xX h hc hys hi hSb;rw[hl2]at hpn hbk hcell;obtain⟨x,r,hx,hdr⟩:=wo.at_ i n (aO hi).1 hi;have hx':S.getD i 0=x:=r_
  rw[hx',hb];unfold jG at hdr;rw[hl2,L8 hbk,CP]at hdr;have hdim:(ph ys.length S n).aj=n.aj:=Cu;have hlen:=congrArg length hdr;rw[length_drop,aE,aE]at hlen;have hbl2:(bl b).length=b.size:=rfl;refine⟨⟨r,r_⟩,λw hi=>⟨hi,by rw[<-hl2];exact h.bO.n2,h.bO.m1,h.bO.m2,⟨by rw[hdim];exact hd,?_⟩,hcell,?_⟩,o_,by rw[<-hl2];exact h.bO.n2,o_,⟨?_,xQ hsm2⟩,?_⟩
  .grind
  .grind
  .show(cH _ _ n).lists.length<=4;unfold cH;grind
  .rw[hdim];by_cases hla:n.aj+1=ys.length
   .omega
   .exact .inr (I9 wo.ja hx hbk o_)
 .by_cases hne:fs=[]
  .have hn0:=h0 hne;have hw0:=hw;rw[hn0]at hw0;injection hw0 with hw0
   injection hw0 with _ hw1
   left
   unfold dd.top;rw[if_neg (by rw[hbl,<-hw1];decide)];decide
  grind
 .grind
 .rw[hst]at hn';exact(xX h hc hys hn' hSb).1
end
def Nx:rL.Perm ub:=List.Perm.cons _ (List.Perm.swap _ _ _)
def Ny:mg rL:=by
 unfold mg;refine List.Pairwise.cons (λx hx=> ?_) (List.Pairwise.cons (λx hx=> ?_) (List.Pairwise.cons (λx hx=>r_) List.Pairwise.nil))
 .obtain rfl|hx:=mem_cons.1 hx
  . trivial
  .obtain rfl|hx:=mem_cons.1 hx
   . trivial
   .grind
 .obtain rfl|hx:=mem_cons.1 hx
  . trivial
  .grind
def Dr B:∀x∈ub,kO (ed B) x.1/\GA (ed B).aC.length 1 x.2:=by
 refine(E8 (Dq B) (λr b x hx=> ?_) (ud B) λx hx=> ?_).2
 .unfold fit;obtain rfl|b:=mem_cons.1 b
  .grind
  grind
 .have c:∀v:Int,-5<=v->v<=5->ky (lH v):=λv h1 h2=>⟨(show 1<=1000000000 by decide),λi hi=>by
   obtain _|_|_|i:=i
   .exact⟨show -1000000000000<=v by omega,show v<=1000000000000 by omega⟩
   .exact⟨show(-1000000000000)<=0 by decide,show 0<=1000000000000 by decide⟩
   .exact⟨show(-1000000000000)<=0 by decide,show 0<=1000000000000 by decide⟩
   .omega⟩
  obtain rfl|hx:=mem_cons.1 hx
  .grind
  grind
def yr:List Fa:=rL.map λx=>⟨none,x.1,0,x.2⟩
def Nu B:eO (ed B) (ka B) yr:=
 BN (qf B) (ud B) (by decide) (Dr B) Nx Ny Nv rfl
def NC B:∃c S b,dv (ed B) yr 20000=some c/\eJ (ed B).af.length (ed B).aC.length 49200 c c.length=some (S,b):=by
 obtain⟨r,d⟩:∃r,((dv (ed B) yr 20000).bind λc=>eJ (ed B).af.length (ed B).aC.length 49200 c c.length)=some r:=Option.isSome_iff_exists.1 k_;obtain⟨c,h1,h2⟩:=Option.bind_eq_some_iff.1 d;grind
def NA:bW (λ_=>true) ub=some ⟨3,4,-4,5,0,0,0,0,0,0⟩:=k_
def wk(I:World->(Nat->Prop)->Prop)(A:OA)(ys:List Fa)(w:World)(F:Nat->Prop):Prop:=∃b,I w b/\cG w w.heap.size A ys/\(∀k,cz A ys k->¬b k)/\F=λk=>b k\/cz A ys k
def mh.zf{I:World->(Nat->Prop)->Prop}{gs x top r pl}(h:mh I gs top x r pl) A ys:mh (wk I A ys) gs top x r pl:=by
 refine⟨λw F d k hk=> ?_,λw w' F d v u=> ?_,λw F d=> ?_,λw F i n d hi=> ?_⟩
 .obtain⟨b,h1,h2,f,rfl⟩:=d;exact hk.elim (h.lt w b h1 k) (h2.bU ·)
 .obtain⟨b,h1,h2,f,rfl⟩:=d;exact⟨b,h.same w _ b h1 v λk hk=>u k (.inl hk),(h2.same λk hk=>u k (.inr hk)).more v,f,rfl⟩
 .obtain⟨b,h1,_⟩:=d;exact h.top w b h1
 .obtain⟨b,h1,h2,f,rfl⟩:=d;apply(h.node w b i n h1 hi).mono;rintro e w'⟨nd,s,rfl,y,C,p,z,B,m⟩;have c:∀k,cz A _ k->k<w.heap.size:=λk hk=>h2.bU hk;refine⟨_,λk=>s k\/cz A _ k,rfl,y,C,λk hk=>⟨(p k hk).1,λq=>q.elim (p k hk).2 λq=>r_⟩,z,⟨s,B,(h2.same λk hk=>m.still (c k hk) (f k hk)).more m.ax.size,λk hk=>m.off (c k hk) (f k hk),rfl⟩,⟨m.ax.more λk hk=> .inl hk,λk hk=> ?_⟩⟩;obtain hk|hk:=hk
  .obtain g|g:=m.sub k hk
   .exact .inl (.inl g)
   .exact .inr g
  .exact .inl (.inr hk)
def jg.zf{I:World->(Nat->Prop)->Prop}{gs ys b s c fs st m top pl}(a:jg I gs ys s c fs st m top pl) A(d:b.map Fa.keys=s.af.map aW):jg (wk I A b) gs b s c fs st m top pl:=by
 have e:=d.trans a.zj.symm;have g:b.length=ys.length:=by have:=congrArg length e;grind
 refine⟨a.src.zf A b,d,a.m1,a.m3,a.nY,a.none_,a.bO,a.fact,a.dw,a.q,λid n f=> ?_⟩;obtain⟨hd,h⟩:=a.node _ n f;have hk:(b[n.aj]'o_).keys=(ys[n.aj]'hd).keys:=by
  have:=congrArg (λl=>l[n.aj]?) e;simp only[getElem?_map,gE hd,gE (show n.aj<b.length by omega)]at this;grind
 grind
def JO:(prog.info? 58).map (λi=>(i.zero,i.size,i.bytes))=some (some (.agg #[I 0,I 0,T ByteArray.empty,T ByteArray.empty,Z,.bool false,I 0]),7,88):=k_
def wi(w:World)(e:Ending)(w':World):Prop:=∃(A:OA)(c:Nat),e = .returned (.agg #[U A 2 c])/\fH w' w'.heap.size A (replicate 2 jl)/\(∀k,cE A ((replicate 2 jl).flatMap oG) k->w.heap.size<=k)/\E w w'
def QM s w(hd:s.af.length=2):Calls prog 29 #[.agg (aG s)] w (wi w):=by
 have g:=(ah _ w).alloc (ae _) (.cells (aG s) 25);have q:=J (aa.new w 25 (aG s));obtain⟨m,z⟩:=e_ (w.alloc (.cells (aG s) 25));rw[z]at g q;have B:=g.alloc g.size (.cells #[Z] 29);have d:=J (aa.new m 29 #[Z]);have r:=J (q.alloc (.cells #[Z] 29));obtain⟨x,F⟩:=e_ (m.alloc (.cells #[.slice none 0 0] 29));rw[F]at B d r;have C:=J B;have L:=J g.size;have R:Kp (∀A c w',fH _ _ A _->(∀k,cE A _ k->w.heap.size<=k)->E w _->wi w _ w'):=λA c w' h1 h2 u=>⟨A,c,rfl,h1,h2,u⟩;generalize wi w=Q at*;unfold aG at q r z⊢;rw[hd]at q r z⊢;clear g B hd;obtain⟨Y,G,H,N,O⟩:=info_parts JO;obtain⟨s0,_,_,_⟩:=r.two;go_in;go_wp2_with(at_make;refine wpList_make_full _ rfl _ _ _ rfl _ 58 Y _ 7 underlying27 G H N _ _ 2 2 2 rfl rfl rfl rfl o_ d_ (ae _) ?_;intro D f y;have b:=J f;have n:Kp (E x D):=bR.grown y o_ (λk hk=>r_);clear f y s0;have u:=(aa.one (d.under n)).1;have u:=(d.under n).free 0);have V:=d.lt;have y:=L.o;have u:=fN (w':=D.setCell _ (U (some ⟨x.heap.size,0,none⟩) 2 2)) b (λo z=>Below.heap_setCell D (M m.heap.size 0) _ o (by have:=(b.lt o z).1;grind));rw[show(madeCells _ _).toList=(replicate 2 jl).flatMap oG from k_]at u;have z:=R _ 2 _ ⟨dF u,λp X=>by
  rw[eq_of_mem_replicate X];exact⟨.inl rfl,av _⟩⟩ (λk⟨_,_,e⟩=>r_) ((C.trans (n.mono o_)).setCell y _)
 have W:=(aa.one (show aa (D.setCell (M _ 0) (U (some ⟨x.heap.size,0,none⟩) 2 2)) _ _ _ from(d.under n).set 0 _)).1;exact bodyPost_ret (by simp[results,go_sem,W]) rfl z
end Tc
end Go.Proofs.YtibjlpkpljnicaaGreatDoor
