/- Parts of a proof. -/
import Derived.Test.YtjopcamkclndlaaGreatH003
import Derived.RangeFuncNested
import Derived.RangeFuncBound
import Derived.RangeFuncCalls
import Derived.RangeFuncLeaves
import Derived.RangeFuncBox
import Derived.Shelf.Abstract
import Derived.Shelf.RegionOpen
import Derived.OwnWalkIn
import Derived.TacticsInMore
import Derived.LoopNIn
import Derived.LoopIn
set_option linter.unusedVariables false
set_option linter.unusedSimpArgs false
set_option maxRecDepth 100000
set_option maxHeartbeats 8000000
namespace Go.Proofs.YtjopcamkclndlaaGreat.Tc
open List Go.RowKit Base
theorem gX {w:World} {B:Nat} {e:TypeId} {sz g n c:Nat} {xs:LV} (h:w.ownsRow B e sz (.slice (some ⟨g,0,none⟩) n c) n xs) {i:Nat} (hi:i<xs.length) (u:Value) :
 (w.setCell ⟨g,i,none⟩ u).ownsRow B e sz (.slice (some ⟨g,0,none⟩) n c) n (xs.set i u):=by
 obtain ⟨h1,h2⟩:=h;refine ⟨by rw [length_set];exact h1,?_⟩;rcases h2 with ⟨h2,_⟩ | ⟨g',cap,cur,hv,hB,hh,j7,fj,cE,ht⟩
 .cases h2
 .injection hv with hA _ hc
  injection hA with hA
  injection hA with hg _ _
  subst hg hc;refine .inr ⟨g,c,cur.setIfInBounds i u,rfl,hB,?_,j7,fj,by rw [Array.size_setIfInBounds];exact cE,?_⟩
  .simp [World.setCell,Array.getElem?_modify,hh]
  .rw [Array.toList_setIfInBounds,take_set,ht]
theorem a5B (P R:List Fa) (s f:Fa):(((((((((((((P++s::R).flatMap fG).set (P.length*11) (.slice f.A f.keys.length f.c)).set (P.length*11+1) (.int .i64 f.ag.c)).set (P.length*11+2) (.int .i64 f.ag.s0)).set (P.length*11+3) (.int .i64 f.ag.n0)).set (P.length*11+4) (.int .i64 f.ag.x0)).set (P.length*11+5) (.int .i64 f.ag.s1)).set (P.length*11+6) (.int .i64 f.ag.n1)).set (P.length*11+7) (.int .i64 f.ag.x1)).set (P.length*11+8) (.int .i64 f.ag.s2)).set (P.length*11+9) (.int .i64 f.ag.n2)).set (P.length*11+10) (.int .i64 f.ag.x2))=(P++f::R).flatMap fG:=by
 have hl:(P.flatMap fG).length=P.length*11:=kI xr P;rw [flatMap_append,flatMap_append,flatMap_cons,flatMap_cons,<-hl];generalize P.flatMap fG=X;generalize R.flatMap fG=Y;simp [fG,set_append_right]
abbrev mR (w:World) (g o:Nat) (f:Fa):World:=((((((((((w.setCell ⟨g,o,none⟩ (.slice f.A f.keys.length f.c)).setCell ⟨g,o+1,none⟩ (.int .i64 f.ag.c)).setCell ⟨g,o+2,none⟩ (.int .i64 f.ag.s0)).setCell ⟨g,o+3,none⟩ (.int .i64 f.ag.n0)).setCell ⟨g,o+4,none⟩ (.int .i64 f.ag.x0)).setCell ⟨g,o+5,none⟩ (.int .i64 f.ag.s1)).setCell ⟨g,o+6,none⟩ (.int .i64 f.ag.n1)).setCell ⟨g,o+7,none⟩ (.int .i64 f.ag.x1)).setCell ⟨g,o+8,none⟩ (.int .i64 f.ag.s2)).setCell ⟨g,o+9,none⟩ (.int .i64 f.ag.n2)).setCell ⟨g,o+10,none⟩ (.int .i64 f.ag.x2)
theorem ab1 {w:World} {B:Nat} {e:TypeId} {g n c:Nat} {P R:List Fa} {s:Fa} (h:w.ownsRow B e 11 (.slice (some ⟨g,0,none⟩) n c) n ((P++s::R).flatMap fG)) (f:Fa) :
 (mR w g (P.length*11) f).ownsRow B e 11 (.slice (some ⟨g,0,none⟩) n c) n ((P++f::R).flatMap fG):=by
 have hl:=kI xr (P++s::R);simp only [aS,length_cons] at hl;rw [<-a5B P R s f];refine gX (gX (gX (gX (gX (gX (gX (gX (gX (gX (gX h ?_ _) ?_ _) ?_ _) ?_ _) ?_ _) ?_ _) ?_ _) ?_ _) ?_ _) ?_ _) ?_ _
 all_goals ((try simp only [length_set]);omega)
theorem Zf {w:World} {g o k:Nat} {f:Fa} (hk:k≠g):(mR w g o f).heap[k]? = w.heap[k]? := by
 unfold mR
 repeat rw [Below.heap_setCell _ ⟨g,_,none⟩ _ k hk]
theorem a0n {B:Nat} {a w:World} {g o:Nat} (f:Fa) (h:Below B a w) (hg:B<=g):Below B a (mR w g o f) :=
 ((((((((((h.setCell (p:=⟨g,o,none⟩) hg _).setCell (p:=⟨g,o+1,none⟩) hg _).setCell (p:=⟨g,o+2,none⟩) hg _).setCell (p:=⟨g,o+3,none⟩) hg _).setCell (p:=⟨g,o+4,none⟩) hg _).setCell (p:=⟨g,o+5,none⟩) hg _).setCell (p:=⟨g,o+6,none⟩) hg _).setCell (p:=⟨g,o+7,none⟩) hg _).setCell (p:=⟨g,o+8,none⟩) hg _).setCell (p:=⟨g,o+9,none⟩) hg _).setCell (p:=⟨g,o+10,none⟩) hg _
theorem a8s (w:World) (g o:Nat) (f:Fa):(mR w g o f).heap.size=w.heap.size:=by unfold mR;simp
theorem a9C {w:World} {B:Nat} {A:OA} {vs:LV} {g o:Nat} {f:Fa} (h:Row w B A vs) (av:∀b off,A=some ⟨b,off,none⟩->vs≠[]->g≠b):Row (mR w g o f) B A vs:=by
 rcases h with h | ⟨b,off,e,hb,hc⟩
 .exact .inl h
 .by_cases h0:vs=[]
  .exact .inl h0
  .refine .inr ⟨b,off,e,hb,fun i v hv => ?_⟩;have:=hc i v hv;rw [<-this];exact cZ (a:=⟨b,off+i,none⟩) (Zf (fun hh=>av b off e h0 hh.symm))
theorem dx.mR {w:World} {g o n c:Nat} {f f':Fa} (h:dx w (.slice (some ⟨g,0,none⟩) n c) f):dx (mR w g o f') (.slice (some ⟨g,0,none⟩) n c) f:=by
 refine ⟨?_,h.2⟩;rw [a8s];exact a9C h.1 (fun b off e av hh=>h.2 b off e av (by rw [hh];rfl))
theorem cT.set {w:World} {B g n c:Nat} {P R:List Fa} {s f:Fa} (h:cT w B (.slice (some ⟨g,0,none⟩) n c) (P++s::R)) (hf:dx w (.slice (some ⟨g,0,none⟩) n c) f) :
 cT (Tc.mR w g (P.length*11) f) B (.slice (some ⟨g,0,none⟩) n c) (P++f::R):=by
 obtain ⟨h1,h2⟩:=h;obtain ⟨A',c',e⟩:=eM h1;have hn:n=(P++s::R).length:=by injection e
 have hl:(P++f::R).length=(P++s::R).length:=by simp
 refine ⟨?_,fun x hx => ?_⟩
 .rw [hl];rw [<-hn] at h1 ⊢;exact ab1 h1 f
 .rcases mem_append.1 hx with hx | hx
  .exact (h2 x (mem_append_left _ hx)).mR
  .rcases mem_cons.1 hx with rfl | hx
   .exact hf.mR
   .exact (h2 x (mem_append_right _ (mem_cons_of_mem _ hx))).mR
theorem cT.addr {w:World} {B n c:Nat} {A:OA} {l:List Fa} (h:cT w B (.slice A n c) l) (sU:0<l.length):∃g,A=some ⟨g,0,none⟩/\B<=g/\g<w.heap.size:=by
 rcases h.1.2 with ⟨_,h0⟩ | ⟨g,cap,cur,hv,hB,hh,_⟩
 .omega
 .injection hv with hA _ _
  refine ⟨g,hA,hB,?_⟩;rcases Nat.lt_or_ge g w.heap.size with h1 | h1
  .exact h1
  .rw [Array.getElem?_eq_none h1] at hh;cases hh
theorem cT.cells {w:World} {B g n c:Nat} {l:List Fa} (h:cT w B (.slice (some ⟨g,0,none⟩) n c) l) (k:Nat) (hk:k<l.length):w.cell? ⟨g,k*11,none⟩=some (.slice l[k].A l[k].keys.length l[k].c)/\w.cell? ⟨g,k*11+1,none⟩=some (.int .i64 l[k].ag.c)/\w.cell? ⟨g,k*11+2,none⟩=some (.int .i64 l[k].ag.s0)/\w.cell? ⟨g,k*11+3,none⟩=some (.int .i64 l[k].ag.n0)/\w.cell? ⟨g,k*11+4,none⟩=some (.int .i64 l[k].ag.x0)/\w.cell? ⟨g,k*11+5,none⟩=some (.int .i64 l[k].ag.s1)/\w.cell? ⟨g,k*11+6,none⟩=some (.int .i64 l[k].ag.n1)/\w.cell? ⟨g,k*11+7,none⟩=some (.int .i64 l[k].ag.x1)/\w.cell? ⟨g,k*11+8,none⟩=some (.int .i64 l[k].ag.s2)/\w.cell? ⟨g,k*11+9,none⟩=some (.int .i64 l[k].ag.n2)/\w.cell? ⟨g,k*11+10,none⟩=some (.int .i64 l[k].ag.x2):=by
 obtain ⟨b,off,e,hb,hc⟩:=h.uM.cells k hk;injection e with e
 injection e with e1 e2 _
 subst e1 e2;simp only [Nat.zero_add] at hc;exact hc
theorem cT.Iw {w:World} {B g n c:Nat} {l:List Fa} (h:cT w B (.slice (some ⟨g,0,none⟩) n c) l) (k:Nat):w.frozen? ⟨g,k*11,none⟩=false/\w.frozen? ⟨g,k*11+1,none⟩=false/\w.frozen? ⟨g,k*11+2,none⟩=false/\w.frozen? ⟨g,k*11+3,none⟩=false/\w.frozen? ⟨g,k*11+4,none⟩=false/\w.frozen? ⟨g,k*11+5,none⟩=false/\w.frozen? ⟨g,k*11+6,none⟩=false/\w.frozen? ⟨g,k*11+7,none⟩=false/\w.frozen? ⟨g,k*11+8,none⟩=false/\w.frozen? ⟨g,k*11+9,none⟩=false/\w.frozen? ⟨g,k*11+10,none⟩=false:=by
 rcases h.1.2 with ⟨h0,_⟩ | ⟨g',cap,cur,hv,hB,hh,_⟩
 .cases h0
 .injection hv with hA _ _
  injection hA with hA
  injection hA with hg _ _
  subst hg;have hf:∀i,w.frozen? ⟨g,i,none⟩=false:=fun i=>by simp [World.frozen?,hh]
  exact ⟨hf _,hf _,hf _,hf _,hf _,hf _,hf _,hf _,hf _,hf _,hf _⟩
theorem cT.mN {w:World} {B g n c:Nat} {P R:List Fa} {s:Fa} (h:cT w B (.slice (some ⟨g,0,none⟩) n c) (P++s::R)):cF w g (P.length*11) s:=by
 have:=h.cells P.length (by simp);rw [getElem_append_right (ah _)] at this;simpa using this
theorem xy:∀a b:LN,bP b a = - bP a b
 | [],[]=>rfl
 | [],_::_=>rfl
 | _::_,[]=>rfl
 | a::x,b::y=>by
  rw [bP,bP,xy x y];by_cases h1:a<b
  .have:¬b<a:=by omega
   simp [h1,this]
  .by_cases h2:b<a<;>simp [h1,h2]
theorem AU:∀a:LN,bP a a=0
 | []=>rfl
 | a::x=>by rw [bP,AU x];simp
theorem Fm:∀ {a b:LN},bP a b=0->a=b
 | [],[],_=>rfl
 | [],_::_,h=>by cases h
 | _::_,[],h=>by cases h
 | a::x,b::y,h=>by
  rw [bP] at h;by_cases h1:a<b
  .simp [h1] at h
  .by_cases h2:b<a
   .simp [h1,h2] at h
   .simp [h1,h2] at h;rw [Fm h];have:a=b:=by omega
    rw [this]
theorem Fw:∀ {a b c:LN},bP a b<=0->bP b c<=0->bP a c<=0
 | [],[],_,_,h=>h
 | [],_::_,[],_,_=>by simp [bP]
 | [],_::_,_::_,_,_=>by simp [bP]
 | _::_,[],_,h,_=>by simp [bP] at h
 | _::_,_::_,[],_,h=>by simp [bP] at h
 | a::x,b::y,c::z,h1,h2=>by
  rw [bP] at h1 h2 ⊢;by_cases e1:a<b
  .by_cases e2:b<c
   .have:a<c:=by omega
    simp [this]
   .by_cases e3:c<b
    .simp [e2,e3] at h2
    .have:a<c:=by omega
     simp [this]
  .by_cases e4:b<a
   .simp [e1,e4] at h1
   .have e5:a=b:=by omega
    subst e5;simp at h1;by_cases e2:a<c
    .simp [e2]
    .by_cases e3:c<a
     .simp [e2,e3] at h2
     .simp [e2,e3] at h2 ⊢;exact Fw h1 h2
def gU (l:List Fa):Prop:=l.Pairwise fun a b=>bP a.keys b.keys<=0
theorem a8B {P S:List Fa} {f:Fa} (h:gU (P++S)) (hS:∀x∈S,0<bP x.keys f.keys) (hP:P=[]\/∃P' p,P=P'++[p]/\bP p.keys f.keys<=0):gU (P++f::S):=by
 unfold gU at *;rw [pairwise_append] at h ⊢;obtain ⟨h1,h2,h3⟩:=h;have hSf:∀x∈S,bP f.keys x.keys<=0:=fun x hx=>by
  have:=hS x hx;rw [xy x.keys f.keys];omega
 have hPf:∀x∈P,bP x.keys f.keys<=0:=by
  rcases hP with rfl | ⟨P',p,rfl,hp⟩
  .simp
  .intro x hx;rcases mem_append.1 hx with hx | hx
   .rw [pairwise_append] at h1;exact Fw (h1.2.2 x hx p (by simp)) hp
   .rw [mem_singleton.1 hx];exact hp
 refine ⟨h1,pairwise_cons.2 ⟨hSf,h2⟩,fun a ha b hb => ?_⟩;rcases mem_cons.1 hb with rfl | hb
 .exact hPf a ha
 .exact h3 a ha b hb
theorem aal (P S Z:List Fa) (f:Fa):(P++f::(S++Z)).Perm (P++S++f::Z):=by
 rw [append_assoc];exact List.Perm.append_left P perm_middle.symm
def Fp (ps:List (LN×Ag)) (w:World) (e:Ending) (w':World):Prop:=∃ (v:Value) (l:List Fa),e = .returned v/\(l.map pl).Perm ps/\gU l/\cT w' w.heap.size v l/\jK w.heap.size l/\Below w.heap.size w w'
theorem a6c (A:OA) (l:List Fa) (c:Nat) (w:World) (hn:l.length<=1000000) (hk:∀f∈l,f.keys.length<=1000000) (hr:dG w w.heap.size A l) :
 Calls Tryz.prog 107 #[.slice A l.length c] w (Fp (l.map pl) w):=by
 have gQ:=kp (show ∀v l' w',(l'.map pl).Perm (l.map pl)->gU l'->cT w' w.heap.size v l'->jK w.heap.size l'->Below w.heap.size w w'->Fp (l.map pl) w (.returned v) w' from fun v l' w' h1 h2 h3 h4 hb=>⟨v,l',rfl,h1,h2,h3,h4,hb⟩);have HC:=kp (EJ A l c w hn hk hr);have Bv:=kp M1;have Hk:=kp hk;clear hr hk;generalize hQ:Fp (l.map pl) w=Q at *;clear hQ;obtain ⟨n,hN⟩:∃n,l.length=n:=⟨_,rfl⟩
 rw [hN] at hn HC ⊢;have Hn:=kp hN;clear hN;go_enter Tryz.func107,Tryz.ntmps107;go_wp2_with fail;refine HC.o.mono ?_;rintro e w1 ⟨v,l1,rfl,Ss,j8,a1u,ax⟩;have ac8:=kp a1u;clear a1u;obtain ⟨A1,c1,rfl⟩:=j8.form;have iT:l1.length=n:=by rw [<-Hn.o,<-lM (f:=pl),Ss,lM]
 rw [iT] at j8 ⊢;have a1v:=kp (show ∀l':List Fa,l'.Perm l1->(l'.map pl).Perm (l.map pl) from fun l' h=>by rw [<-Ss];exact h.map pl);have Bw:=kp iT;have fI:=kp j8;have aM:=kp ax
 have Nv:=kp (show ∀l':List Fa,l'.Perm l1->∀f∈l',f.keys.length<=1000000 from fun l' hp f hf=>by
  obtain ⟨f',gZ,e⟩:=mem_map.1 ((a1v.o l' hp).mem_iff.1 (mem_map_of_mem (f:=pl) hf));have e2:f'.keys=f.keys:=congrArg Prod.fst e;rw [<-e2]
  exact Hk.o f' gZ)
 clear Ss iT j8 ax HC;go_wp2_with fail
 go_loopw [4] (fun v4 wr=>∃ (i:Nat) (l':List Fa),v4 = .int .i64 i/\1<=i/\(i<=n\/i=1)/\l'.length=n/\l'.Perm l1/\gU (l'.take i)/\cT wr w.heap.size (.slice A1 n c1) l'/\Below w.heap.size w wr) (fun v4 _=>n-(intOf v4).toNat)
 case atStart =>
  refine ⟨1,l1,rfl,ah _,.inr rfl,Bw.o,List.Perm.refl _,?_,fI.o,aM.o⟩;rcases l1 with _ | ⟨a,l1⟩
  .exact List.Pairwise.nil
  .exact pairwise_singleton _ _
 case round =>
  obtain ⟨i,l',rfl,df,lh,dR,JG,a1w,aE,aC⟩:=hrel;have jO:=kp dR;have Dm:=kp JG;have a1x:=kp a1w;have bF:=kp aE;have ai:=kp aC;clear dR JG a1w aE aC;by_cases ae:i<n
  .have lv:i<l'.length:=by rw [jO.o];exact ae
   obtain ⟨g,rfl,Dn,qi⟩:=bF.o.addr (by omega);obtain ⟨c0,c1,c2,c3,c4,c5,c6,c7,c8,c9,iw⟩:=bF.o.cells i lv;have qf:=Nv.o l' Dm.o _ (gM lv);have yb:=kp (bF.o.2 _ (gM lv));obtain ⟨X,Z,hX,JH,hXt⟩:∃X Z,l'=X++(l'[i]'lv)::Z/\X.length=i/\l'.take i=X:=⟨l'.take i,l'.drop (i+1),by rw [<-drop_eq_getElem_cons lv,take_append_drop],by rw [length_take];omega,rfl⟩
   have HX:=kp hX;have FY:=kp JH;have HXs:=kp (show gU X by rw [<-hXt];exact a1x.o);generalize (l'[i]'lv)=f at *;clear hX JH hXt;have cS:=(aq wr.heap.size wr).alloc (ah _) (.cells #[.slice f.A f.keys.length f.c,.int .i64 f.ag.c,.int .i64 f.ag.s0,.int .i64 f.ag.n0,.int .i64 f.ag.x0,.int .i64 f.ag.s1,.int .i64 f.ag.n1,.int .i64 f.ag.x1,.int .i64 f.ag.s2,.int .i64 f.ag.n2,.int .i64 f.ag.x2] 56);have iH:=kp (aa.new wr 56 #[.slice f.A f.keys.length f.c,.int .i64 f.ag.c,.int .i64 f.ag.s0,.int .i64 f.ag.n0,.int .i64 f.ag.x0,.int .i64 f.ag.s1,.int .i64 f.ag.n1,.int .i64 f.ag.x1,.int .i64 f.ag.s2,.int .i64 f.ag.n2,.int .i64 f.ag.x2]);have aF:=aR ai cS;have fK:=kp (bF.o.below cS);have ac9:=kp (yb.o.below cS);clear cS yb;have dz:(0:Int)<=(i:Int):=by omega
   have df:(i:Int)<(n:Int):=by omega
   have zp:=kp (show g≠wr.heap.size by omega);go_upto_region 6 with fail
   clear c0 c1 c2 c3 c4 c5 c6 c7 c8 c9 iw;generalize sS:wr.heap.size=gF at *;clear sS;generalize wr.alloc (.cells #[.slice f.A f.keys.length f.c,.int .i64 f.ag.c,.int .i64 f.ag.s0,.int .i64 f.ag.n0,.int .i64 f.ag.x0,.int .i64 f.ag.s1,.int .i64 f.ag.n1,.int .i64 f.ag.x1,.int .i64 f.ag.s2,.int .i64 f.ag.n2,.int .i64 f.ag.x2] 56)=W2 at *;go_wp2_with fail
   go_loopw [6] (fun v6 wr=>∃ (P S:List Fa) (st:Fa),v6 = .int .i64 P.length/\X=P++S/\cT wr w.heap.size (.slice (some ⟨g,0,none⟩) n c1) (P++st::(S++Z))/\(∀x∈S,0<bP x.keys f.keys)/\aa wr gF 56 #[.slice f.A f.keys.length f.c,.int .i64 f.ag.c,.int .i64 f.ag.s0,.int .i64 f.ag.n0,.int .i64 f.ag.x0,.int .i64 f.ag.s1,.int .i64 f.ag.n1,.int .i64 f.ag.x1,.int .i64 f.ag.s2,.int .i64 f.ag.n2,.int .i64 f.ag.x2]/\dx wr (.slice (some ⟨g,0,none⟩) n c1) f/\Below w.heap.size w wr) (fun v6 _=>(intOf v6).toNat)
   case atStart=>exact ⟨X,[],f,by rw [FY.o],by simp,by rw [nil_append,<-HX.o];exact fK.o,by simp,iH.o,ac9.o,aF.o⟩
   case round =>
    obtain ⟨P,S,st,rfl,hXX,a1y,hS,Nw,vh,a1z⟩:=hrel;have FZ:=kp hXX;have sV:=kp a1y;have HS:=kp hS;have Nx:=kp Nw;have Ny:=kp vh;have JI:=kp a1z;have Su:=kp (show (P++st::(S++Z)).length=n by rw [<-jO.o,HX.o,FZ.o];simp;omega);have dD:=aa.sH Nw;clear hXX a1y hS Nw vh a1z
    have Nz:=kp (show (P=[]\/∃P' p,P=P'++[p]/\bP p.keys f.keys<=0)->∀wx,cT wx w.heap.size (.slice (some ⟨g,0,none⟩) n c1) (P++st::(S++Z))->dx wx (.slice (some ⟨g,0,none⟩) n c1) f->Below w.heap.size w wx->∃ (i':Nat) (l2:List Fa),Value.int .i64 ((i:Int)+1) = .int .i64 i'/\1<=i'/\(i'<=n\/i'=1)/\l2.length=n/\l2.Perm l1/\gU (l2.take i')/\cT (mR wx g (P.length*11) f) w.heap.size (.slice (some ⟨g,0,none⟩) n c1) l2/\Below w.heap.size w (mR wx g (P.length*11) f) from fun hP wx ho hf hb=>by
     have mg:=(aal P S Z f)
     refine ⟨i+1,P++f::(S++Z),by simp,by omega,.inl (by omega),?_,?_,?_,ho.set hf,a0n f hb Dn⟩
     .rw [<-Su.o];simp
     .refine mg.trans ?_;rw [<-FZ.o,<-HX.o];exact Dm.o
     .have e:(P++f::(S++Z)).take (i+1)=P++f::S:=by
       have aX:(P++f::S).length=i+1:=by rw [<-FY.o,FZ.o];simp;omega
       rw [<-aX,show P++f::(S++Z)=(P++f::S)++Z by simp,take_left]
      rw [e]
      exact a8B (by rw [<-FZ.o];exact HXs.o) HS.o hP)
    by_cases G0:P=[]
    .have uf:decide (0<P.length)=false:=by rw [G0];rfl
     have Ht:=kp (Nz.o (.inl G0));have NA:(P.length:Int)<(n:Int):=by have:=Su.o;simp at this;omega
     clear G0 Nz;have rD:=cT.mN (w:=wr.drew) sV.o;have zD:=cT.Iw (w:=wr.drew) sV.o P.length;have jN:=kp (show cT wr.drew w.heap.size (.slice (some ⟨g,0,none⟩) n c1) (P++st::(S++Z)) from sV.o);generalize P.length=q at *;go_wp2_with fail;refine wp_region_noPanic ?_;refine dt (t:=99) (S:=(fun w'=>kF w' gF f)) (by kernel_rfl) dD (fun ad => ?_);refine mX 0 1 2 ad ?_;refine sk 3 ad ?_;refine sk 4 ad ?_;refine sk 5 ad ?_;refine sk 6 ad ?_;refine sk 7 ad ?_;refine sk 8 ad ?_;refine sk 9 ad ?_;refine sk 10 ad ?_;refine tk 11 ad ?_;refine dY (by kernel_rfl) ?_ _
     try clear ad
     refine NoPanic.normal ?_;have Hf:=kp (Ht.o wr.drew jN.o Ny.o JI.o.drew);have dD:=aa.sH (show aa wr.drew gF _ _ from Nx.o);generalize wr.drew=wx at *;go_wp2_with fail;exact ⟨Hf.o,by first | (simp [intOf];done) | (simp [intOf];omega)⟩
    .obtain ⟨P',p,rfl⟩:∃P' p,P=P'++[p]:=⟨P.dropLast,P.getLast G0,(dropLast_concat_getLast G0).symm⟩
     have mg:p∈(P'++[p])++st::(S++Z):=by simp
     have cM:p.keys.length<=1000000:=Nv.o l' Dm.o p (by rw [HX.o,FZ.o];simp);have Dp:=(sV.o.2 p mg).1;have ee:=kp (show Calls Tryz.prog 64 #[.agg (eB p),.agg (eB f)] wr.drew _ from Bv.o p f wr.drew cM qf Dp Ny.o.1)
     have NC:=kp (show 0<bP p.keys f.keys->∀wx,cT wx w.heap.size (.slice (some ⟨g,0,none⟩) n c1) ((P'++[p])++st::(S++Z))->dx wx (.slice (some ⟨g,0,none⟩) n c1) p->dx wx (.slice (some ⟨g,0,none⟩) n c1) f->aa wx gF 56 #[.slice f.A f.keys.length f.c,.int .i64 f.ag.c,.int .i64 f.ag.s0,.int .i64 f.ag.n0,.int .i64 f.ag.x0,.int .i64 f.ag.s1,.int .i64 f.ag.n1,.int .i64 f.ag.x1,.int .i64 f.ag.s2,.int .i64 f.ag.n2,.int .i64 f.ag.x2]->g≠gF->Below w.heap.size w wx->∃ (P2 S2:List Fa) (G1:Fa),Value.int .i64 (P'.length:Int) = .int .i64 P2.length/\X=P2++S2/\cT (mR wx g ((P'++[p]).length*11) p) w.heap.size (.slice (some ⟨g,0,none⟩) n c1) (P2++G1::(S2++Z))/\(∀x∈S2,0<bP x.keys f.keys)/\aa (mR wx g ((P'++[p]).length*11) p) gF 56 #[.slice f.A f.keys.length f.c,.int .i64 f.ag.c,.int .i64 f.ag.s0,.int .i64 f.ag.n0,.int .i64 f.ag.x0,.int .i64 f.ag.s1,.int .i64 f.ag.n1,.int .i64 f.ag.x1,.int .i64 f.ag.s2,.int .i64 f.ag.n2,.int .i64 f.ag.x2]/\dx (mR wx g ((P'++[p]).length*11) p) (.slice (some ⟨g,0,none⟩) n c1) f/\Below w.heap.size w (mR wx g ((P'++[p]).length*11) p) from fun hc wx ho hp hf aJ av hb=>by
      refine ⟨P',p::S,p,rfl,by rw [FZ.o];simp,?_,?_,(Zf (fun hh=>av hh.symm)).trans aJ,hf.mR,a0n p hb Dn⟩
      .have:=ho.set hp;simpa using this
      .intro x hx;rcases mem_cons.1 hx with rfl | hx
       .exact hc
       .exact HS.o x hx)
     have Ht:=kp (fun iE=>Nz.o (.inr ⟨P',p,rfl,iE⟩));have aX:(P'++[p]).length=P'.length+1:=by simp
     have NA:(P'.length:Int)+1<(n:Int):=by have:=Su.o;simp at this;omega
     have pD:=cT.mN (P:=P') (s:=p) (R:=st::(S++Z)) (w:=wr.drew) (by have:=sV.o;rw [append_assoc] at this;exact this);have a1A:=kp (show cT wr.drew w.heap.size (.slice (some ⟨g,0,none⟩) n c1) ((P'++[p])++st::(S++Z)) from sV.o);have Hpa:=kp (sV.o.2 p mg);clear G0 Nz mg cM Dp;rw [aX] at NC Ht ⊢;have pU:g<wr.heap.size:=(sV.o.addr (by simp;omega)).elim (fun g' h=>by obtain ⟨e,_,h3⟩:=h;injection e with e;injection e with e1;omega);have Dq:gF<wr.heap.size:=Nx.o.lt;have a1B:=kp aX;clear aX;have sR:IntKind.i64.wrap (P'.length:Int)=(P'.length:Int):=IntWalk.i64_in _ (by omega);have uf:(0:Int)<=(P'.length:Int):=by omega
     have sQ:(P'.length:Int)<(n:Int):=by omega
     by_cases hV:0<bP p.keys f.keys
     .have ND:decide (0<bP p.keys f.keys)=true:=decide_eq_true hV;have Dr:=kp (NC.o hV);clear hV NC Ht;generalize bP p.keys f.keys=V at *;generalize nE:P'.length=q at *;have HqH:=kp nE;clear nE;go_wp2_with fail;refine wp_region_noPanic ?_;refine dt (t:=99) (S:=(fun w'=>(cF w' g (q*11) p)/\(kF w' gF f))) (by kernel_rfl) ⟨pD,dD⟩ (fun ad => ?_);refine tD 0 1 2 3 ad ?_;refine tD 4 5 6 7 ad ?_;refine tk 8 ad ?_;refine oT 9 fun K hK=>?_
      go_simp
      refine ee.o.mono ?_;rintro e wc ⟨rfl,nF⟩;have gg:=kp nF;clear nF;refine oK hK ?_ fun af=>?_
      .have e1:∀i,wc.cell? ⟨g,i,none⟩=wr.drew.cell? ⟨g,i,none⟩:=fun i=>cZ (a:=⟨g,i,none⟩) (by rw [gg.o];exact (Below.heap_alloc _ _ _ (by simp;omega)).trans (Below.heap_alloc _ _ _ pU))
       have e2:∀i,wc.cell? ⟨gF,i,none⟩=wr.drew.cell? ⟨gF,i,none⟩:=fun i=>cZ (a:=⟨gF,i,none⟩) (by rw [gg.o];exact (Below.heap_alloc _ _ _ (by simp;omega)).trans (Below.heap_alloc _ _ _ Dq))
       (try dsimp only [cA,oQ]);(try dsimp only [cF,kF]);(try dsimp only [cC,nV,cN,jU]);simp only [e1,e2];exact ⟨pD,dD⟩
      replace ad:=af;clear hK K af;refine tB 10 11 ad ?_;refine dY (by kernel_rfl) ?_ _
      try clear ad
      refine NoPanic.normal ?_;have cU:=(show Below wr.drew.heap.size wr.drew wc by rw [gg.o];exact ((aq _ _).alloc (ah _) _).alloc (by simp) _)
      have ou:=kp (a1A.o.below cU);have a1C:=kp (dx.below (w:=wr.drew) Hpa.o cU);have Sv:=kp (dx.below (w:=wr.drew) Ny.o cU);have wD:=kp (aa.under (w:=wr.drew) Nx.o cU);have iI:=kp (JI.o.drew.trans (cU.mono JI.o.size));clear cU dD pD;have dD:=aa.sH wD.o;have wu:=ou.o.mN;have zi:=ou.o.Iw (q+1);rw [a1B.o] at wu;have rD:=wu;have zD:=zi;have mh:=cT.mN (P:=P') (s:=p) (R:=st::(S++Z)) (w:=wc) (by have:=ou.o;rw [append_assoc] at this;exact this);rw [HqH.o] at mh;have pD:=mh;have Hf:=kp (Dr.o wc ou.o a1C.o Sv.o wD.o zp.o iI.o);go_wp2_with fail;exact ⟨Hf.o,by first | (simp [intOf];done) | (simp [intOf];omega)⟩
     .have ND:decide (0<bP p.keys f.keys)=false:=decide_eq_false hV;have Dr:=kp (Ht.o (by omega));clear hV NC Ht;generalize bP p.keys f.keys=V at *;generalize nE:P'.length=q at *;have HqH:=kp nE;clear nE;go_wp2_with fail;refine wp_region_noPanic ?_;refine dt (t:=99) (S:=(fun w'=>(cF w' g (q*11) p)/\(kF w' gF f))) (by kernel_rfl) ⟨pD,dD⟩ (fun ad => ?_);refine tD 0 1 2 3 ad ?_;refine tD 4 5 6 7 ad ?_;refine tk 8 ad ?_;refine oT 9 fun K hK=>?_
      go_simp
      refine ee.o.mono ?_;rintro e wc ⟨rfl,nF⟩;have gg:=kp nF;clear nF;refine oK hK ?_ fun af=>?_
      .have e1:∀i,wc.cell? ⟨g,i,none⟩=wr.drew.cell? ⟨g,i,none⟩:=fun i=>cZ (a:=⟨g,i,none⟩) (by rw [gg.o];exact (Below.heap_alloc _ _ _ (by simp;omega)).trans (Below.heap_alloc _ _ _ pU))
       have e2:∀i,wc.cell? ⟨gF,i,none⟩=wr.drew.cell? ⟨gF,i,none⟩:=fun i=>cZ (a:=⟨gF,i,none⟩) (by rw [gg.o];exact (Below.heap_alloc _ _ _ (by simp;omega)).trans (Below.heap_alloc _ _ _ Dq))
       (try dsimp only [cA,oQ]);(try dsimp only [cF,kF]);(try dsimp only [cC,nV,cN,jU]);simp only [e1,e2];exact ⟨pD,dD⟩
      replace ad:=af;clear hK K af;refine tB 10 11 ad ?_;refine dY (by kernel_rfl) ?_ _
      try clear ad
      refine NoPanic.normal ?_;have cU:=(show Below wr.drew.heap.size wr.drew wc by rw [gg.o];exact ((aq _ _).alloc (ah _) _).alloc (by simp) _)
      have ou:=kp (a1A.o.below cU);have a1C:=kp (dx.below (w:=wr.drew) Hpa.o cU);have Sv:=kp (dx.below (w:=wr.drew) Ny.o cU);have wD:=kp (aa.under (w:=wr.drew) Nx.o cU);have iI:=kp (JI.o.drew.trans (cU.mono JI.o.size));clear cU dD pD;have dD:=aa.sH wD.o;have wu:=ou.o.mN;have zi:=ou.o.Iw (q+1);rw [a1B.o] at wu;have rD:=wu;have zD:=zi;have Hf:=kp (Dr.o wc ou.o Sv.o iI.o);go_wp2_with fail;exact ⟨Hf.o,by first | (simp [intOf];done) | (simp [intOf];omega)⟩
  .have bN:=kp (show gU l' by have:=a1x.o;rw [take_of_length_le (by rw [jO.o];omega)] at this;exact this);go_wp2_with fail;exact gQ.o _ l' _ (a1v.o l' Dm.o) bN.o bF.o (fun f hf=>ac8.o f (Dm.o.mem_iff.1 hf)) ai.o
section
attribute [local go_sem] Oper.semAt_some
def lV (b1 b2:Nat) (W W':World):Prop:=W'.heap[b1]? = W.heap[b1]? /\ W'.heap[b2]? = W.heap[b2]?
theorem lV.trans {b1 b2:Nat} {A B C:World} (h:lV b1 b2 A B) (k:lV b1 b2 B C):lV b1 b2 A C:=⟨k.1.trans h.1,k.2.trans h.2⟩
theorem Qp {b1 b2:Nat} {w:World} (h1:b1<w.heap.size) (h2:b2<w.heap.size) (W:World) (l:Nat) (o o':Obj) (hl:w.heap.size<=l) (h:W.heap[l]? = some o) (_:o.isCells=false) (_:o.isWalk=false):lV b1 b2 W (W.putObj l o') :=
 ⟨World.putObj_heap_other (by omega),World.putObj_heap_other (by omega)⟩
abbrev Part (n size:Nat):={ i:Nat // i*size<n }
def j5 (b off e n size i:Nat):Value := .slice (some ⟨b,off+i*size*e,none⟩) (min size (n-i*size)) (min size (n-i*size))
theorem aay (nn:Nat) (hn:1<=nn) (bs bn b off n cap size:Nat) (dv:1<=size) (iJ:size<=1000000) (eZ:n<=1000000) (j7:n<=cap) (fj:cap<=9223372036854775807) (w:World) (vm:bs<w.heap.size) (ov:bn<w.heap.size)
 (A:OA) (hA:n=0\/A=some ⟨b,off,none⟩) (cE:w.cell? ⟨bs,0,none⟩=some (.slice A n cap)) (rX:w.cell? ⟨bn,0,none⟩=some (.int .i64 size)) :
 SeqStopsK Fence.wide nn Tryz.prog 167 #[.pointer (some ⟨bs,0,none⟩),.pointer (some ⟨bn,0,none⟩)] (fun x:Part n size=>#[j5 b off 11 n size x.1]) (lV bs bn) (fun xs=>xs.map (·.1)=range xs.length/\n<=xs.length*size) (fun _=>True) (n+1) w:=by
 intro l J Jx W hW Bx _ hY h0;have JJ:=kp Bx;have HY:=kp hY;clear Bx hY;have JK:=(hW.cell (p:=⟨bs,0,none⟩) vm).trans cE;have wE:=(hW.cell (p:=⟨bn,0,none⟩) ov).trans rX;refine callsIn_of_wp Tryz.func167 rfl trivial ?_ rfl;simp only [Tryz.ntmps167,size_toArray,length_cons,length_nil,Nat.reduceAdd,Nat.reduceSub,Array.replicate_succ,Array.replicate_zero,push_toArray,append_toArray,nil_append,cons_append]
 gi_wp2
 gi_loopw [4] (fun i wr=>∃ (k q:Nat) (pre:List (Part n size)),q=k*size/\pre.length=k/\pre.map (·.1)=range k/\k<=n/\i = .int .i64 (q:Int)/\q<=n+size/\J pre wr/\lV bs bn W wr)
  (fun i _=>n+size-(intOf i).toNat)
 case atStart=>exact ⟨0,0,[],by simp,rfl,rfl,aZ _,rfl,aZ _,h0,rfl,rfl⟩
 case round =>
  obtain ⟨k,q,pre,hq,cM,mg,hk,rfl,NA,By,lF⟩:=hrel;have c1:wr.cell? ⟨bs,0,none⟩=some (.slice A n cap):=(cZ (a:=⟨bs,0,none⟩) lF.1).trans JK;have c2:wr.cell? ⟨bn,0,none⟩=some (.int .i64 size):=(cZ (a:=⟨bn,0,none⟩) lF.2).trans wE;have Hq:=kp hq;have fJ:=kp cM;have mi:=kp mg;have yc:=kp lF;have HJ:=kp By;clear hq cM mg lF By;by_cases ae:q<n
  .obtain rfl:A=some ⟨b,off,none⟩:=hA.resolve_left (by omega);obtain ⟨r,hr⟩:∃r,n-q=r:=⟨_,rfl⟩
   have hcq:¬cap=q:=by omega
   have eC:1<=r:=by omega
   have hqr:q+r=n:=by omega
   have fL:k*size<n:=by rw [<-Hq.o];exact ae
   have JL:=kp (JJ.o pre wr wr.drew none HJ.o ⟨rfl,rfl,rfl,ah _,fun _ _ _=>rfl⟩ (fun r e=>by cases e));have jP:k<=n:=hk;have jQ:=kp (HY.o pre ⟨k,fL⟩ wr.drew JL.o (by rw [fJ.o];omega));have a1D:k+1<=n:=by
    have h1:k*1<=k*size:=Nat.mul_le_mul_left k dv;omega
   by_cases hm:r<size
   .have hx:j5 b off 11 n size k = .slice (some ⟨b,off+q*11,none⟩) r r:=by
     unfold j5;rw [<-Hq.o,hr,Nat.min_eq_right (by omega)]
    have kP:=jQ.o;dsimp only at kP;rw [hx] at kP;obtain ⟨fn,tmps,assign,body,hy,hR⟩:=kP;have HR:=kp hR;clear hx jQ hR;have zr:IntKind.i64.wrap ((q:Int)+(r:Int))=(q:Int)+(r:Int):=IntWalk.i64_in _ (by omega);have iE:(r:Int)<=(r:Int):=by omega
    gi_wp2
    gi_region
    gi_wp2
    refine HR.o.mono ?_;rintro e W3 (⟨rfl,qj,nG⟩ | ⟨rfl,ql⟩)
    .have wF:=kp qj;have qn:=kp (yc.o.trans (show lV bs bn wr W3 from nG));have d2:W3.cell? ⟨bn,0,none⟩=some (.int .i64 size):=(cZ (a:=⟨bn,0,none⟩) qn.o.2).trans wE;clear qj nG c1 c2
     gi_wp2
     go_roundw
     case rel=>exact ⟨k+1,q+size,pre++[⟨k,fL⟩],by rw [Nat.add_mul,Nat.one_mul,<-Hq.o],by rw [aS,fJ.o];rfl,by rw [map_append,mi.o,range_succ];rfl,by omega,by simp,by omega,wF.o,qn.o⟩
     case measure=>simp [intOf];omega
    .have wG:=kp ql;clear ql
     gi_wp2
     refine bodyPost_ret (results_none rfl _ _ _) rfl ?_;exact ⟨⟨_,rfl⟩,.inr ⟨_,trivial,wG.o⟩⟩
   .have hx:j5 b off 11 n size k = .slice (some ⟨b,off+q*11,none⟩) size size:=by
     unfold j5;rw [<-Hq.o,hr,Nat.min_eq_left (by omega)]
    have kP:=jQ.o;dsimp only at kP;rw [hx] at kP;obtain ⟨fn,tmps,assign,body,hy,hR⟩:=kP;have HR:=kp hR;clear hx jQ hR;have zr:IntKind.i64.wrap ((q:Int)+(size:Int))=(q:Int)+(size:Int):=IntWalk.i64_in _ (by omega);have iE:(size:Int)<=(r:Int):=by omega
    gi_wp2
    gi_region
    gi_wp2
    refine HR.o.mono ?_;rintro e W3 (⟨rfl,qj,nG⟩ | ⟨rfl,ql⟩)
    .have wF:=kp qj;have qn:=kp (yc.o.trans (show lV bs bn wr W3 from nG));have d2:W3.cell? ⟨bn,0,none⟩=some (.int .i64 size):=(cZ (a:=⟨bn,0,none⟩) qn.o.2).trans wE;clear qj nG c1 c2
     gi_wp2
     go_roundw
     case rel=>exact ⟨k+1,q+size,pre++[⟨k,fL⟩],by rw [Nat.add_mul,Nat.one_mul,<-Hq.o],by rw [aS,fJ.o];rfl,by rw [map_append,mi.o,range_succ];rfl,by omega,by simp,by omega,wF.o,qn.o⟩
     case measure=>simp [intOf];omega
    .have wG:=kp ql;clear ql
     gi_wp2
     refine bodyPost_ret (results_none rfl _ _ _) rfl ?_;exact ⟨⟨_,rfl⟩,.inr ⟨_,trivial,wG.o⟩⟩
  .have Hl:=kp (show n<=pre.length*size by rw [fJ.o,<-Hq.o];omega)
   gi_wp2
   go_end0
   exact ⟨⟨_,rfl⟩,.inl ⟨pre,⟨by rw [mi.o,fJ.o],Hl.o⟩,HJ.o⟩⟩
theorem ab9 (A:OA) (n c size:Nat) (dv:1<=size) (w:World):Calls Tryz.prog 142 #[.slice A n c,.int .i64 size] w fun e w'=>e = .returned (.func (.func 167) #[] #[.pointer (some ⟨w.heap.size,0,none⟩),.pointer (some ⟨w.heap.size+1,0,none⟩)])/\w'=(w.alloc (.cells #[.slice A n c] 30)).alloc (.cells #[.int .i64 size] 3):=by
 have h1:¬ ((size:Nat):Int)<1:=by omega
 go_enter Tryz.func142,Tryz.ntmps142;go_wp2_with fail;go_ret;exact ⟨rfl,rfl⟩
structure Rn where
 A:OA
 fs:List Fa
 c:Nat
def kH (r:Rn):Value := .slice r.A r.fs.length r.c
def ir (A:OA) (l:List Fa) (b:Nat):Prop:=(∃off,A=some ⟨b,off,none⟩/\l≠[])\/∃f∈l,∃off,f.A=some ⟨b,off,none⟩/\aP f.keys≠[]
theorem yJ {w w':World} {B:Nat} {A:OA} {vs:LV} (h:Row w B A vs) (hs:∀b off,A=some ⟨b,off,none⟩->vs≠[]->w'.heap[b]? = w.heap[b]?):Row w' B A vs:=by
 rcases h with h | ⟨b,off,e,hb,hc⟩
 .exact .inl h
 .by_cases h0:vs=[]
  .exact .inl h0
  .exact .inr ⟨b,off,e,hb,fun i v hv=>(cZ (a:=⟨b,off+i,none⟩) (hs b off e h0)).trans (hc i v hv)⟩
theorem a6w {l:List Fa} (h:l.flatMap fG≠[]):l≠[]:=by rintro rfl;exact h rfl
theorem dG.same {w w':World} {B:Nat} {A:OA} {l:List Fa} (h:dG w B A l) (hs:∀b,ir A l b->w'.heap[b]? = w.heap[b]?):dG w' B A l :=
 ⟨yJ h.row fun b off e av=>hs b (.inl ⟨off,e,a6w av⟩),fun f hf=>yJ (h.keys f hf) fun b off e av=>hs b (.inr ⟨f,hf,off,e,av⟩)⟩
theorem dG.cW {w:World} {B:Nat} {A:OA} {l:List Fa} (h:dG w B A l) {b:Nat} (hf:ir A l b):b<B:=by
 rcases hf with ⟨off,e,av⟩ | ⟨f,hf,off,e,av⟩
 .rcases h.row with h0 | ⟨b',jy,e',hb,_⟩
  .have:=kI xr l;rw [h0] at this;rcases l with _ | ⟨a,l⟩
   .exact absurd rfl av
   .simp at this
  .rw [e] at e';injection e' with e';injection e' with e1;omega
 .rcases h.keys f hf with h0 | ⟨b',jy,e',hb,_⟩
  .exact absurd h0 av
  .rw [e] at e';injection e' with e';injection e' with e1;omega
def l9 (w:World) (v:Value) (r:Rn):Prop:=dG w w.heap.size r.A r.fs/\∀b,ir r.A r.fs b->v.ownBlock≠some b
theorem l9.app {wr w':World} {v v':Value} {r:Rn} (h:l9 wr v r) (ha:App wr w' v v'):l9 w' v' r:=by
 refine ⟨(h.1.same fun b hb=>ha.de (h.1.cW hb) (h.2 b hb)).more ha.grown.size,fun b hb => ?_⟩;rcases ha.qH with hl | ⟨k,hl,hk⟩
 .rw [hl];exact h.2 b hb
 .rw [hl];intro hh;injection hh with hh
  have:=h.1.cW hb;omega
theorem l9.below {w w':World} {v:Value} {r:Rn} (h:l9 w v r) (hb:Below w.heap.size w w'):l9 w' v r:=⟨(h.1.below hb).more hb.size,h.2⟩
theorem l9.new {w:World} {B n c:Nat} {A:OA} {l:List Fa} {v:Value} (h:cT w B (.slice A n c) l) (hk:jK B l) (hv:∀k,v.ownBlock=some k->k<B):l9 w v ⟨A,l,c⟩:=by
 refine ⟨h.uM,fun b hb hh => ?_⟩;have h1:=hv b hh;rcases hb with ⟨off,e,av⟩ | ⟨f,hf,off,e,av⟩
 .dsimp only at e;subst e;have:=(h.1.lt b rfl).1;omega
 .have:=hk f hf b off e av;omega
theorem dG.sub {w:World} {B b off:Nat} {l:List Fa} (h:dG w B (some ⟨b,off,none⟩) l) (i e:Nat):dG w B (some ⟨b,off+i*11,none⟩) ((l.drop i).take e):=by
 refine ⟨?_,fun f hf=>h.keys f (mem_of_mem_drop (mem_of_mem_take hf))⟩;rcases h.row with h0 | ⟨b',jy,e',hb,hc⟩
 .have hl:l=[]:=by
   have:=kI xr l;rw [h0] at this;rcases l with _ | ⟨a,l⟩
   .rfl
   .simp at this
  subst hl;exact .inl (by simp)
 .injection e' with e'
  injection e' with e1 e2 _
  subst e1 e2;refine .inr ⟨b,off+i*11,rfl,hb,fun j v hv => ?_⟩;obtain ⟨hj,hg⟩:=a09 xr (by omega) hv;rw [length_take,length_drop] at hj;rw [getElem_take,getElem_drop] at hg;have:=hc ((i+j / 11)*11+j % 11) v (by rw [MG xr l (i+j / 11) (by omega) (j % 11) (Nat.mod_lt _ (by omega))];exact hg);have e3:off+((i+j / 11)*11+j % 11)=off+i*11+j:=by
   have:=Nat.div_add_mod j 11;omega
  rw [e3] at this;exact this
end
end Go.Proofs.YtjopcamkclndlaaGreat.Tc
