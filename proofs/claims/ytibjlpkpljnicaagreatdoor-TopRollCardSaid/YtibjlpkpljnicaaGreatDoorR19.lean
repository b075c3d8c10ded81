/- Parts. -/
import Derived.Test.YtibjlpkpljnicaaGreatDoorR07
import Derived.Test.YtibjlpkpljnicaaGreatDoorR12
import Derived.Test.YtibjlpkpljnicaaGreatDoorR18
set_option maxRecDepth 100000
set_option maxHeartbeats 8000000
set_option linter.all false
namespace Go.Proofs.YtibjlpkpljnicaaGreatDoor
namespace Tc
open List Go.RowKit Base Go.Proofs.Tryz
section
attribute [local go_sem] Oper.semAt_some
def BI:(prog.info? 34).map (λi=>(i.zero,i.size,i.bytes))=some (some (Z),1,24):=k_
structure iU(w:World)(B:Nat)(A:OA)(l:List Rn):Prop where
 row:Row w B A (l.map fy)
 each:∀r∈l,bM w B r.A r.fs
def eQ(l:List Fa)(size i:Nat):List Fa:=(l.drop (i*size)).take size
def aw(l:List Fa):List (LN×Ag):=l.map pl
def qL(w:World)(B:Nat)(v:Value)(rs:List Rn):Prop:=w.ownsRow B 34 1 v rs.length (rs.map fy)/\∀r∈rs,fJ w v r
def qL.at_{w B n c A rs}(h:qL w B (U A n c) rs):iU w w.heap.size A rs:=by
 obtain⟨f,d,e⟩:=bY h.1;cases e;exact⟨dF h.1,λr b=>(h.2 r b).1⟩
def FE(l:List Fa)(size:Nat)(w:World)(e:Ending)(w':World):Prop:=∃(A:OA)(c:Nat)(rs:List Rn),e = .returned (.tuple #[U A rs.length c,I 0])/\qL w' w.heap.size (U A rs.length c) rs/\rs.map (λr=>aw r.fs)=(range rs.length).map (λi=>aw (eQ l size i))/\l.length<=rs.length*size/\(∀i,i<rs.length->i*size<l.length)/\E w w'
def zm(l:List Fa)(size n0 B c:Nat)(d:World)(pre:List (Part l.length size))(W:World):Prop:=
 (∃(v:Value)(rs:List Rn),Boxed W B 236 v/\W.ownsRow c 34 1 v rs.length (rs.map fy)/\(∀r∈rs,fJ W v r/\∀b,cz r.A r.fs b->c<=b)/\rs.map (λr=>aw r.fs)=pre.map (λx=>aw (eQ l size x.1))/\c<=W.heap.size)/\Below n0 d W
def o3{w B n c A l}(h:bj w B (U A n c) l)(hk:eC B l){b}(m:cz A l b):B<=b:=by
 obtain⟨off,e,d⟩|⟨f,g,off,e,d⟩:=m
 .subst e;exact(h.1.lt b rfl).1
 .exact hk f g b _ e d
def oJ{w w' B A c row}(h:Row w B A c)(f:w.grownBy w' row)(m:∀r,row=some r->∃o:Obj,w.heap[r]? = some o/\o.isCells=false):Row w' B A c:=by
 obtain h|⟨b,off,e,n,g⟩:=h
 .exact .inl h
 .exact .inr ⟨b,_,e,n,λi v d=>cell_kept (g i v d) f m⟩
def Iy l size n0 B E D s(C:n0<=s.heap.size)(z:n0<=D):OwnFrom D (zm l size n0 B E s):=by
 refine OwnFrom.and (Own.from (λpre W F row A c m=> ?_) _) (ownFrom_below C z);obtain⟨v,rs,h1,h2,e,u,y⟩:=A;refine⟨v,_,h1.kept c (λn=> ?_),h2.kept c ?_,λr b=>⟨⟨?_,(e r b).1.2⟩,(e r b).2⟩,u,aF y c.size⟩
 .obtain⟨o,d,q⟩:=m B n.symm;rw[h1]at d;cases d;cases q
 .obtain⟨rfl,_⟩|⟨g,cap,cur,rfl,_,p,_⟩:=h2.2
  .exact .inl rfl
  .refine .inr λn=> ?_;obtain⟨o,d,q⟩:=m g (by simpa[Value.ownBlock]using n.symm);rw[p]at d;cases d;cases q
 .exact bM.more ⟨oJ (e r b).1.1.row c m,λf x=>oJ ((e r b).1.1.keys f x) c m⟩ c.size
def Iz A l(c size:Nat) w(hsz:1<=size)(hs2:size<=1000000)(hn:l.length<=1000000)(hlc:l.length<=c)(hcm:c<=9223372036854775807)(hk:∀f∈l,f.keys.length<=1000000)(hr:bM w w.heap.size A l) :
 Calls prog 198 #[I size,U A l.length c] w (FE l size w):=by
 have HCh:=J Ia;have Hr:=J hr;have h1':¬(size:Int)<1:=o_
 obtain⟨i0,ti0,tz0,tz1,tz2⟩:=info_parts BI;apply(callsIn_wide (n:=9)).1;refine callsIn_of_wp_marks func198 rfl trivial ?_ rfl;simp only[ntmps198,size_toArray,length_cons,length_nil,Array.replicate_succ,Array.replicate_zero,push_toArray,append_toArray,nil_append,cons_append]
 gi_wp2_with (refine⟨trivial,?_⟩;gi_at_call 264;apply(callsIn_wide.2 (HCh A _ c _ o_ _)).mono;rintro e w'⟨rfl,rfl⟩)
 obtain⟨b,off,hA⟩:∃b off,l.length=0\/A=some ⟨b,off,none⟩:=by
  obtain h0|⟨b,off,e,_⟩:=Hr.row
  .refine⟨0,0,.inl ?_⟩;have:=iX kC l;grind
  grind
 obtain⟨W0,hW0⟩:=e_ (((w.alloc (.cells #[.slice none 0 0] 236)).alloc (.cells #[.slice A l.length c] 34)).alloc (.cells #[.int .i64 size] 3))
 have hs0:W0.heap.size=w.heap.size+3:=by rw[<-hW0];simp
 have hBW:E w W0:=by rw[<-hW0];exact((bR.alloc o_ _).alloc s_ _).alloc o_ _
 have hB0:Boxed W0 w.heap.size 236 Z:=by rw[<-hW0];exact((Boxed.new w _ _).alloc _).alloc _
 have hB1:aa W0 (w.heap.size+1) 34 #[U A l.length c]:=by
  rw[<-hW0];exact aa.alloc (aa.lay s_) _
 have hB2:aa W0 (w.heap.size+1+1) 3 #[I size]:=by
  rw[<-hW0];exact aa.lay s_
 rw[hW0];refine wpIn_rangeFunc_ownF rfl o_ rfl trivial (enters_of func301 k_ rfl)
  (Ib 8 o_ _ _ b _ _ c _ o_ o_ hn o_ o_ _ o_ o_ A hA hB1.one.1 hB2.one.1) (λh k=>h.trans k) (BX o_ o_) bR (λ_=>rfl)
  _ (λ_ _ _=>False) (Iy l _ _ _ (w.heap.size+3) _ w o_ o_) (λ_ _ _ _ _ hs _ _=>hs)
  ⟨⟨Z,[],hB0,cK _ _ _ _,(λr hr=>r_),rfl,o_⟩,hBW⟩
  (λx=>{ tmps:=#[I size,U A l.length c,undef,undef,Z,I 0,Y w.heap.size 0,iy b off 11 l.length size x.1,I size,.bool false,U A l.length c,I size,.func (.func 301) #[] #[Y (w.heap.size+1) 0,Y (w.heap.size+1+1) 0],iy b off 11 l.length size x.1,undef,undef,undef,undef,undef,undef],defers:=[] }) ?assign ?body ?done ?stop
 case assign=>
  intro lp x W K hK
  gi_wp2
  omega
 .rintro lp pre x W⟨⟨v,rs,hbx,hown,(Hap:Kp _),(Hpl:Kp _),hD0⟩,hbe⟩ hlen;obtain⟨i,hi⟩:=x;have hpos:l.length≠0:=o_
  obtain rfl:=hA.resolve_left o_;have hfs:=((Hr.below hbe).more hbe.size).sub (i*size) size;have hpt:iy b off 11 l.length size i = U (some ⟨b,off+i*size*11,none⟩) (eQ l size i).length (eQ l size i).length:=by
   unfold iy eQ;simp
  have HCk:=J (λW'(hb:E W _)=>(J pH) _ (eQ l _ i) (eQ l size i).length W' (by unfold eQ;grind) (λf hf=>(J hk) f (mem_of_mem_drop (mem_of_mem_take hf))) ((hfs.below hb).more hb.size));have Hbe:=J hbe;obtain⟨Av,cv,rfl⟩:=bY hown;have c0:=hbx.cell;have f0:=hbx.frozen;dsimp only;rw[hpt];clear hbe hfs hpt hW0;have hltB:=(J hbx).lt
  gi_wp2
  refine Fo (t:=5) (S:=(λw'=>C w' _ 0 (U _ _ _)/\w'.frozen? (M _ 0)=false)) k_ k_ ⟨c0,f0⟩ (λhHeld=> ?_);apply tB 0 1 hHeld;refine oT 2 λK hK=>?_
  go_simp
  apply(HCk _ bR.drew).mono;rintro e w2⟨v2,l2,rfl,hpl2,hown2,hkf2,hb2⟩;obtain⟨A2,c2,rfl⟩:=hown2.form;have Hb2:Kp (E W _):=bR.drew.trans hb2;refine oK hK ?_ λhHeld2=>?_
  .exact⟨al Hb2 c0,by rw[iJ Hb2 _ _ o_];omega⟩
  replace hHeld:=hHeld2;have hltW:=bh o_ Hb2.size;have Hown1:=J (bS (J hown) Hb2);have Hap1:=J (λr hr=>(Hap r hr).1.below Hb2);have HapN:Kp (fJ _ (U _ _ _) _):=fJ.new (J hown2) (J hkf2) (λj hj=>((J hown).lt j hj).2);have HneG:=kp (show∀j,j<w.heap.size+3->(Value.slice _ _ _).ownBlock≠some j fromλj hj hh=>by have:=((J hown).lt j hh).1;omega);have Hs1:=kp (aF o_ Hb2.o.size);refine oT 3 λK hK=>?_
  go_simp
  refine oK hK ?_ λhHeld2=>?_
  .exact⟨al (bR.alloc o_ _) hHeld.1,by rw[iJ (bR.alloc o_ _) _ _ hltW];grind⟩
  replace hHeld:=hHeld2;refine oT 4 λK hK=>?_
  apply jq rfl _ _ _ rfl _ 34 _ _ _ underlying236 ti0 tz0 o_ o_ rfl _ _ rfl (U _ _ _) _ _ rfl Hown1 rfl (J (by have:=hlen;have:=congrArg length Hpl;grind)) d_ Hs1;intro v5 w5 hown5 happ5;obtain⟨A5,c5,h5⟩:=bY hown5;subst h5;have Hapl:=J happ5
  go_simp
  refine oK hK ?_ λhHeld2=>?_
  .have e1:=(Hapl.bI o_ (HneG _ o_))
   have e2:=(Below.heap_alloc _ (.cells #[U A2 l2.length c2] 34) _ o_)
   exact⟨(bF (e1.trans e2.symm)).trans hHeld.1,by have h:=hHeld.2;unfold World.frozen? at h⊢;grind⟩
  replace hHeld:=hHeld2;refine fC (o:= ?op5) k_ ?ap5 k_ (λK hK=> ?bp5)
  case ap5=>rfl
  obtain⟨x1',x2'⟩:=hHeld
  go_simp
  apply hK.out _ _;apply kR.normal
  have Hall:Kp (∀k,k<W.heap.size->k≠w.heap.size->(Value.slice _ _ _).ownBlock≠some k->(w5.setCell _ (U A5 (rs.length+1) c5)).heap[k]? = W.heap[k]?):=λk hk h1 h2=>(Below.heap_setCell _ (M w.heap.size 0) _ k h1).trans ((Hapl.bI (bh hk Hb2.size) h2).trans (Hb2.block k hk));have Hsz:Kp _:=aF Hb2.size Hapl.grown.size;refine⟨⟨by simp;exact Hsz,λk o ho hc=> ?_⟩,⟨Hall _ o_ o_ (HneG _ o_),Hall _ o_ o_ (HneG _ o_)⟩,⟨_,rs++[⟨A2,l2,c2⟩],J (Boxed.set _ ((Hapl.bI o_ (HneG _ o_)).trans ((Hb2.block _ o_).trans (J hbx)))),?_,?_,?_,by simp;exact aF o_ Hsz⟩,?_⟩
  .have hkl:=(Array.getElem?_eq_some_iff.1 ho).1;refine(Hall k o_ (λe=> ?_) (λe=> ?_)).trans ho
   .subst e;have:=hbx;unfold Boxed at this;rw[this]at ho;injection ho with ho
    rw[<-ho]at hc;cases hc
   .rcases(J hown).2 with⟨h0,_⟩|⟨g,cap,cur,h0,_,hgb,_⟩
    .rw[h0]at e;cases e
    .rw[h0]at e;cases e;rw[hgb]at ho;injection ho with ho
     rw[<-ho]at hc;cases hc
  .rw[aE,map_append];exact(J hown5).kept (J (grownBy_setCell' _ _ _)) (.inr (λe=>by have:=((J hown5).lt _ e).1;omega))
  .intro r hr;have hft:∀b,cz _ _ b->w.heap.size+3<=b:=λb hb=>by
    obtain hr|hr:=mem_append.1 hr
    .exact(Hap r hr).2 b hb
    .rw[mem_singleton.1 hr]at hb;exact aF o_ (o3 (J hown2) (J hkf2) hb)
   have hra:fJ w5 (U A5 (rs.length+1) c5) r:=by
    obtain hr|hr:=mem_append.1 hr
    .exact(Hap1 r hr).app Hapl
    .rw[mem_singleton.1 hr];exact HapN.app Hapl
   refine⟨⟨?_,hra.2⟩,hft⟩;have e:(w5.setCell (M w.heap.size 0) (U A5 (rs.length+1) c5)).heap.size=w5.heap.size:=s_
   rw[e];exact hra.1.same λb hb=>Below.heap_setCell _ _ _ b r_
  .rw[map_append,map_append,Hpl];exact congrArg (λx=>_++[x]) (J hpl2)
  .exact(Hapl.ew (J (Hbe.trans (Hb2.mono o_))) Hown1 o_ o_).setCell o_ _
 .rintro D xs W hD⟨hxs,hlx⟩⟨⟨v,rs,hbx,hown,hap,hpl,hD0⟩,hbe⟩ hK;obtain⟨Av,cv,rfl⟩:=bY hown;have c0:=hbx.cell
  gi_wp2
  refine⟨s_,.inl ⟨_,_,rfl,run_takeDeferred (J hK),?_⟩⟩;have hlen:rs.length=xs.length:=by have:=congrArg length (J hpl);grind
  have hg:=grownBy_putObj' W D (.deferred none);have hnc:∀r,some D=some r->∃o:Obj,W.heap[r]? = some o/\o.isCells=false:=λr e=>by cases e;exact⟨_,(J hK),rfl⟩
  refine⟨_,?_,_,_,_,rfl,⟨?_,λr hr=>⟨?_,((J hap) r hr).1.2⟩⟩,?_,?_,?_,?_⟩
  .simp[results,go_sem]
  .exact dZ (ownsRow_putObj (J hown) _ (J hK) rfl) o_
  .exact bM.more ⟨oJ ((J hap) r hr).1.1.row hg hnc,λf hf=>oJ (((J hap) r hr).1.1.keys f hf) hg hnc⟩ o_
  .rw[hpl,hlen,<-hxs,map_map];rfl
  .grind
  .intro i hi;rw[hlen]at hi;have h1:(xs.map (·.1))[i]'(by rw[lM];exact hi)=i:=r_
   grind
  .exact(J hbe).trans (belowK_b (ae _) W D _ _ o_ (J hK) rfl rfl)
 simp
def bj.cap{w B n c A l}(h:bj w B (U A n c) l):l.length<=c:=by
 obtain⟨h0,h1⟩|⟨g,cap,cur,d,e,m,b,_⟩:=h.1.2
 .omega
 grind
def Pp P R s r:((P++s::R).map fy).set P.length (fy r)=(P++r::R).map fy:=by
 simp
def fJ.set{w g n c o r u}(h:fJ w (U (some ⟨g,0,none⟩) n c) r):fJ (w.setCell (M g o) u) (U (some ⟨g,0,none⟩) n c) r:=by
 have e:(w.setCell (M g o) u).heap.size=w.heap.size:=s_;refine⟨?_,h.2⟩;rw[e];exact h.1.same λb d=>Below.heap_setCell w _ _ b (λe=>h.2 b d (by rw[e];rfl))
def vT(l:List Fa)(size:Nat)(w:World)(e:Ending)(w':World):Prop:=∃(A:OA)(c:Nat)(rs:List Rn),e = .returned (.tuple #[U A rs.length c,I 0])/\iU w' w'.heap.size A rs/\(rs.length<=c/\c<=9223372036854775807)/\(∀i(h:i<rs.length),cZ rs[i].fs/\(aw rs[i].fs).Perm (aw (eQ l size i))/\rs[i].fs.length<=rs[i].c)/\l.length<=rs.length*size/\(∀i,i<rs.length->i*size<l.length)/\E w w'
def Pn A l(c size:Nat) w(a9:1<=size)(c7:size<=1000000)(hn:l.length<=1000000)(b2:l.length<=c)(c3:c<=9223372036854775807)(hk:∀f∈l,f.keys.length<=1000000)(hr:bM w w.heap.size A l) :
 Calls prog 132 #[I size,U A l.length c] w (vT l size w):=by
 have W:=J (Iz A l c _ w a9 c7 hn b2 c3 hk hr);have N:=J Pr;have T:Kp (∀L O rs w',iU _ _ L rs->(rs.length<=O/\O<=9223372036854775807)->(∀i(h:i<rs.length),cZ _/\(aw _).Perm _/\rs[i].fs.length<=rs[i].c)->l.length<=rs.length*size->(∀i,i<rs.length->i*size<l.length)->E w _->vT l _ w _ w'):=λL O rs w' h1 h2 D y z u=>⟨L,O,_,rfl,h1,h2,D,y,z,u⟩;have Z:Kp (∀i ps,aw ps=aw _->(∀f∈ps,f.keys.length<=1000000)/\ps.length<=1000000):=λi ps h=>by
  have u:ps.length=(eQ l size i).length:=by have:=congrArg length h;simpa[aw]using this
  have Y:(eQ l size i).length<=l.length:=by unfold eQ;rw[length_take,length_drop];omega
  refine⟨λf u=> ?_,o_⟩;have z:pl f∈aw (eQ l size i):=by rw[<-h];exact mem_map_of_mem u
  obtain⟨u,y,e⟩:=mem_map.1 z;have e2:u.keys=f.keys:=congrArg Prod.fst e;rw[<-e2];exact hk u (mem_of_mem_drop (mem_of_mem_take y))
 clear hr hk;generalize u:vT l _ w=Q at*;go_in;go_wp2_with fail;apply W.mono;rintro e u⟨A1,c1,rs,rfl,v,y,Y,a8,u⟩;go_wp2;obtain⟨m,z⟩:=e_ rs.length;rw[z];have D:m<=1000000:=r_
 go_loopw [22] (λG wr=>∃(k:Nat)(s:List Rn),k<=m/\G = I k/\s.length=k/\(∀i(h:i<s.length),cZ s[i].fs/\(aw s[i].fs).Perm (aw (eQ l size i))/\s[i].fs.length<=s[i].c)/\qL wr w.heap.size (U A1 m c1) (s++rs.drop k)/\E w wr) (λG _=>m-(intOf G).toNat)
 case atStart=>grind
 .obtain⟨k,s,hk,rfl,d,a4,v,V⟩:=hrel;by_cases a7:k<m
  .have b:k<rs.length:=o_
   have H:=drop_eq_getElem_cons b;have D:aw (rs[k]'b).fs=aw (eQ l size k):=by
    have h1:=congrArg (λx=>x[k]?) (J y);simp only[getElem?_map,gE b,getElem?_range b,Option.map_some]at h1;grind
   have n:=v;rw[H]at n;obtain⟨y,u⟩:=Z k _ D;have G:=n.2 _ (mem_append_right _ mem_cons_self);have b9:=J (N _ _ (rs[k]'b).c _ u y G.1);obtain⟨g,u,d0,y⟩:∃g,A1=some ⟨g,0,none⟩/\w.heap.size<=g/\g<wr.heap.size:=by
    obtain⟨_,h0⟩|⟨g,cap,cur,Z,hB,hh,_⟩:=n.1.2
    .grind
    grind
   subst u;have c0:C wr g k (U (rs[k]'b).A (rs[k]'b).fs.length (rs[k]'b).c):=by
    have:=n.1.cells (g:=g) rfl k (fy (rs[k]'b)) r_;rw[jS,Nat.zero_add]at this;exact this
   have q:=J n;generalize(rs[k]'b)=r at*;have u:0<=(k:Int):=o_;have u:k<(m:Int):=o_;go_wp2_with fail;apply b9.mono;rintro e w2⟨u,l2,rfl,b0,R,u,a1,y⟩;obtain⟨A2,c2,rfl⟩:=u.form;have e9:=al y c0;have f4:w2.frozen? (M g k)=false:=by
    rcases(bS q.1 y).2 with⟨h0,_⟩|⟨g',cap,cur,Z,hB,hh,_⟩
    .grind
    .injection Z with G _ _;injection G with G;injection G with G _ _;subst G;simp[World.frozen?,hh]
   have Z:(s++r::rs.drop (k+1)).length=m:=r_
   have L:=J (show w2.ownsRow w.heap.size 34 1 (U (some ⟨g,0,none⟩) m c1) m ((s++r::rs.drop (k+1)).map fy) by have:=bS q.1 y;grind);have G:=J Z;have F:=J (λx hx=>(q.2 x hx).below y);have Z:Kp (fJ _ (U (some ⟨g,0,none⟩) m c1) _):=fJ.new u a1 (λj O=>by(have e:g=j:=by injection O);omega);have O:=ay (J V) y;go_wp2;refine⟨⟨k+1,s++[⟨A2,l2,c2⟩],o_,o_,o_,?_,⟨?_,?_⟩,O.setCell d0 _⟩,o_⟩
   .intro i hi;by_cases X:i<s.length
    .grind
    .rw[aE]at hi;have e:i=k:=r_
     have y:(s++[⟨A2,l2,c2⟩])[i]'o_=⟨A2,l2,c2⟩:=r_
     rw[y,e];refine⟨(J R),?_,(J u).cap⟩;rw[<-D];exact(J b0)
   .have h1:=dG L (i:=k) o_ (fy ⟨A2,l2,c2⟩);rw[<-d,Pp]at h1;have u:s++[⟨A2,l2,c2⟩]++rs.drop (k+1)=s++⟨A2,l2,c2⟩::rs.drop (k+1):=s_;rw[u];have e2:(s++⟨A2,l2,c2⟩::rs.drop (k+1)).length=m:=r_
    rw[e2];rw[d]at h1;exact h1
   .intro x hx;rw[append_assoc]at hx;obtain hx|hx:=mem_append.1 hx
    .exact(F x (mem_append_left _ hx)).set
    .obtain rfl|hx:=mem_cons.1 hx
     .exact Z.set
     .exact(F x (mem_append_right _ (mem_cons_of_mem _ hx))).set
  .obtain rfl:k=m:=o_;have B:=J (show qL wr w.heap.size (U A1 k c1) s by
    grind)
   have u:=tY (by have:=B.1;rw[d]at this;omega);have y:=J (T _ c1 s _ B.at_ o_ (J a4) r_ (λi hi=>(J a8) i o_) (J V));go_wp2;have:=y.o;rw[d]at this;exact this
end
structure Hd where
 A:OA
 fs:List Fa
 c:Nat
 no:Nat
abbrev mz(h:Hd):LV:=[U h.A h.fs.length h.c,I (h.no:Int)]
def JA(h:Hd):(mz h).length=2:=rfl
structure dj(w:World)(B gh gr c:Nat)(hs:List Hd):Prop where
 box:aa w gh 387 #[U (some ⟨gr,0,none⟩) hs.length c]
 own:w.ownsRow B 390 2 (U (some ⟨gr,0,none⟩) hs.length c) hs.length (hs.flatMap mz)
 ne:gh≠gr
abbrev gI(b:Nat):Value:= .iface 385 (Y b 0)
def Pj(b:Array TypeId)(t:TypeId)(a:Addr)(s m:ByteArray)(w:World):(Builtin.ssaWrapNilChk_ b t #[.pointer (some a),T s,T m]).run prog w = .ok (.pointer (some a)) w:=rfl
def yK{T E:TypeId}{name:String}{f:FuncId}(h1:(prog.info? T).map (λi=>(i.methods.find? (·.name == name)).map λm=>(m.func,m.path.size))=some (some (some (f,false),0)))(p:prog.underlying T=some (.pointer E))(g:∀w,(isAgg E).run prog w = .ok false w)(b d:Nat)(v:Value)(w:World)(h:C w d 0 v) :
 Sem.run prog (method (b+1) T (Y d 0) name) w = .ok (f,v) w:=by
 rcases hi:prog.info? T with _|i
 .grind
 .rw[hi]at h1;simp only[Option.map_some,Option.some.injEq]at h1;rcases c:i.methods.find? (·.name == name)with _|m
  .grind
  .rw[c]at h1;simp only[Option.map_some,Option.some.injEq,Prod.mk.injEq]at h1;obtain⟨h2,e⟩:=h1;have n:=Array.eq_empty_of_size_eq_zero e;unfold method;have q:=run_underlying p;simp[go_sem,typeInfo,hi,c,h2,n,follow,receiverAt,q,Place.get,strVal,Pj,g,h]
def xp(w:World):(isAgg 387).run prog w = .ok false w:=k_
def qk(b c:Nat)(v:Value)(w:World)(h:C w c 0 v):Sem.run prog (method (b+1) 385 (Y c 0) "Len") w = .ok (267,v) w:=yK k_ underlying385 xp b c v w h
def Ea(b c:Nat)(v:Value)(w:World)(h:C w c 0 v):Sem.run prog (method (b+1) 385 (Y c 0) "Less") w = .ok (397,v) w:=yK k_ underlying385 xp b c v w h
def uq(b c:Nat)(v:Value)(w:World)(h:C w c 0 v):Sem.run prog (method (b+1) 385 (Y c 0) "Swap") w = .ok (400,v) w:=yK k_ underlying385 xp b c v w h
def Ed(b c:Nat)(w:World):Sem.run prog (method (b+1) 385 (Y c 0) "Push") w = .ok (399,Y c 0) w:=o_
def Ec(b c:Nat)(w:World):Sem.run prog (method (b+1) 385 (Y c 0) "Pop") w = .ok (398,Y c 0) w:=o_
def o5(A:OA)(m c:Nat)(w:World):Calls prog 267 #[U A m c] w λe w'=>e = .returned (I (m:Int))/\w=w':=by
 go_in;go_wp2;go_ret;simp
def j9{w:World}{B g n c sz:Nat}{e:TypeId}{xs:LV}(h:w.ownsRow B e sz (U (some ⟨g,0,none⟩) n c) n xs){i:Nat}{v:Value}(b:xs[i]? = some v):C w g i v/\w.frozen? (M g i)=false:=by
 constructor
 .have:=h.cells (g:=g) rfl i v b;rw[jS,Nat.zero_add]at this;omega
 .obtain⟨h0,_⟩|⟨p,cap,cur,b,q,f,_⟩:=h.2
  .grind
  .injection b with d _ _;injection d with d;injection d with m _ _;subst m;simp[World.frozen?,f]
def yU(B f gr c:Nat)(a b:Hd)(w:World)(h:dj w B f gr c [a,b]):Calls prog 400 #[U (some ⟨gr,0,none⟩) 2 c,I 0,I 1] w λe w'=>e = .returned (.tuple #[])/\dj w' B f gr c [b,a]/\aq (λk=>k=gr) w w':=by
 obtain⟨c0,q⟩:=j9 h.own (i:=0) rfl;obtain⟨c1,g⟩:=j9 h.own (i:=1) rfl;obtain⟨c2,n⟩:=j9 h.own (i:=2) rfl;obtain⟨c3,m⟩:=j9 h.own (i:=3) rfl;go_in;go_wp2;go_region;go_end0;refine⟨rfl,⟨?_,?_,(J h).ne⟩,?_⟩
 .have d:=(J h).ne;exact(((((J h).box.aJ d _).aJ d _).aJ d _).aJ d _)
 .exact dG (dG (dG (dG (J h).own (i:=0) s_ _) (i:=1) s_ _) (i:=2) s_ _) (i:=3) s_ _
 .exact((((aq.set (p:=λk=>k=gr) w _ _ rfl).trans (aq.set _ _ _ rfl)).trans (aq.set _ _ _ rfl)).trans (aq.set _ _ _ rfl)).drew
def Qn(B d gr c:Nat)(a:Hd)(w:World)(h:dj w B d gr c [a]):Calls prog 400 #[U (some ⟨gr,0,none⟩) 1 c,I 0,I 0] w λe w'=>e = .returned (.tuple #[])/\dj w' B d gr c [a]/\aq (λk=>k=gr) w w':=by
 obtain⟨c0,g⟩:=j9 h.own (i:=0) rfl;obtain⟨c1,f⟩:=j9 h.own (i:=1) rfl;go_in;go_wp2;go_region;go_end0;refine⟨rfl,⟨?_,?_,(J h).ne⟩,?_⟩
 .have b:=(J h).ne;exact(((((J h).box.aJ b _).aJ b _).aJ b _).aJ b _)
 .exact dG (dG (dG (dG (J h).own (i:=0) s_ _) (i:=1) s_ _) (i:=0) s_ _) (i:=1) s_ _
 .exact((((aq.set (p:=λk=>k=gr) w _ _ rfl).trans (aq.set _ _ _ rfl)).trans (aq.set _ _ _ rfl)).trans (aq.set _ _ _ rfl)).drew
def hk(h:Hd):LN:=match h.fs with
 |x::_=>x.keys
 | []=>[]
def jF(b a:Hd):Prop:=aI (hk b) (hk a)<0\/aI (hk b) (hk a)=0/\b.no<a.no
def Cn{a b:Hd}(h:jF b a):¬jF a b:=by
 unfold jF at*;rw[jU];omega
structure iS(w:World)(LB:Nat)(h:Hd):Prop where
 jW:bM w LB h.A h.fs
 ne:h.fs≠[]
 keys:∀f∈h.fs,f.keys.length<=1000000
 len:h.fs.length<=1000000
 cap:h.fs.length<=h.c
 no:h.no<=1000000
def iS.below{w w':World}{c:Nat}{h:Hd}(b:iS w c h)(d:Below c w w'):iS w' c h:=⟨b.jW.below d,b.ne,b.keys,b.len,b.cap,b.no⟩
def su(p:Prop)(w:World)(e:Ending)(w':World):Prop:=∃r:Bool,e = .returned (.bool r)/\(r=true↔p)/\E w w'
def KF(B gh gr c:Nat)(a b:Hd)(x y:Fa)(xs ys:List Fa)(X:b.fs=x::xs)(ha:a.fs=y::ys)(w:World)(h:dj w B gh gr c [a,b])(q:bM w w.heap.size a.A a.fs)(s:bM w w.heap.size b.A b.fs)(d8:x.keys.length<=1000000)(e0:y.keys.length<=1000000)(hn:a.no<=1000000/\b.no<=1000000) :
 Calls prog 397 #[U (some ⟨gr,0,none⟩) 2 c,I 1,I 0] w (su (aI x.keys y.keys<0\/aI x.keys y.keys=0/\b.no<a.no) w):=by
 have HR:Kp (∀ r u,(r=true↔(aI x.keys y.keys<0\/aI x.keys y.keys=0/\b.no<a.no))->E w u->su _ w _ u):=λr u h X=>⟨r,rfl,h,X⟩;generalize u:su _ w=Q at*;clear u;obtain⟨c0,f0⟩:=j9 h.own (i:=0) rfl;obtain⟨c1,f1⟩:=j9 h.own (i:=1) rfl;obtain⟨c2,f2⟩:=j9 h.own (i:=2) rfl;obtain⟨c3,f3⟩:=j9 h.own (i:=3) rfl;have d5:=(h.own.lt gr rfl).2;rw[X]at s c2;rw[ha]at q c0;obtain⟨ba,z,hA,e5,L,J,a2,a3,a4,a5,a6,F,a8,N,n⟩:=q.cells 0 s_;obtain⟨O,ob,D,d6,b0,Z,V,R,G,Y,H,b7,W,T,m⟩:=s.cells 0 s_;rw[hA]at c0;rw[D]at c2;simp at L J a2 a3 a4 a5 a6 F a8 N n b0 Z V R G Y H b7 W T m;have u:Kp (Calls _ _ _ _ _):=te x y w.drew d8 e0 (s.keys x s_) (q.keys y s_);clear h q s X ha hA D;have e4:=d6;have d9:=e5;go_in;go_wp2;apply wp_region_noPanic;refine br (t:=99) (S:=(λw'=>(w'.cell? _=some _/\w'.cell? _=some _)/\(cF w' _ z y)/\(cF w' O _ x))) k_ ⟨⟨c0,c2⟩,⟨L,J,a2,a3,a4,a5,a6,F,a8,N,n⟩,⟨b0,Z,V,R,G,Y,H,b7,W,T,m⟩⟩ (λd=> ?_);apply tD 0 1 2 3 d;apply tD 4 5 6 7 d;apply tD 8 9 10 11 d;apply tB 12 13 d;refine oT 14 λK hK=>?_;go_simp;apply u.mono;rintro e D⟨rfl,z⟩;refine oK hK ?_ λf=>?_
 .have e1:∀g,g<w.heap.size->∀i,D.cell? _=w.drew.cell? (M g i):=λg hg i=>bF (by rw[z];exact(Below.heap_alloc _ _ _ o_).trans (Below.heap_alloc _ _ _ hg));grind
 replace d:=f;clear hK K f;apply tk 15 d;refine bQ k_ ?_ _;try clear d
 apply NoPanic.normal;have p:Below w.drew.heap.size w.drew D:=by rw[z];exact(bR.alloc o_ _).alloc s_ _
 have O:=al p (c1);have O:=al p (c3);have v:Kp (E w D):=bR.drew.trans p;clear p u c0 c1 c2 c3 f0 f1 f2 f3 L J a2 a3 a4 a5 a6 F a8 N n b0 Z V R G Y H b7 W T m z;generalize aI _ _=V at*;by_cases h1:V<0
 .go_wp2;go_quiet (fail);go_wp2;exact HR _ _ o_ (below_drewN v _)
 .have g1:=decide_eq_false h1;by_cases h2:V=0
  .subst h2;go_wp2;go_quiet (fail);go_wp2;refine HR _ _ ?_ (below_drewN v _);simp
  .have g2:(V == 0)=false:=o_
   go_wp2;go_quiet (fail);go_wp2;exact HR _ _ o_ (below_drewN v _)
def Cb(B n gr c m:Nat)(a b:Hd)(w:World)(h:dj w B n gr c [a,b])(f:iS w m a)(g:iS w m b)(p:m<=w.heap.size) :
 Calls prog 397 #[U (some ⟨gr,0,none⟩) 2 c,I 1,I 0] w (su (jF b a) w):=by
 rcases d:b.fs with _|⟨x,xs⟩
 .exact absurd d g.ne
 .rcases e:a.fs with _|⟨y,ys⟩
  .exact absurd e f.ne
  .have r:hk b=x.keys:=by unfold hk;rw[d]
   have q:hk a=y.keys:=by unfold hk;rw[e]
   unfold jF;rw[r,q];exact KF B n _ c a b x y _ _ d e w h (f.jW.more p) (g.jW.more p) (g.keys x r_) (f.keys y r_) ⟨f.no,g.no⟩
def dj.below{w w':World}{B b gr c:Nat}{e:List Hd}(h:dj w B b gr c e)(d:E w w'):dj w' B b gr c e:=⟨h.box.under d,bS h.own d,h.ne⟩
def jR(a b:Hd)(B d gr c:Nat)(w w':World):Prop:=∃x y,((x=a/\y=b)\/(x=b/\y=a))/\dj w' B d gr c [x,y]/\¬jF y x/\aq (λk=>k=gr) w w'
def yZ(V:Value)(w:World):Calls prog 302 #[V,I 0] w λe w'=>e = .returned (.tuple #[])/\w=w':=by
 go_in;go_wp2_with fail;go_loop [1,4] (λb c=>b = I 0) (λ_ _=>0)
 case atStart=>rfl
 .subst hrel;go_wp2_with fail;go_end0;exact⟨rfl,rfl⟩
def QX(B gh gr c LB:Nat)(a b:Hd)(w:World)(h:dj w B gh gr c [a,b])(ha:iS w LB a)(hb:iS w LB b)(hL:LB<=w.heap.size) :
 Calls prog 302 #[gI gh,I 1] w λe w'=>e = .returned (.tuple #[])/\jR a b B gh gr c w w':=by
 have HLess:=J (Cb B gh gr c LB a b w h ha hb hL);have HSw:=J yU;obtain⟨c0,f0⟩:=h.box.one;have e2:=λfuel=>Ea fuel gh _ w c0
 have HQ:Kp (∀w',jR a b B gh gr c w w'->(Ending.returned (.tuple #[])=Ending.returned (.tuple #[])/\jR a b B gh gr c w w')):=λw' h=>⟨rfl,h⟩;go_in;go_wp2_with fail
 go_loopw [1,4] (λv1 v4 wr=>(v1 = I 1/\wr=w)\/(v1 = I 0/\jR a b B gh gr c w wr)) (λv1 _ _=>(intOf v1).toNat)
 case atStart=>exact .inl ⟨rfl,rfl⟩
 .obtain⟨rfl,rfl⟩|⟨rfl,htwo⟩:=hrel
  .go_wp2_with fail;apply HLess.mono;rintro e w1⟨r,rfl,(Hr:Kp _),hb1⟩;have Hh1:=J ((J h).below hb1);have c1:=al hb1 c0;have e3:=λfuel=>uq fuel gh _ w1 c1
   have HSw1:=J (HSw B gh gr c a b w1 Hh1);clear HLess;obtain _|_:=r
   .have hn:¬jF b a:=λh=>by have:=Hr.2 h;cases this
    have Htw:Kp (jR a b B gh gr c wr w1):=⟨a,b,.inl ⟨rfl,rfl⟩,Hh1,hn,aq.below (J hb1)⟩;go_wp2_with fail
    go_end0
    exact⟨rfl,Htw⟩
   .have hn:¬jF a b:=Cn (Hr.1 rfl);go_wp2_with fail;apply HSw1.mono;rintro e w2⟨rfl,hh2,ht2⟩;have Htw:Kp (jR a b B gh gr c wr w2):=⟨b,a,.inr ⟨rfl,rfl⟩,hh2,hn,(aq.below (J hb1)).trans ht2⟩;go_wp2_with fail;exact⟨.inr ⟨rfl,Htw⟩,by simp[intOf]⟩
  .have Htw:=J htwo;go_wp2_with fail
   go_end0
   exact⟨rfl,Htw⟩
def wZ(V:Value)(n:Nat)(c:n<=1)(w:World):Calls prog 303 #[V,I 0,I (n:Int)] w λe w'=>e = .returned (.bool false)/\w=w':=by
 have h1:(n:Int)<=1:=o_;go_in;go_wp2_with fail;go_loop [7] (λb=>b = I 0) (λ_=>0)
 case atStart=>rfl
 .subst hrel;go_wp2_with fail;go_ret;exact⟨rfl,rfl⟩
def uO(a b:Hd)(B d gr c:Nat)(w:World)(e:Ending)(w':World):Prop:=∃r:Bool,e = .returned (.bool r)/\jR a b B d gr c w w'
def IG(B gh gr c LB:Nat)(a b:Hd)(w:World)(h:dj w B gh gr c [a,b])(ha:iS w LB a)(hb:iS w LB b)(hL:LB<=w.heap.size) :
 Calls prog 303 #[gI gh,I 0,I 2] w (uO a b B gh gr c w):=by
 have HLess:=J (Cb B gh gr c LB a b w h ha hb hL);have HSw:=J yU;obtain⟨c0,f0⟩:=h.box.one;have e2:=λfuel=>Ea fuel gh _ w c0
 have HQ:Kp (∀(r:Bool) w',jR a b B gh gr c w w'->uO a b B gh gr c w (.returned (.bool r)) w'):=λr w' h=>⟨r,rfl,h⟩;generalize hQ:uO a b B gh gr c w=Q at*;go_in;go_wp2_with fail
 go_loopw [7] (λv7 wr=>(v7 = I 0/\wr=w)\/(v7 = I 1/\jR a b B gh gr c w wr)) (λv7 _=>1-(intOf v7).toNat)
 case atStart=>exact .inl ⟨rfl,rfl⟩
 .obtain⟨rfl,rfl⟩|⟨rfl,htwo⟩:=hrel
  .go_wp2_with fail;apply HLess.mono;rintro e w1⟨r,rfl,(Hr:Kp _),hb1⟩;have Hh1:=J ((J h).below hb1);have c1:=al hb1 c0;have e3:=λfuel=>uq fuel gh _ w1 c1
   have HSw1:=J (HSw B gh gr c a b w1 Hh1);clear HLess;obtain _|_:=r
   .have hn:¬jF b a:=λh=>by have:=Hr.2 h;cases this
    have Htw:Kp (jR a b B gh gr c wr w1):=⟨a,b,.inl ⟨rfl,rfl⟩,Hh1,hn,aq.below (J hb1)⟩;go_wp2_with fail;exact HQ _ _ Htw
   .have hn:¬jF a b:=Cn (Hr.1 rfl);go_wp2_with fail;apply HSw1.mono;rintro e w2⟨rfl,hh2,ht2⟩;have Htw:Kp (jR a b B gh gr c wr w2):=⟨b,a,.inr ⟨rfl,rfl⟩,hh2,hn,(aq.below (J hb1)).trans ht2⟩;go_wp2_with fail;exact⟨.inr ⟨rfl,Htw⟩,by simp[intOf]⟩
  .have Htw:=J htwo;go_wp2_with fail;exact HQ _ _ Htw
def J0(B d gr c:Nat)(a:Hd)(w:World)(h:dj w B d gr c [a]):Calls prog 269 #[gI d,I 0] w λe w'=>e = .returned (.tuple #[])/\w=w':=by
 obtain⟨c0,q⟩:=h.box.one;have p:=λb=>qk b d _ w c0;have n:=J (o5 (some ⟨gr,0,none⟩) 1 c w);have g:=J (wZ (gI d) 1 o_ w);have m:=J (yZ (gI d) w);go_in;go_wp2_with fail;apply n.mono;rintro e f⟨rfl,rfl⟩;go_wp2_with fail;apply g.mono;rintro e f⟨rfl,rfl⟩;go_wp2_with fail;apply m.mono;rintro e f⟨rfl,rfl⟩;go_wp2_with fail;go_end0;exact⟨rfl,rfl⟩
def uV(a b:Hd)(B d gr c:Nat)(w:World)(e:Ending)(w':World):Prop:=e = .returned (.tuple #[])/\jR a b B d gr c w w'
def J1(B d gr c m:Nat)(a b:Hd)(w:World)(h:dj w B d gr c [a,b])(s:iS w m a)(v:iS w m b)(x:m<=w.heap.size):Calls prog 269 #[gI d,I 0] w (uV a b B d gr c w):=by
 obtain⟨c0,D⟩:=h.box.one;have z:=λg=>qk g d _ w c0;have y:=J (o5 (some ⟨gr,0,none⟩) 2 c w);have q:=J (IG B d gr c m a b w h s v x);have u:=J (yZ (gI d));have p:Kp (∀w',jR a b B d gr c w w'->uV a b B d gr c w (.returned (.tuple #[])) w'):=λw' h=>⟨rfl,h⟩;generalize A:uV a b B d gr c w=Q at*;go_in;go_wp2_with fail;apply y.mono;rintro e n⟨rfl,rfl⟩;go_wp2_with fail;apply q.mono;rintro e n⟨r,rfl,f⟩;obtain _|_:=r
 .go_wp2_with fail;apply(u n).mono;rintro e C⟨rfl,rfl⟩;go_wp2_with fail;go_end0;exact p _ (J f)
 .go_wp2_with fail;go_end0;exact p _ (J f)
def MQ{w:World}{B g n c sz m:Nat}{e:TypeId}{xs ys:LV}(h:w.ownsRow B e sz (U (some ⟨g,0,none⟩) n c) n (xs++ys))(hx:xs.length=m*sz)(v:m<=n):w.ownsRow B e sz (U (some ⟨g,0,none⟩) m c) m xs:=by
 refine⟨hx,?_⟩;obtain⟨h0,_⟩|⟨y,cap,cur,s,q,r,p,d,b,ht⟩:=h.2
 .cases h0
 .injection s with f _ u;injection f with f;injection f with x _ _;subst x u;refine .inr ⟨g,c,cur,rfl,q,r,o_,d,b,?_⟩;have h1:m*sz<=n*sz:=Nat.mul_le_mul_right _ v;have h2:cur.toList.take (m*sz)=(cur.toList.take (n*sz)).take (m*sz):=by rw[take_take,Nat.min_eq_left h1]
  rw[h2,ht,<-hx,take_left]
def vC(d:List Hd)(B b gr c:Nat)(w:World)(e:Ending)(w':World):Prop:=∃v,e = .returned v/\dj w' B b gr c d/\aq (λk=>k=b) w w'
def Cw(B d gr c:Nat)(f:List Hd)(x:Hd)(O:f.length<=1)(hc:f.length+1<=c)(a0:c<=9223372036854775807)(w:World)(h:dj w B d gr c (f++[x])):Calls prog 398 #[Y d 0] w (vC f B d gr c w):=by
 have b:=h.own;have q:=h.box;obtain⟨n,D⟩:=e_ f.length;have r:(f++[x]).length=n+1:=by simp[D]
 rw[r]at b q;have u:(f++[x]).flatMap mz=f.flatMap mz++mz x:=by rw[flatMap_append];simp
 have m:(f.flatMap mz).length=n*2:=by rw[iX JA,D]
 rw[u]at b;obtain⟨c0,Z⟩:=q.one;obtain⟨c1,y⟩:=j9 b (i:=n*2) (v:= U x.A x.fs.length x.c) (by rw[getElem?_append_right (by rw[m];exact ae _),m,Nat.sub_self];rfl);obtain⟨c2,y⟩:=j9 b (i:=n*2+1) (v:= I (x.no:Int)) (by rw[getElem?_append_right (by rw[m];omega),m,show n*2+1-n*2=1 by omega];rfl);have E:d<w.heap.size:=q.lt;have z:=J h.ne;have X:Kp (∀v w',dj w' B d gr c f->aq (λk=>k=d) w w'->vC f B d gr c w (.returned v) w'):=λv w' h1 h2=>⟨v,rfl,h1,h2⟩;generalize V:vC f B d gr c w=Q at*;have R:(n:Int)+1<=(c:Int):=o_;have W:n<=1:=o_;clear h u r V O;have F:=(ah w.heap.size w).alloc (ae _) (.cells #[U x.A x.fs.length x.c,I (x.no:Int)] 390);have g:=J F;have G:=J (aa.new w 390 #[U x.A x.fs.length x.c,I (x.no:Int)]);go_in;go_upto_region 3 with fail;have u:=al g c0;have u:(w.alloc (.cells #[U x.A x.fs.length x.c,I (x.no:Int)] 390)).frozen? (M d 0)=false:=by rw[iJ g _ _ E];exact Z
 have s:=J (bS (J b) g);have C:=J ((J q).under g);generalize N:w.alloc (.cells #[U x.A x.fs.length x.c,I (x.no:Int)] 390)=H at*;have L:decide ((c:Int)=(n:Int))=false:=o_;go_upto_region 4 with fail;have y:=J (G.aJ (p:=(M d 0)) o_ (U (some ⟨gr,0,none⟩) n c));have T:=J (X (.iface 390 (.agg #[U x.A x.fs.length x.c,I (x.no:Int)])) (H.setCell (M d 0) (U (some ⟨gr,0,none⟩) n c)) ⟨by rw[D];exact C.set 0 _,by rw[D];exact(MQ s (J m) o_).kept (grownBy_setCell' H d _) (.inr (λe=>by(have u:gr=d:=by injection e);have:=z.o;omega)),z⟩ ((aq.below g).trans (aq.set (p:=λk=>k=d) H (M d 0) _ rfl)));obtain⟨u,u,_,_⟩:=y.two;go_wp2_with fail;exact T
def NI(B d gr c:Nat)(a:Hd)(w:World)(x:1<=c)(r:c<=9223372036854775807)(h:dj w B d gr c [a]):Calls prog 268 #[gI d] w λe w'=>∃v,e = .returned v/\dj w' B d gr c []/\aq (λk=>k=d\/k=gr) w w':=by
 obtain⟨c0,E⟩:=h.box.one;have D:=λb=>qk b d _ w c0;have A:=λb=>uq b d _ w c0;have C:=λb w=>Ec b d w;have z:=J (o5 (some ⟨gr,0,none⟩) 1 c w);have p:=J (Qn B d gr c a w h);have s:=J (wZ (gI d) 0 o_);have u:=J (λw'(h':dj w' B d gr c [a])=>Cw B d gr c [] a s_ (by simpa using x) r w' h');go_in;go_wp2_with fail;apply z.mono;rintro e f⟨rfl,rfl⟩;go_wp2_with fail;apply p.mono;rintro e f⟨rfl,g,m⟩;go_wp2_with fail;apply(s f).mono;rintro e y⟨rfl,rfl⟩;go_wp2_with fail;apply(u f (J g)).mono;rintro e y⟨v,rfl,n,q⟩;go_wp2_with fail;go_ret;exact⟨_,rfl,(J n),((J m).more (λk h=> .inr h)).trans ((J q).more (λk h=> .inl h))⟩
def NJ(B f gr c:Nat)(a b:Hd)(w:World)(z:2<=c)(s:c<=9223372036854775807)(h:dj w B f gr c [a,b]):Calls prog 268 #[gI f] w λe w'=>∃v,e = .returned v/\dj w' B f gr c [b]/\aq (λk=>k=f\/k=gr) w w':=by
 obtain⟨c0,F⟩:=h.box.one;have E:=λd=>qk d f _ w c0;have C:=λd=>uq d f _ w c0;have D:=λd w=>Ec d f w;have A:=J (o5 (some ⟨gr,0,none⟩) 2 c w);have q:=J (yU B f gr c a b w h);have y:=J (wZ (gI f) 1 o_);have u:=J (λw'(h':dj w' B f gr c [b,a])=>Cw B f gr c [b] a s_ (by simpa using z) s w' h');go_in;go_wp2_with fail;apply A.mono;rintro e m⟨rfl,rfl⟩;go_wp2_with fail;apply q.mono;rintro e m⟨rfl,n,p⟩;go_wp2_with fail;apply(y m).mono;rintro e x⟨rfl,rfl⟩;go_wp2_with fail;apply(u m (J n)).mono;rintro e x⟨v,rfl,g,r⟩;go_wp2_with fail;go_ret;exact⟨_,rfl,(J g),((J p).more (λk h=> .inr h)).trans ((J r).more (λk h=> .inl h))⟩
def JM:(prog.info? 390).map (λi=>(i.zero,i.size,i.bytes))=some (some (.agg #[Z,I 0]),2,32):=k_
abbrev jX(h:Hd):AV:=#[U h.A h.fs.length h.c,I (h.no:Int)]
def Ph(v:Value)(w:World):Sem.run prog (Instr.typeAssert (.iface 390 v) 20 390 true) w = .ok (.tuple #[v,.bool true]) w:=k_
def JB(x:Hd):∀u∈(jX x).toList,u.oneCell'=true:=by
 intro u b;simp at b;rcases b with rfl|rfl<;>rfl
def Jg(w:World)(o:Obj){b i:Nat}(c:b<w.heap.size):(w.alloc o).frozen? (M b i)=w.frozen? (M b i):=iJ (bR.alloc o_ o) b i c
def Gi{w w':World}{v b:Value}(h:App w.drew w' v b):App w w' v b:=⟨⟨h.grown.os,h.grown.tape,h.grown.output,h.grown.size,h.grown.block⟩,h.j4⟩
def oY(d:List Hd)(B f g:Nat)(w:World)(e:Ending)(w':World):Prop:=e = .returned (.tuple #[])/\(∃b c,dj w' B f b c d/\d.length<=c/\c<=9223372036854775807)/\Below g w w'
def Cx(B g gr c O:Nat)(r:List Hd)(x:Hd)(X:r.length<=1)(w:World)(b1:O<=B)(a0:O<=g)(hB:B<=w.heap.size)(h:dj w B g gr c r):Calls prog 399 #[Y g 0,.iface 390 (.agg (jX x))] w (oY (r++[x]) B g O w):=by
 obtain⟨n,Z⟩:=e_ r.length;have b6:=h.ne;have v:=h.own;have L:=h.box;rw[Z]at v L;have b7:=(v.lt gr rfl).2;have HQ:Kp (∀w',(∃a1 c',dj _ B g _ _ _/\(r++[x]).length<=c'/\c'<=9223372036854775807)->Below O w _->oY _ B g O w _ w'):=λw' h1 h2=>⟨rfl,h1,h2⟩;generalize hQ:oY _ B g O w=Q at*;obtain⟨i0,a3,a8,b3,a4⟩:=info_parts JM;have y:=(ah _ w).alloc (ae _) (.cells (jX x) 390);have T:=J (aa.new w 390 (jX x));have s:=J (bS v y);have u:=J (L.under y);have b0:=J (show B<=(w.alloc (.cells (jX x) 390)).heap.size by have:=y.size;omega);unfold jX at*;have c8:=Ph;go_in;go_upto_region 1 with fail;generalize d4:w.alloc _=R at*;generalize c7:w.heap.size=E at*;obtain⟨c0,f0⟩:=u.one;obtain⟨x0,x1,_,_⟩:=T.two;have q:=u.lt;have z:Kp ((Value.slice (some ⟨_,0,none⟩) n c).ownBlock≠some g):=(λhh=>by(have G:gr=g:=by injection hh);omega);apply wp_region_noPanic;refine br (t:=8) (S:=(λw'=>(C w' g 0 _/\w'.frozen? (M g 0)=false)/\(C w' E 0 _/\C w' E 1 _))) k_ ⟨⟨c0,f0⟩,⟨x0,x1⟩⟩ (λb=> ?_);apply tD 0 1 2 3 b;apply tk 4 b;have D:=T.lt;have V:Kp ((Value.slice (some ⟨_,0,none⟩) n c).ownBlock≠some E):=(λhh=>by(have G:gr=E:=by injection hh);omega);refine oT 5 λK hK=>?_;go_simp;refine oK hK ?_ λf=>?_
 .exact⟨⟨al (bR.alloc o_ _) b.1.1,(Jg R _ q).trans b.1.2⟩,al (bR.alloc o_ _) b.2.1,al (bR.alloc o_ _) b.2.2⟩
 replace b:=f;refine oT 6 λK hK=>?_;refine rS rfl _ _ _ rfl B 390 _ _ 2 _ underlying387 a3 a8 b3 a4 rfl d_ R.drew _ rfl (JB x) (U _ n c) n _ rfl s rfl o_ d_ b0 ?_;intro v5 w5 d F;obtain⟨A5,c5,h5⟩:=cI d;subst h5;have H:=J d;have m:=J (Gi F);go_simp;refine oK hK ?_ λf=>?_
 .have W:=(m.bI q z);have G:=(Below.heap_alloc R (.cells #[U x.A x.fs.length x.c,I x.no] 390) _ q);have e3:=(m.bI D V);have e4:=(Below.heap_alloc R (.cells #[U x.A x.fs.length x.c,I x.no] 390) _ D);exact⟨⟨(bF (W.trans G.symm)).trans b.1.1,by have h:=b.1.2;unfold World.frozen? at h⊢;rw[W.trans G.symm];exact h⟩,(bF (e3.trans e4.symm)).trans b.2.1,(bF (e3.trans e4.symm)).trans b.2.2⟩
 replace b:=f;apply tk 7 b;refine fC (o:= ?op8) k_ ?ap8 k_ (λK hK=> ?bp8)
 case ap8=>rfl
 obtain⟨⟨a7,c4⟩,_⟩:=b;go_simp;apply hK.out _ _;apply NoPanic.normal
 have d:=H.o;obtain⟨h0,h1⟩|⟨N,cap,cur,hv,d0,d1,a9,a6,d5,ht⟩:=d.2
 .omega
 .injection hv with hA _ hc;subst hA hc;have a2:g≠N:=by
   obtain X|⟨k,X,hk⟩:=m.j4
   .have G:N=gr:=by injection X
    omega
   .have G:N=k:=by injection X
    omega
  go_end0;refine HQ _ ⟨N,c5,⟨?_,?_,a2⟩,o_,by unfold maxLen at a6;omega⟩ ?_
  .have W:=(m.bI q z);have:aa _ g _ _:=W.trans u;have:=this.set 0 (U (some ⟨N,0,none⟩) (n+1) c5);grind
  .have:(r++[x]).flatMap mz=r.flatMap mz++#[Value.slice x.A x.fs.length x.c,I x.no].toList:=o_
   rw[this,aE,Z];exact d.kept (grownBy_setCell' _ g _) (.inr (λe=>by(have G:N=g:=by injection e);omega))
  .exact(m.ew ((J y).mono o_) s b1 o_).setCell a0 _
def NR(B d gr c g:Nat)(x:Hd)(w:World)(s:g<=B)(q:g<=d)(D:B<=w.heap.size)(h:dj w B d gr c []):Calls prog 266 #[gI d,.iface 390 (.agg (jX x))] w (oY [x] B d g w):=by
 have G:=λb w=>Ed b d w;have z:=J (Cx B d _ c g _ x s_ w s q D h);have F:=J o5;have A:=J (yZ (gI d));have E:Kp (∀w',(∃f m,dj _ B d f m _/\[x].length<=m/\m<=9223372036854775807)->Below g w _->oY _ B d g w _ w'):=λw' h1 h2=>⟨rfl,h1,h2⟩;generalize I:oY [x] B d g w=Q at*;unfold jX at*;go_in;go_wp2_with fail;apply z.mono;rintro e u⟨rfl,⟨f,m,y,p,v⟩,r⟩;obtain⟨c0,L⟩:=y.box.one;have H:=λb=>qk b d _ u c0;have n:=J (F (some ⟨f,0,none⟩) 1 m u);go_wp2_with fail;apply n.mono;rintro e C⟨rfl,rfl⟩;go_wp2_with fail;apply(A u).mono;rintro e C⟨rfl,rfl⟩;go_wp2;go_end0;exact E _ ⟨f,m,(J y),(J p),v⟩ (J r)
def vD(a b:Hd)(B f g:Nat)(w:World)(e:Ending)(w':World):Prop:=e = .returned (.tuple #[])/\(∃c d x y,((x=a/\y=b)\/(x=b/\y=a))/\dj w' B f c d [x,y]/\¬jF y x/\2<=d/\d<=9223372036854775807)/\Below g w w'
def NS(B f gr c d:Nat)(a x:Hd)(w:World)(r:d<=B)(y:d<=f)(O:B<=w.heap.size)(h:dj w B f gr c [a])(H:iS w d a)(hx:iS w d x):Calls prog 266 #[gI f,.iface 390 (.agg (jX x))] w (vD a x B f d w):=by
 have U:=λg w=>Ed g f w;have I:=J (Cx B f _ c d _ x s_ w r y O h);have T:=J o5;have L:=J (λb m w' h' F=>QX B f b m d a x w' h' (H.below F) (hx.below F) (by have:=F.size;omega));have R:Kp (∀w',(∃b m p q,((p=a/\q=x)\/(p=x/\q=a))/\dj _ B f b m _/\¬jF q p/\2<=m/\m<=9223372036854775807)->Below d w _->vD a x B f d w _ w'):=λw' h1 h2=>⟨rfl,h1,h2⟩;generalize W:vD a x B f d w=Q at*;unfold jX at*;go_in;go_wp2_with fail;apply I.mono;rintro e D⟨rfl,⟨b,m,C,u,G⟩,n⟩;obtain⟨c0,X⟩:=C.box.one;have V:=λg=>qk g f _ D c0;have s:=J (T (some ⟨b,0,none⟩) 2 m D);have A:=J (L b m D C n);have M:Kp _:=(C.own.lt b rfl).1;go_wp2_with fail;apply s.mono;rintro e N⟨rfl,rfl⟩;go_wp2_with fail;apply A.mono;rintro e N⟨rfl,p,q,E,z,v,ht⟩;go_wp2;go_end0;exact R _ ⟨b,m,p,q,E,(J z),v,(J u),G⟩ ((J n).trans ((J ht).toBelow (λk e=>by subst e;exact aF r M) (by have:=(J n).size;omega)))
def iY(b:List Hd):List (LN×Ag):=b.flatMap λh=>aw h.fs
def de(rs:List Rn):List (LN×Ag):=rs.flatMap λr=>aw r.fs
def Ordered(c:List Hd):Prop:=∀a b,c=[a,b]->¬jF b a
def lenOf:Value->Nat
 | .slice _ n _=>n
 |_=>0
structure kN(w:World)(LB gh gr c:Nat)(hs:List Hd):Prop where
 heap:dj w LB gh gr c hs
 two:hs.length<=2
 cap:hs.length<=c
 cm:c<=9223372036854775807
 ord:Ordered hs
 each:∀h∈hs,iS w LB h/\cZ h.fs
 lo:LB<=gh
def kN.lt{w d b gr c e}(h:kN w d b gr c e):b<w.heap.size/\gr<w.heap.size/\d<=gr:=⟨h.heap.box.lt,(h.heap.own.lt _ rfl).2,(h.heap.own.lt _ rfl).1⟩
def kN.aJ{w w' d b gr c f}(h:kN w d b gr c f)(s:Below d w w')(r:w'.heap[b]? = w.heap[b]?)(n:w'.heap[gr]? = w.heap[gr]?):kN w' d b gr c f:=by
 refine⟨⟨r.trans h.heap.box,?_,h.heap.ne⟩,h.two,h.cap,h.cm,h.ord,λx hx=>⟨(h.each x hx).1.below s,(h.each x hx).2⟩,h.lo⟩;obtain⟨h1,h2⟩:=h.heap.own;refine⟨h1,?_⟩;obtain h2|⟨g,cap,cur,m,q,p,u⟩:=h2
 .grind
 .refine .inr ⟨g,_,_,m,q,?_,u⟩;grind
def bM.tail{w B b off x xs}(h:bM w B (some ⟨b,off,none⟩) (x::xs)):bM w B (some ⟨b,off+11,none⟩) xs:=by
 have:=h.sub 1 xs.length;grind
def Ef{rs}(h2:rs.length<=2)(d:∀r∈rs,r.fs.length<=400000):(de rs).length<=800000:=by
 obtain _|⟨a,_|⟨b,_|⟨c,rs⟩⟩⟩:=rs
 .simp[de]
 .have:=d a s_;simp[de,aw];omega
 .have:=d a s_;have:=d b s_;simp[de,aw];omega
 .grind
def yQ{l c}(e:c.map pl=l.map pl)(h:cZ l):cZ c:=by
 have key:∀l:List _,cZ l↔(l.map pl).Pairwise (λa b=>aI a.1 b.1<=0):=λl=>by
  unfold cZ;rw[pairwise_map];rfl
 grind
def Ee{rs}(c:∀r∈rs,∀f∈r.fs,f.keys.length<=1000000){p:LN×Ag}(b:p∈de rs):p.1.length<=1000000:=by
 unfold de at b;obtain⟨r,d,b⟩:=mem_flatMap.1 b;obtain⟨f,e,rfl⟩:=mem_map.1 b;exact c r d f e
def KR{lo x}(h:cZ lo)(hx:∀f∈lo,aI f.keys x.keys<=0):cZ (lo++[x]):=by
 unfold cZ at*;grind
def Ev{x xs}(h:cZ (x::xs)):∀g∈x::xs,aI x.keys g.keys<=0:=by
 intro g b;obtain rfl|b:=mem_cons.1 b
 .rw[nX];simp
 .exact(pairwise_cons.1 h).1 g b
def I'{a c x xs}(hx:a.fs=x::xs)(r:Ordered (a::c))(h2:c.length<=1)(n:∀h∈a::c,cZ h.fs/\h.fs≠[]):∀h∈a::c,∀g∈h.fs,aI x.keys g.keys<=0:=by
 intro h d g e;obtain rfl|d:=mem_cons.1 d
 .have:=(n h s_).1;rw[hx]at this e;exact Ev this g e
 .obtain _|⟨b,_|⟨v,c⟩⟩:=c
  .cases d
  .obtain rfl:=mem_singleton.1 d;obtain⟨m,u⟩:=n h s_;rcases f:h.fs with _|⟨y,ys⟩
   .grind
   .have p:=r a h rfl;unfold jF at p;have s:hk h=y.keys:=by unfold hk;rw[f]
    have q:hk a=x.keys:=by unfold hk;rw[hx]
    rw[s,q,jU]at p;rw[f]at m e;exact sX o_ (Ev m g e)
  .grind
structure qM(r:Rn):Prop where
 sorted:cZ r.fs
 cap:r.fs.length<=r.c
 keys:∀f∈r.fs,f.keys.length<=1000000
 len:r.fs.length<=400000
def KY A rs c w(h2:rs.length<=2)(hr:iU w w.heap.size A rs)(ho:∀r∈rs,qM r) :
 Calls Tryz.prog 201 #[.slice A rs.length c] w (pa (de rs) w):=by
 have m0:=kp (show∀v l' w',(l'.map pl).Perm (de rs)->cZ _->bj _ _ v _->eC _ _->Below _ w _->pa _ w _ w' fromλv l' w' h1 h2 h3 h4 hb=>⟨v,l',rfl,h1,h2,h3,h4,hb⟩);have q5:=kp NR;have q9:=kp NS;generalize hQ:pa _ w=Q at*;obtain⟨m,F⟩:∃m,rs.length=m:=⟨_,rfl⟩;have Hm:=kp F;rw[F]at h2⊢;go_enter Tryz.func201,Tryz.ntmps201;go_wp2;go_loopw [12] (λg7 wr=>∃(k gr C:Nat)(I:List Hd),k<=m/\g7 = .int .i64 k/\I.length<=k/\kN wr w.heap.size (w.heap.size+1) gr C I/\(iY I).Perm (de (rs.take k))/\Below w.heap.size w wr) (λg7 _=>m-(intOf g7).toNat)
 case atStart=>
  refine⟨0,_,0,[],o_,rfl,o_,⟨⟨aa.lay s_,(World.ownsRow_made w _ 0 o_ o_ rfl).alloc _,o_⟩,s_,s_,o_,(λa b h=>r_),(λh L=>r_),o_⟩,o_,(bR.alloc o_ _).alloc s_ _⟩
 case round=>
  obtain⟨k,gr,C,I,hk,rfl,i5,(z:Kp _),(e7:Kp _),(G:Kp _)⟩:=hrel;by_cases o4:k<m
  .have a9:k<rs.length:=o_
   have k2:=(hr.row.below G);obtain⟨b,off,hA,hb,c0⟩:=Row.at_ k2 (k:=k) (by rw[lM];exact a9);rw[getElem_map]at c0;have q8:=(hr.each _ (gM a9)).below G;have d6:=ho _ (gM a9);have h0:=kp (show de (rs.take _)=de (rs.take k)++aw (rs[k]'a9).fs by unfold de;rw[take_succ_eq_append_getElem a9,flatMap_append];simp);rw[hA];generalize(rs[k]'a9)=r at*;unfold fy at c0;have u0:0<=(k:Int):=o_
   have u1:k<(m:Int):=o_
   by_cases hz:0<r.fs.length
   .have r7:0<(r.fs.length:Int):=o_
    have a3:=kp (show iS _ _ ⟨r.A,r.fs,r.c,k⟩from⟨q8,(λh=>r_),d6.keys,aF d6.len o_,d6.cap,o_⟩);obtain _|⟨a,I⟩:=I
    .have c6:=kp (q5 _ _ _ C _ ⟨r.A,r.fs,r.c,k⟩ _ (ae _) z.o.lo G.o.size z.o.heap);unfold gI jX at c6;go_wp2_with fail;refine c6.o.mono ?_;rintro e w1⟨rfl,⟨c8,c1,L,d2,f3⟩,V⟩;have e0:=kp (show kN _ _ _ _ _ _ from⟨L,s_,d2,f3,(λa b h=>r_),(λh F=>by obtain rfl:=mem_singleton.1 F;exact⟨a3.o.below V,d6.sorted⟩),o_⟩);have g9:=kp (G.o.trans V);go_wp2;refine⟨⟨k+1,_,_,_,o_,o_,s_,e0,?_,g9⟩,o_⟩;rw[h0,<-List.Perm.nil_eq (e7)];simp[iY]
    .have p8:I=[]:=by
      have:=z.o.two;obtain _|⟨b,I⟩:=I
      .rfl
      .grind
     subst p8;have c6:=kp (q9 _ _ _ C _ a _ _ o_ o_ G.o.size z.o.heap (z.o.each a s_).1 a3.o);unfold gI jX at c6;go_wp2_with fail;refine c6.o.mono ?_;rintro e w1⟨rfl,⟨c8,c1,x,y,j2,L,l4,d2,f3⟩,V⟩;have f9:∀h∈[x,y],h=a\/h=⟨r.A,r.fs,r.c,k⟩:=λh F=>r_
     have e0:=kp (show kN _ _ _ _ _ _ from⟨L,s_,d2,f3,(λp q h=>r_),(λh F=>by
      obtain rfl|rfl:=f9 h F
      .exact⟨(z.o.each _ s_).1.below V,(z.o.each _ s_).2⟩
      .exact⟨a3.o.below V,d6.sorted⟩),o_⟩)
     have g9:=kp (G.o.trans V);have p4:=kp (show(iY [x,y]).Perm (iY [a]++aw r.fs) by
      obtain⟨rfl,rfl⟩|⟨rfl,rfl⟩:=j2
      .simp[iY]
      .simp[iY];exact perm_append_comm)
     clear L V d2 f3 c0 c6 f9;go_wp2;refine⟨⟨k+1,_,_,_,o_,o_,o_,e0,?_,g9⟩,o_⟩;rw[h0];exact p4.o.trans (List.Perm.append_right _ e7)
   .have r7:¬ 0<(r.fs.length:Int):=o_
    have q7:r.fs=[]:=length_eq_zero_iff.1 o_;go_wp2;refine⟨⟨k+1,gr,C,I,by omega,by go_num,by omega,z.o,?_,G.o⟩,by simp[intOf];omega⟩;rw[h0.o,q7];simpa[aw]using e7.o
  .obtain rfl:k=m:=o_
   have f6:=kp (by have:=e7.o;rw[take_of_length_le (by rw[Hm.o];exact ae _)]at this;exact this);go_wp2;obtain⟨i0,n6,r4,r5,n7⟩:=info_parts mA;have j1:=kp (Ef o_ (λr hr=>(ho r hr).len));go_loopw [6,7] (λv6 _ wr=>∃(n gr C:Nat)(I:List Hd)(lo:List Fa)(Ao:OA)(co:Nat),v6 = .slice Ao n co/\lo.length=n/\kN wr w.heap.size (w.heap.size+1) gr C I/\(aw lo++iY I).Perm (de rs)/\cZ lo/\(∀f∈lo,∀h∈I,∀g∈h.fs,aI f.keys g.keys<=0)/\wr.ownsRow w.heap.size 89 11 (.slice Ao n co) n (lo.flatMap aV)/\(∀f∈lo,Row wr w.heap.size f.A (an f.keys))/\(Value.slice Ao n co).ownBlock≠some (w.heap.size+1)/\(Value.slice Ao n co).ownBlock≠some gr/\Below w.heap.size w wr) (λv6 _ _=>(de rs).length-(lenOf v6))
   case atStart=>exact⟨0,gr,C,I,[],none,0,rfl,rfl,z.o,by simpa[aw]using f6.o,List.Pairwise.nil,by simp,cK _ _ _ _,by simp,by simp[Value.ownBlock],by simp[Value.ownBlock],G.o⟩
   case round=>
    clear z f6 G;obtain⟨n,gr,C,I,lo,Ao,co,rfl,f2,H,e9,k8,i7,d5,k7,k1,k4,a1⟩:=hrel;obtain⟨c0,f0⟩:=H.heap.box.one;have HL:=kp (o5 (some ⟨gr,0,none⟩) I.length C wr);have u5:n<=800000:=by
     have h1:=e9.length_eq;have h3:=j1.o;rw[aE]at h1;unfold aw at h1;rw[lM]at h1;omega
    obtain _|⟨a,J⟩:=I
    .have n3:([]:List Hd).length=0:=rfl;rw[n3]at HL c0;go_wp2_with fail;refine HL.o.mono ?_;rintro e w1⟨rfl,rfl⟩;have i4:=kp (pH _ _ co _ o_ (λf u=>Ee (λr hr=>(ho r hr).keys) (e9.mem_iff.1 (mem_append_left _ (mem_map_of_mem u)))) ⟨dF o_,λf u=>(k7 f u).more a1.size⟩);rw[f2]at i4;go_wp2_with fail;refine i4.o.mono ?_;rintro e w2⟨v,l',rfl,e4,Z,g4,k0⟩;have g3:=yQ e4 k8;have m4:=a1.trans (k0.mono a1.size);have i3:=kp (m0 v _ _ (by rw[e4];have:=e9;simp[iY]at this;exact this) g3 ⟨dZ Z.1 a1.size,Z.2⟩ (λf u b off e p9=>aF a1.size (g4 f u b _ e p9)) m4);clear Z g4 k0 e4 g3 m4;go_wp2;exact i3
    .have W:=H.each a s_;have a2:J.length<=1:=by have:=H.two;simp at this;omega
     obtain⟨x,xs,hx⟩:∃x xs,a.fs=x::xs:=by
      rcases h:a.fs with _|⟨x,xs⟩
      .exact absurd h W.1.ne
      simp
     have a7:=W.1.jW;rw[hx]at a7;obtain⟨bx,ox,g6,u3,b0,b1,b2,b3,b4,b5,b6,b7,b8,b9,k3⟩:=a7.cells 0 (by simp);simp at b0 b1 b2 b3 b4 b5 b6 b7 b8 b9 k3;obtain⟨r0,o1⟩:=j9 H.heap.own (i:=0) (v:= .slice (some ⟨bx,ox,none⟩) (xs.length+1) a.c) r_;have g5:0<(xs.length:Int)+1:=o_
     have d7:xs.length+1<=a.c:=by have:=W.1.cap;rw[hx]at this;omega
     have f5:(a::J).length=J.length+1:=rfl;rw[f5]at HL c0;have u8:0<(J.length:Int)+1:=o_
     clear f5;go_wp2_with fail;refine HL.o.mono ?_;rintro e w1⟨rfl,rfl⟩;have q6:n+1<1048576*64:=o_
     have Hs:=kp a1.size;go_upto_region 12 with(at_builtin;refine je rfl _ _ _ rfl _ 89 _ _ _ _ Tryz.underlying34 n6 r4 r5 n7 rfl d_ _ (bC x) rfl (kV _) (.slice _ n _) n _ rfl d5 rfl q6 d_ Hs ?_;intro v5 w5 Y d8;obtain⟨A5,c5,h5⟩:=cI Y;subst h5;have h7:=kp Y;have a6:=kp d8;clear Y d8);obtain⟨o2,o7,l7⟩:=H.lt;have c7:=kp (a6.o.ew bR d5 o_ Hs);have d:=kp (H.aJ c7 (a6.o.bI o2 k1) (a6.o.bI o7 k4));obtain⟨r1,k5⟩:=j9 d.o.heap.own (i:=0) (v:= .slice _ (xs.length+1) _) (by show some (Value.slice a.A a.fs.length a.c)=_;rw[g6,hx];rfl);have T:=kp (a1.trans c7);have r6:=kp (I' hx H.ord a2 (λh L=>⟨(H.each h L).2,(H.each h L).1.ne⟩));have a5:=kp (KR k8 (λf u=>i7 f u a s_ x (by rw[hx];simp)));have e3:=kp (λf u h L g hg=>by
      obtain u|u:=mem_append.1 u
      .exact i7 f u h L g hg
      .rw[mem_singleton.1 u];exact r6 h L g hg)
     have d0:=kp (show∀a':Hd,a'.fs=xs->(aw (lo++[x])++iY (a'::J)).Perm _ fromλa' n8=>by
      refine List.Perm.trans ?_ e9;unfold iY aw;rw[flatMap_cons,flatMap_cons,n8,hx];simp)
     have f7:=kp (λf u=>by
      obtain u|u:=mem_append.1 u
      .exact(k7 f u).below c7
      .rw[mem_singleton.1 u];exact(a7.keys x s_).below c7)
     have c9:=kp (show w5.ownsRow _ _ _ (.slice _ _ _) _ ((lo++[x]).flatMap _) by rw[flatMap_append];exact h7);have s:=kp (show(Value.slice _ _ _).ownBlock≠some _/\(Value.slice _ _ _).ownBlock≠some _ by
      obtain hl|⟨k,hl,hk⟩:=a6.o.j4
      .rw[hl];exact⟨k1,k4⟩
      .rw[hl];exact⟨λe=>by(have e2:k=w.heap.size+1:=by injection e);omega,λe=>by(have e2:k=gr:=by injection e);omega⟩)
     clear r0 o1 c0 f0 b0 b1 b2 b3 b4 b5 b6 b7 b8 b9 k3;obtain _|⟨x',xs⟩:=xs
     .simp only[length_nil,Nat.zero_add]at r1 d7 g5;go_upto_region 13 with fail;generalize u4:(if a.c=1 then(some _:OA)else some _)=Az;have U:=kp (show dj (w5.setCell _ (.slice Az 0 (a.c-1))) _ _ _ C (⟨_,[],_,a.no⟩::J)from⟨d.o.heap.box.aJ d.o.heap.ne _,dG d.o.heap.own (i:=0) s_ _,d.o.heap.ne⟩);have M:=kp (show Below _ _ (w5.setCell ⟨_,0,none⟩ (.slice Az 0 (a.c-1)))from bR.setCell l7 _);have a4:=kp (c9.o.kept (grownBy_setCell' _ _ (.slice Az 0 (a.c-1))) (.inr s.2));obtain⟨q0,p5⟩:=j9 U.o.own (i:=0) (v:= .slice Az 0 (a.c-1)) rfl;generalize n5:w5.setCell _ _=w6 at*;have O:=kp (show∀B D,dj B w.heap.size (w.heap.size+1) gr C D->D=J->aq (λk=>k=w.heap.size+1\/k=gr) _ B->kN B _ _ _ C J/\B.ownsRow _ _ _ _ _ _/\(∀f∈lo++[x],Row B _ f.A (an f.keys))/\Below _ w B fromλB D L e ht=>by
       subst e;have X:=M.o.trans (ht.toBelow (λk e=>o_) (aF T.o.size M.o.size));refine⟨⟨L,o_,by have:=d.o.cap;simp at this;omega,d.o.cm,λp q e=>by rw[e]at a2;simp at a2,λh F=>⟨(d.o.each h (mem_cons_of_mem _ F)).1.below X,(d.o.each h (mem_cons_of_mem _ F)).2⟩,o_⟩,?_,λf u=>(f7 f u).below X,T.o.trans X⟩;obtain⟨h1,h3⟩:=a4.o;refine⟨h1,?_⟩;obtain h3|⟨g,cap,cur,q1,q2,q3,q4⟩:=h3
       .omega
       .refine .inr ⟨g,_,_,q1,q2,(ht.block g (Array.getElem?_eq_some_iff.1 q3).1 (λe=> ?_)).trans q3,q4⟩;obtain rfl|rfl:=e
        .exact s.o.1 (by rw[q1];rfl)
        .exact s.2 (by rw[q1];rfl))
      have d9:=kp (show(aw (lo++[x])++iY J).Perm _ by
       have:=d0 ⟨none,_,0,0⟩ rfl;simpa[iY,aw]using this)
      have f8:=kp (show∀f∈lo++[x],∀h∈J,∀g∈h.fs,aI f.keys g.keys<=0 fromλf u h L=>e3.o f u h (mem_cons_of_mem _ L));have a0:(lo++[x]).length=n+1:=by rw[aE,f2];rfl
      have l0:=kp a0;have i8:n+1<=(de rs).length:=by
       have h1:=d9.o.length_eq;rw[aE]at h1;unfold aw at h1;rw[lM,a0]at h1;omega
      clear r1 k5 a0;obtain _|⟨b,J⟩:=J
      .have N:=kp (NI _ _ _ C _ _ (by have:=d.o.cap;omega) d.o.cm U.o);unfold gI at N;go_wp2_with fail;refine N.o.mono ?_;rintro e B⟨v,rfl,d1,d3⟩;have E:=kp (O.o B _ d1 rfl d3);go_wp2_with fail;refine⟨⟨n+1,gr,C,[],lo++[x],A5,c5,rfl,l0.o,E.o.1,d9.o,a5.o,f8.o,E.o.2.1,E.o.2.2.1,s.o.1,s.o.2,E.o.2.2.2⟩,by simp[lenOf];omega⟩
      .have d4:J=[]:=length_eq_zero_iff.1 (by simp at a2;exact a2▸rfl);subst d4;have N:=kp (NJ _ _ _ C _ b _ (by have:=d.o.cap;omega) d.o.cm U.o);unfold gI at N;go_wp2_with fail;refine N.o.mono ?_;rintro e B⟨v,rfl,d1,d3⟩;have E:=kp (O.o B _ d1 rfl d3);go_wp2_with fail;refine⟨⟨n+1,gr,C,[b],lo++[x],A5,c5,rfl,l0.o,E.o.1,d9.o,a5.o,f8.o,E.o.2.1,E.o.2.2.1,s.o.1,s.o.2,E.o.2.2.2⟩,by simp[lenOf];omega⟩
     .have i6:(x'::xs).length=xs.length+1:=rfl;rw[i6]at r1 d7 g5;have d2:¬a.c=1:=o_
      clear i6;go_upto_region 13 with fail;have U:=kp (show dj (w5.setCell _ (.slice (some ⟨bx,ox+11,none⟩) (xs.length+1) (a.c-1))) _ _ _ C (⟨_,x'::xs,_,a.no⟩::J)from⟨d.o.heap.box.aJ d.o.heap.ne _,dG d.o.heap.own (i:=0) s_ _,d.o.heap.ne⟩);have M:=kp (show Below _ _ (w5.setCell ⟨_,0,none⟩ (.slice (some ⟨bx,ox+11,none⟩) (xs.length+1) (a.c-1)))from bR.setCell l7 _);have a4:=kp (c9.o.kept (grownBy_setCell' _ _ (.slice (some ⟨bx,ox+11,none⟩) (xs.length+1) (a.c-1))) (.inr s.2));obtain⟨q0,p5⟩:=j9 U.o.own (i:=0) (v:= .slice (some _) (xs.length+1) (a.c-1)) rfl;generalize n5:w5.setCell _ _=w6 at*;have a3:=kp (show iS _ _ ⟨_,_,a.c-1,a.no⟩/\cZ _ from⟨⟨(bM.tail (by have:=a7;rw[g6]at this;omega)).below (c7.o.trans M),s_,λf u=>W.1.keys f (by rw[hx];exact mem_cons_of_mem _ u),by have:=W.1.len;rw[hx]at this;simp at this⊢;omega,o_,W.1.no⟩,by have:=W.2;rw[hx]at this;exact(pairwise_cons.1 this).2⟩);have O:=kp (show∀B D,dj B w.heap.size (w.heap.size+1) gr C D->Ordered D->D.Perm (⟨some ⟨bx,ox+11,none⟩,x'::xs,a.c-1,a.no⟩::J)->aq (λk=>k=gr) _ B->kN B _ _ _ C D/\(aw _++iY D).Perm _/\(∀f∈lo++[x],∀h∈D,∀g∈h.fs,aI _ g.keys<=0)/\B.ownsRow _ _ _ _ _ _/\(∀f∈lo++[x],Row B _ _ _)/\Below _ w B fromλB D L p6 hp ht=>by
       have g0:=ht.toBelow (λk e=>o_) (aF T.o.size M.o.size);have X:=M.o.trans g0;refine⟨⟨L,by rw[hp.length_eq];simp;omega,by rw[hp.length_eq];have:=d.o.cap;simp at this⊢;omega,d.o.cm,p6,λh F=> ?_,o_⟩,?_,λf u h F g hg=> ?_,?_,λf u=>(f7 f u).below X,T.o.trans X⟩
       .obtain rfl|F:=mem_cons.1 (hp.mem_iff.1 F)
        .exact⟨a3.1.below g0,a3.2⟩
        .exact⟨(d.o.each h (mem_cons_of_mem _ F)).1.below X,(d.o.each h (mem_cons_of_mem _ F)).2⟩
       .refine List.Perm.trans (List.Perm.append_left _ ?_) (d0 ⟨some ⟨bx,ox+11,none⟩,_,a.c-1,a.no⟩ rfl);unfold iY;exact hp.flatMap_right _
       .obtain rfl|F:=mem_cons.1 (hp.mem_iff.1 F)
        .exact e3 f u a s_ g (by rw[hx];exact mem_cons_of_mem _ hg)
        .exact e3 f u h (mem_cons_of_mem _ F) g hg
       .obtain⟨h1,h3⟩:=a4.o;refine⟨h1,?_⟩;obtain h3|⟨g,cap,cur,q1,q2,q3,q4⟩:=h3
        .omega
        .refine .inr ⟨g,_,_,q1,q2,(ht.block g (Array.getElem?_eq_some_iff.1 q3).1 (λe=> ?_)).trans q3,q4⟩;subst e;exact s.2 (by rw[q1];rfl))
      have a0:(lo++[x]).length=n+1:=o_
      have i8:n+1<=(de rs).length:=by
       have h1:=(d0 ⟨none,_,0,0⟩ rfl).length_eq;rw[aE]at h1;unfold aw at h1;rw[lM,a0]at h1;omega
      clear r1 k5;have s5:((xs.length:Int)+1 == 0)=false:=o_
      obtain _|⟨b,J⟩:=J
      .have R:=kp (J0 _ _ _ C _ _ U);unfold gI at R;go_wp2_with fail;refine R.o.mono ?_;rintro e B⟨rfl,rfl⟩;have E:=kp (O _ _ U (λp q e=>by simp at e) (List.Perm.refl _) (aq.refl _ _));go_wp2;refine⟨⟨n+1,gr,C,_,lo++[x],A5,c5,rfl,a0,E.o.1,E.o.2.1,a5.o,E.o.2.2.1,E.o.2.2.2.1,E.o.2.2.2.2.1,s.o.1,s.o.2,E.o.2.2.2.2.2⟩,by simp[lenOf];omega⟩
      .have d4:J=[]:=length_eq_zero_iff.1 (by simp at a2;exact a2▸rfl);subst d4;have R:=kp (J1 _ _ _ C _ _ b _ U a3.1 ((d.o.each b s_).1.below M) (aF T.o.size M.o.size));unfold gI at R;go_wp2_with fail;refine R.o.mono ?_;rintro e B⟨rfl,p,q,p0,d1,k6,d3⟩;have E:=kp (O B _ d1 (λp' q' e=>by injection e with e1 e2;injection e2 with e2;subst e1 e2;omega) (by obtain⟨rfl,rfl⟩|⟨rfl,rfl⟩:=p0;rfl;exact List.Perm.swap _ _ _) d3);go_wp2;refine⟨⟨n+1,gr,C,[p,q],lo++[x],A5,c5,rfl,a0,E.o.1,E.o.2.1,a5.o,E.o.2.2.1,E.o.2.2.2.1,E.o.2.2.2.2.1,s.o.1,s.o.2,E.o.2.2.2.2.2⟩,by simp[lenOf];omega⟩
end Tc
end Go.Proofs.YtibjlpkpljnicaaGreatDoor
