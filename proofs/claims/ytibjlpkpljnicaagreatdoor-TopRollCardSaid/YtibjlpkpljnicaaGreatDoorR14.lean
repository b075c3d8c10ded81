/- Parts. -/
import Derived.Test.YtibjlpkpljnicaaGreatDoorR12
set_option maxRecDepth 100000
set_option maxHeartbeats 8000000
set_option linter.all false
namespace Go.Proofs.YtibjlpkpljnicaaGreatDoor
namespace Tc
open List Go.RowKit Base Go.Proofs.Tryz
def rH{w:World}{B sz n c:Nat}{e:TypeId}{A:OA}{xs:LV}(h:w.ownsRow B e sz (U A n c) n xs):n<=c:=by
 obtain⟨h1,h2⟩|⟨g,cap,cur,h1,_,_,h2,_⟩:=h.2
 .omega
 grind
def FI(p:aQ)(w:World)(e:Ending)(w':World):Prop:=∃n:Nd,e = .returned (.agg (aZ n))/\aK n=p/\du w' w'.heap.size n/\gW w.heap.size n/\E w w'/\∀l∈n.ls,l.cs.length<=l.c
abbrev jx(l:Ll):Value:= U l.A l.cs.length l.c
structure Cz(w:World)(B:Nat)(A:OA)(c:Nat)(ls:List Ll):Prop where
 row:w.ownsRow B 223 1 (U A ls.length c) ls.length (ls.map dq)
 own:∀l∈ls,w.ownsRow B 155 12 (jx l) l.cs.length (l.cs.flatMap ch)
 apart:ls.Pairwise λl l'=>∀b,(jx l).ownBlock=some b->(jx l').ownBlock≠some b
def rJ{w:World}{B e sz n b:Nat}{v:Value}{xs:LV}(h:w.ownsRow B e sz v n xs)(c:v.ownBlock=some b):∃cs,w.heap[b]? = some (.cells cs e (0,0)):=by
 obtain⟨h0,_⟩|⟨g,cap,cur,h0,_,d,_⟩:=h.2
 .rw[h0]at c;cases c
 .rw[h0]at c;injection c with c;grind
def u9{w:World}{B r e g sz c n p:Nat}{v m:Value}{xs f:LV}(h:w.ownsRow B e sz v n xs)(h':w.ownsRow r g c m p f)(d:e≠g):v.ownBlock=none\/v.ownBlock≠m.ownBlock:=by
 cases s:v.ownBlock with
 |none=>simp
 |some b=>
  refine .inr λq=>d ?_;obtain⟨c1,h1⟩:=rJ h s;obtain⟨c2,h2⟩:=rJ h' q.symm;grind
def Cz.nil(w:World)(B:Nat):Cz w B none 0 []:=⟨cK _ _ _ _,λx hx=>r_,List.Pairwise.nil⟩
def Cz.below{w w':World}{B c:Nat}{A:OA}{ls:List Ll}(h:Cz w B A c ls)(b:E w w'):Cz w' B A c ls:=⟨bS h.row b,λl d=>bS (h.own l d) b,h.apart⟩
def Cz.aJ{w:World}{B c:Nat}{A:OA}{ls:List Ll}(h:Cz w B A c ls){p:Addr}(b:p.block<B)(u:Value):Cz (w.setCell p u) B A c ls:=⟨l5 h.row b u,λl d=>l5 (h.own l d) b u,h.apart⟩
def Cz.base{w:World}{B b c:Nat}{A:OA}{ls:List Ll}(h:Cz w B A c ls)(d:b<=B):Cz w b A c ls:=⟨dZ h.row d,λl e=>dZ (h.own l e) d,h.apart⟩
def Cz.app{f w w':World}{B c q m n:Nat}{A g:OA}{ls:List Ll}{l:Ll}(h0:Cz f B A c ls)(C:E f w)(r:w.ownsRow m 155 12 (jx l) l.cs.length (l.cs.flatMap ch))(z:f.heap.size<=m)(D:B<=m)(y:ls.length=n)
 (v:w'.ownsRow B 223 1 (U g (n+1) q) (n+1) (ls.map dq++[dq l]))(s:App w w' (U A n c) (U g (n+1) q)):Cz w' B g q (ls++[l]):=by
 subst y;have h:=h0.below C;have d:155≠223:=d_;refine⟨?_,λx hx=> ?_,pairwise_append.2 ⟨h.apart,pairwise_singleton _ _,λa u b p=> ?_⟩⟩
 .grind
 .obtain hx|hx:=mem_append.1 hx
  .exact(h.own x hx).kept s.grown (u9 (h.own x hx) h.row d)
  .rw[mem_singleton.1 hx];exact dZ (r.kept s.grown (u9 r h.row d)) D
 .rw[mem_singleton.1 p];intro k hk e;have h1:=((h0.own a u).lt k hk).2;have h2:=(r.lt k e).1;omega
def vf(p:aQ)(w:World)(e:Ending)(w':World):Prop:=∃n:Nd,e = .returned (.agg (aZ n))/\aK n=p/\du w' w'.heap.size n/\gW w.heap.size n/\E w w'/\(∀l∈n.ls,l.cs.length<=l.c)/\Cz w' w.heap.size n.A n.c n.ls
def CG(n:Nd)(w:World)(hr:du w w.heap.size n)(f1:n.ls.length<=4)(hl:∀l∈n.ls,l.cs.length<=1000000) :
 Calls prog 113 #[.agg (aZ n)] w (vf (aK n) w):=by
 obtain⟨aj,y,ls,z,key,child,ac,s0,n0,x0,s1,n1,x1,s2,n2,x2⟩:=n;obtain⟨i0,i8,i9,h7,k8⟩:=info_parts xm;have HC:=J Ig;have HQ:Kp (∀A c u w',(u.map Ll.cs=ls.map Ll.cs/\∀l∈u,l.cs.length<=l.c)->db _ _ (U A u.length c) u->Cz _ _ A c u->E w _->vf (aK ⟨aj,y,ls,z,key,child,ac,s0,n0,x0,s1,n1,x1,s2,n2,x2⟩) w (.returned (.agg #[N aj,U A u.length c,N key,N child,I ac,I s0,I n0,I x0,I s1,I n1,I x1,I s2,I n2,I x2])) w'):=λA c u w' h1 h2 D G=>
  ⟨⟨_,A,u,c,_,_,_,_,_,_,_,_,_,_,_,_⟩,rfl,by unfold aK;grind,⟨h2.at_.1,h2.at_.2⟩,h2.from_,G,h1.2,D⟩
 dsimp only at f1 hl;have Hl:=J hl;dsimp only[aZ];generalize u:vf _ w=Q at*;clear u hl;obtain⟨lx,u⟩:=e_ ls.length;have f6:=J u;rw[u]at f1⊢;clear u;have e0:=(ah _ w).alloc (ae _) (.cells #[N aj,U y lx z,N key,N child,I ac,I s0,I n0,I x0,I s1,I n1,I x1,I s2,I n2,I x2] 157);have d9:=aa.new w 157 #[N aj,U y lx z,N key,N child,I ac,I s0,I n0,I x0,I s1,I n1,I x1,I s2,I n2,I x2];have Hr:=J hr;generalize V:w.alloc _=u at*;have G:u.heap.size=w.heap.size+1:=by rw[<-V];simp
 have D:=e0.alloc o_ (.cells zN 157);have L:=aa.lay (t:=157) (cs:=zN) G;have y:=d9.alloc (.cells zN 157);generalize d0:u.alloc _=u at*;have O:u.heap.size=w.heap.size+1+1:=by rw[<-d0];simp[G]
 have z:=(aa.bK y).1;have g0:=D.alloc o_ (.cells #[N aj,Z,N key,N child,I ac,I s0,I n0,I x0,I s1,I n1,I x1,I s2,I n2,I x2] 157);have d8:=aa.lay (t:=157) (cs:=#[N aj,Z,N key,N child,I ac,I s0,I n0,I x0,I s1,I n1,I x1,I s2,I n2,I x2]) O;have Y:=L.alloc (.cells #[N aj,Z,N key,N child,I ac,I s0,I n0,I x0,I s1,I n1,I x1,I s2,I n2,I x2] 157);have a1:=y.alloc (.cells #[N aj,Z,N key,N child,I ac,I s0,I n0,I x0,I s1,I n1,I x1,I s2,I n2,I x2] 157);generalize e6:u.alloc _=u at*
 obtain⟨i7,k3,u,i4⟩:=j4_ d8 Y a1 g0;clear e0 d9 hr D L y g0 d8 Y a1;go_in;go_upto_region 2 with fail;clear V d0 e6 G O z;have z:=(aa.bK u).1;go_wp2;clear z;go_loopw [14] (λu wr=>∃(k:Nat)(xs:List Ll)(A:OA)(c:Nat),k<=lx/\u = I k/\xs.length=k/\(xs.map Ll.cs=(ls.take k).map Ll.cs/\∀l∈xs,l.cs.length<=l.c)/\aa wr (w.heap.size+1) 157 zN/\aa wr (w.heap.size+1+1) 157 #[N aj,U A k c,N key,N child,I ac,I s0,I n0,I x0,I s1,I n1,I x1,I s2,I n2,I x2]/\db wr (w.heap.size+1+1+1) (U A k c) xs/\Cz wr (w.heap.size+1+1+1) A c xs/\E w wr) (λu _=>lx-(intOf u).toNat)
 case atStart=>exact⟨0,_,_,0,o_,rfl,rfl,⟨rfl,λx hx=>r_⟩,k3,i7,db.nil _ _,Cz.nil _ _,i4⟩
 .obtain⟨k,xs,A,c,hk,rfl,O,u,f9,e5,z,d7,y⟩:=hrel;obtain⟨f2,R,V,b7,D,G,L⟩:=j7_ d7 O u f9 e5 z y;clear O u f9 e5 z y d7;by_cases u:k<lx
  .have d:k<ls.length:=by rw[f6];omega
   have y:=Hr.below L;obtain⟨bl,u,z,u,u⟩:=Row.at_ y.row (by rw[lM];exact d);rw[getElem_map]at u;dsimp only at z;subst z;have k4:=Hl _ (gM d);have O:=J (λW(z:E _ W)=>HC _ (ls[k]'d).c _ W k4 ((((y.each _ (gM d)).more L.size).below z).more z.size));have m0:Kp (∀l:Ll,l.cs=(ls[k]'d).cs->(xs++[l]).map _=(ls.take _).map _):=(λl hl=>by rw[take_succ_eq_append_getElem,map_append,map_append,V.1,map_cons,map_nil,map_cons,map_nil,hl]);clear y;unfold dq at u;generalize(ls[k]'d).A=y at*;generalize y:(ls[k]'d).cs=cs at*;clear y;obtain⟨dl,y⟩:=e_ cs.length;have X:=J y;rw[y]at u O;clear y;generalize(ls[k]'d).c=y at*;have y:0<=(k:Int):=o_;have y:k<(lx:Int):=o_;go_upto_region 5 with fail;clear u;obtain⟨⟨_,y,_⟩,⟨_,u,_⟩⟩:=aa.bK D;have T:=D.lt;apply wp_region_noPanic;refine br (t:=7) (S:=(λw'=>C w' _ 1 _/\w'.frozen? _=false)) k_ ⟨y,u⟩ (λb=> ?_);apply eR 0 1 2 b;refine oT 3 λK hK=>?_;go_simp;apply(O _ bR.drew).mono;rintro e w4⟨y,rfl,s,z⟩;obtain⟨A4,y,rfl⟩:=cI s;have m:=J s;have r:Kp (E wr _):=bR.drew.trans z;clear s z;refine oK hK ?_ λb=>?_
   .exact⟨al r b.1,by rw[iJ r _ _ T];omega⟩
   have q:=bh T r.size;have z:=J (G.below r);have f3:=J (show cs.length<=y by rw[X];exact rH m);obtain⟨HN,h6,d3,f0,d2⟩:=j5_ (Ap.new m (λj u=>(G.1.lt j u).2)) (eB.own (B0:=w.heap.size+1+1+1) m T) (D.under r) (b7.under r) (L.trans (r.mono o_));have g:=J (by have:=z.1;rw[R]at this;omega);have k9:k<1048576*64:=o_;have O:Kp (∀j,j<w.heap.size+1+1+1->(Value.slice A k c).ownBlock≠some j):=(λj u u=>by have:=(g.lt j u).1;omega);refine oT 4 λK hK=>?_;go_simp;refine oK hK ?_ λb=>?_
   .exact⟨al (bR.alloc o_ _) b.1,by rw[iJ (bR.alloc o_ _) _ _ q];exact b.2⟩
   refine oT 5 λK hK=>?_;apply jq rfl _ _ _ rfl _ 223 _ _ _ underlying153 i8 i9 h7 k8 rfl _ _ rfl (U A k c) k _ rfl g rfl k9 d_ q;intro u w5 u B;obtain⟨A5,c5,h5⟩:=bY u;subst h5;have H:=J u;have f:=J B;clear u B;go_simp;refine oK hK ?_ λb=>?_
   .have u:=(f.bI q (O _ o_));have e2:=(Below.heap_alloc _ (.cells #[U A4 dl y] 223) _ q);exact⟨(bF (u.trans e2.symm)).trans b.1,by have h:=b.2;unfold World.frozen? at h⊢;grind⟩
   apply tk 6 b;refine fC (o:= ?op7) k_ ?ap7 k_ (λK hK=> ?bp7)
   case ap7=>rfl
   obtain⟨h0,u⟩:=b;go_simp;apply hK.out _ _;clear hK K;apply NoPanic.normal
   have u:=J (db.app (l:=⟨_,_,y⟩) z HN h6 (by unfold dq;rw[X];exact H) f R);have z:=J (Cz.app (l:=⟨_,_,y⟩) f2 r (by unfold jx;dsimp only;rw[X];exact m) o_ o_ R (by unfold dq;rw[X];exact H) f);have i3:w.heap.size+1≠w.heap.size+1+1:=o_;go_wp2;refine⟨⟨_,xs++[⟨A4,_,y⟩],A5,c5,o_,o_,by rw[aE,R];rfl,⟨m0 _ rfl,λx hx=>(mem_append.1 hx).elim (V.2 x) (λe=>by rw[mem_singleton.1 e];exact f3)⟩,?_,?_,?_,?_,?_⟩,o_⟩
   .exact(Below.heap_setCell _ _ _ _ i3).trans ((f.bI o_ (O _ o_)).trans f0)
   .exact aa.set ((f.bI q (O _ o_)).trans d3) 1 _
   .exact u.aJ s_ _
   .exact z.aJ s_ _
   .exact(f.below d2 g o_ o_).setCell o_ _
  .obtain rfl:k=lx:=o_;obtain⟨c0,c1,c2,c3,y,c5,y,y,y,y,y,y,y,y⟩:=(aa.bK D).1;obtain⟨⟨q0,q1,q2,q3,z,O,q6,q7,q8,q9,a6,b2,b4,D⟩,y⟩:=aa.bK b7;have u:=J (HQ A c xs);rw[R]at u;have a9:=J (by have:=V.1;rw[take_of_length_le (by rw[f6];omega)]at this;omega);obtain⟨y,F⟩:=e_ (aH wr (w.heap.size+1) 0 [.int .i64 aj,.slice A k c,.int .i64 key,.int .i64 child,.int .i64 ac,.int .i64 s0,.int .i64 n0,.int .i64 x0,.int .i64 s1,.int .i64 n1,.int .i64 x1,.int .i64 s2,.int .i64 n2,.int .i64 x2]);have j1:=J (show db y w.heap.size _ _ by
    rw[<-F];exact((((((((((((((G.aJ o_ _).aJ o_ _).aJ o_ _).aJ o_ _).aJ o_ _).aJ o_ _).aJ o_ _).aJ o_ _).aJ o_ _).aJ o_ _).aJ o_ _).aJ o_ _).aJ o_ _).aJ o_ _).base o_)
   have G:=J (show Cz y w.heap.size A c _ by
    rw[<-F];exact((((((((((((((f2.aJ o_ _).aJ o_ _).aJ o_ _).aJ o_ _).aJ o_ _).aJ o_ _).aJ o_ _).aJ o_ _).aJ o_ _).aJ o_ _).aJ o_ _).aJ o_ _).aJ o_ _).aJ o_ _).base o_)
   have l7:=J (show E w y by rw[<-F];exact fq o_ _ _ _ L);have E:=J (show aa y _ _ #[N _,U A k c,N _,N _,I _,I _,I _,I _,I _,I _,I _,I _,I _,I _] by rw[<-F];exact dS b7 _ rfl);simp only[aH,Nat.zero_add,Nat.reduceAdd]at F;go_wp2;clear q0 q1 q2 q3 z O q6 q7 q8 q9 a6 b2 b4 D;obtain⟨q0,q1,q2,q3,z,O,q6,q7,q8,q9,a6,b2,b4,D⟩:=(aa.bK E).1;refine bodyPost_ret (by simp[results,go_sem,q0,q1,q2,q3,z,O,q6,q7,q8,q9,a6,b2,b4,D]) rfl (u _ ⟨a9,V.2⟩ j1 G l7)
def xU(n:Nd)(w:World)(g:du w w.heap.size n)(b:n.ls.length<=4)(p:∀l∈n.ls,l.cs.length<=1000000) :
 Calls prog 113 #[.agg (aZ n)] w (FI (aK n) w):=by
 apply(CG n w g b p).mono;rintro e w'⟨c,h1,h2,q,d,f,m,_⟩;exact⟨c,h1,h2,q,d,f,m⟩
def ik{α:Type}(g:α->α)(k:Nat)(l:List α):List α:=(l.take k).map g++l.drop k
section
variable{α:Type}{g:α->α}{k:Nat}{l:List α}
def qv:(ik g k l).length=l.length:=by
 unfold ik;grind
def uE(hk:k<l.length):(ik g k l)[k]'(by rw[qv];omega)=l[k]:=by
 unfold ik;grind
def E'(hk:k<l.length):(ik g k l).set k (g l[k])=ik g (k+1) l:=by
 unfold ik;have b:((l.take k).map g).length=k:=o_
 rw[take_succ_eq_append_getElem,map_append,map_cons,map_nil,append_assoc,singleton_append,set_append_right _ _ o_,b,Nat.sub_self,drop_eq_getElem_cons hk,set_cons_zero]
def EZ(hk:k=l.length):ik g k l=l.map g:=by
 subst hk;unfold ik;simp
end
def eY(f:Nat->Nat)(c:Cl):Cl:=⟨c.key,f c.child,c.ag⟩
def lP(f:Nat->Nat)(l:Ll):Ll:=⟨l.A,l.cs.map (eY f),l.c⟩
def cH(last:Bool)(f:Nat->Nat)(p:aQ):aQ:=if last=true then p else⟨p.aj,p.lists.map λl=>l.map (eY f),eY f p.all⟩
def u7{w:World}{B e sz n v xs}(h:w.ownsRow B e sz v n xs){p}(d:v.ownBlock≠some p.block) u:(w.setCell p u).ownsRow B e sz v n xs:=by
 obtain⟨h1,h2⟩:=h;refine⟨h1,?_⟩;obtain h2|⟨g,cap,cur,b,f,c,r⟩:=h2
 .grind
 .refine .inr ⟨g,_,_,b,f,?_,r⟩;rw[Below.heap_setCell _ _ _ _ (λe=>d (by rw[b,<-e];rfl))];omega
def pX{w B e sz n g t cs v xs}(h:w.ownsRow B e sz v n xs)(d:aa w g t cs)(b:e≠t):v.ownBlock≠some g:=by
 intro c;obtain⟨c1,h1⟩:=rJ h c;rw[d]at h1;grind
def MN{w:World}{B e sz n g v xs}(h:w.ownsRow B e sz v n xs)(b:v.ownBlock=some g) o:w.frozen? (M g o)=false:=by
 obtain⟨cs,h1⟩:=rJ h b;simp[World.frozen?,h1]
def Cz.box{w B c g i t cs A ls}(h:Cz w B A c ls)(b:aa w g t cs)(h1:223≠t)(h2:155≠t) u:Cz (w.setCell (M g i) u) B A c ls:=
 ⟨u7 h.row (pX h.row b h1) u,λl d=>u7 (h.own l d) (pX (h.own l d) b h2) u,h.apart⟩
def Cz.all{B c g t A ls}(h1:223≠t)(h2:155≠t):∀(b:LV)(w:World)(o:Nat)(cs:AV),aa w g t cs->Cz w B A c ls->Cz (aH w g o b) B A c ls
 | [],_,_,_,_,h=>h
 |v::b,w,o,cs,d,h=>Cz.all h1 h2 b _ (o+1) _ (d.set o v) (h.box d h1 h2 v)
def AN:∀(cs:List Cl)(j:Nat)(b:j<cs.length)(u:Nat),(cs.flatMap ch).set (j*12+1) (N u)=(cs.set j ⟨cs[j].key,u,cs[j].ag⟩).flatMap ch
 | [],j,b,u=>absurd b (Nat.not_lt_zero _)
 |c::cs,0,b,u=>rfl
 |c::cs,j+1,b,u=>by
  rw[flatMap_cons,set_append_right _ _ o_,mr,show(j+1)*12+1-12=j*12+1 by omega,AN _ j (Nat.lt_of_succ_lt_succ b) u];rfl
def Cz.store{w B c k j g A ls}(h:Cz w B A c ls)(hk:k<ls.length)(D:j<ls[k].cs.length)(d:(jx ls[k]).ownBlock=some g) u :
 Cz (w.setCell (M g (j*12+1)) (N u)) B A c (ls.set k ⟨ls[k].A,ls[k].cs.set j ⟨ls[k].cs[j].key,u,ls[k].cs[j].ag⟩,ls[k].c⟩):=by
 have m:=pairwise_iff_getElem.1 h.apart;have z:((ls.set k ⟨ls[k].A,ls[k].cs.set j ⟨ls[k].cs[j].key,u,ls[k].cs[j].ag⟩,ls[k].c⟩).map dq)=ls.map dq:=by
  rw[map_set];refine ext_getElem s_ λi h1 h2=> ?_;rw[getElem_set];split
  .rename_i e;subst e;rw[getElem_map];unfold dq;simp
  .rfl
 have x:((ls.set k ⟨ls[k].A,ls[k].cs.set j ⟨ls[k].cs[j].key,u,ls[k].cs[j].ag⟩,ls[k].c⟩).map jx)=ls.map jx:=by
  rw[map_set];refine ext_getElem s_ λi h1 h2=> ?_;rw[getElem_set];split
  .grind
  .rfl
 have n:223≠155:=d_;refine⟨?_,λl q=> ?_,?_⟩
 .rw[length_set,z];refine u7 h.row (λe=> ?_) _;obtain h0|h0:=u9 h.row (h.own _ (gM hk)) n
  .grind
  grind
 .obtain⟨i,hi,rfl⟩:=getElem_of_mem q;rw[length_set]at hi;rw[getElem_set];split
  .have f:=h.own _ (gM hk);unfold jx;dsimp only;rw[length_set,<-AN];obtain⟨h0,C⟩|⟨E,cap,cur,r,_⟩:=f.2
   .omega
   .unfold jx at f r d;rw[r]at f d⊢;injection d with d;subst d;exact dG f r_ _
  .rename_i p;refine u7 (h.own _ (gM hi)) (λe=> ?_) _;grind
 .have s:(ls.map jx).Pairwise λv y=>∀b,v.ownBlock=some b->y.ownBlock≠some b:=pairwise_map.2 h.apart;grind
def sx(p:aQ)(w:World)(e:Ending)(w':World):Prop:=∃n:Nd,e = .returned (.agg (aZ n))/\aK n=p/\du w' w'.heap.size n/\E w w'
def Cz.node{w:World}{B c:Nat}{A:OA}{ls:List Ll}(h:Cz w B A c ls)(aj:Nat)(all:Cl):du w w.heap.size ⟨aj,A,ls,c,all⟩:=⟨dF h.row,λl hl=>dF (h.own l hl)⟩
def Cz.same{w:World}{B c:Nat}{A:OA}{ls ls':List Ll}(h:Cz w B A c ls)(e:ls=ls'):Cz w B A c ls':=e▸h
def MK{w:World}{B j lc:Nat}{lA:OA}{cs:List Cl}(h:w.ownsRow B 155 12 (U lA cs.length lc) cs.length (cs.flatMap ch))(hj:j<cs.length):∃g,lA=some ⟨g,0,none⟩/\C w g (j*12+1) (I (cs[j].child:Nat)):=by
 obtain⟨_,h0⟩|⟨g,cap,cur,hv,_⟩:=h.2
 .omega
 .injection hv with hA _ _
  obtain⟨b,off,e,_,_,c1,_⟩:=nV (dF h) j hj;rw[hA]at e;injection e with e
  injection e with e1 e2 _
  subst e1 e2;rw[Nat.zero_add]at c1;exact⟨g,hA,c1⟩
def Cz.put{w:World}{B c k j g:Nat}{A:OA}{ls:List Ll}{l:Ll}{x:Cl}(h:Cz w B A c ls)(hk:ls[k]? = some l)(hj:l.cs[j]? = some x)(hg:(jx l).ownBlock=some g)(u:Nat) :
 Cz (w.setCell (M g (j*12+1)) (N u)) B A c (ls.set k ⟨l.A,l.cs.set j ⟨x.key,u,x.ag⟩,l.c⟩):=by
 obtain⟨hk',rfl⟩:=aO hk;obtain⟨hj',rfl⟩:=aO hj;exact h.store hk' hj' hg u
def L7(A:OA)(nx c m fn:Nat)(caps:AV)(f:Nat->Nat)(n:Nd)(w:World)(hr:du w w.heap.size n)(hn4:n.ls.length<=4)(hl:∀l∈n.ls,l.cs.length<=1000)(h1:1<=nx)(h2:nx<=1000000)(hd:n.aj<=1000000)
 (hent:∀(args:AV)(w:World),(callFunc fn args).run prog w = .ok (.enter fn args) w)
 (hto:n.aj+1≠nx->∀x:Cl,(x=n.all\/∃l∈n.ls,x∈l.cs)->∀W,E w W->Calls prog fn (#[I x.child]++caps) W λe W'=>e = .returned (I (f x.child:Nat))/\W'=W) :
 Calls prog 71 #[.agg #[U A nx c,N m],.agg (aZ n),.func (.func fn) #[] caps] w (sx (cH (decide (n.aj+1=nx)) f (aK n)) w):=by
 have HCl:=J (λw'(hb:E w w')=>CG n w' ((hr.below hb).more hb.size) hn4 (λl h=>aF (hl l h) d_));have HL:=J (λw=>mD A nx c m n.aj w h1 h2 hd);have HQ:Kp (∀(n':Nd) w',aK n'=cH (decide (n.aj+1=nx)) f (aK n)->du w' w'.heap.size n'->E w w'->sx (cH (decide (n.aj+1=nx)) f (aK n)) w (.returned (.agg (aZ n'))) w'):=λn' w' a b c=>⟨n',rfl,a,b,c⟩;have Hl:=J hl;have Hto:=J hto;generalize hQQ:sx (cH (decide (n.aj+1=nx)) f (aK n)) w=Q at*;clear hQQ hr hl hto;obtain⟨aj,nA,ls,nc,key,child,ac,s0,n0,x0,s1,n1,x1,s2,n2,x2⟩:=n;dsimp only[aZ]at*;obtain⟨lx,hlx⟩:=e_ ls.length
 rw[hlx]at HCl hn4⊢;have Hlx:=J hlx;have Hn4:=J hn4;clear hlx hn4 h1 h2 hd;have hb1:=(ah w.heap.size w).alloc (ae _) (.cells #[U A nx c,N m] 43);have hbs1:=aa.new w 43 #[U A nx c,N m];generalize hW0:w.alloc (.cells #[U A nx c,N m] 43)=W0 at*;have hz0:W0.heap.size=w.heap.size+1:=by rw[<-hW0];simp
 have hb2:=hb1.alloc hb1.size (.cells #[N aj,U nA lx nc,N key,N child,I ac,I s0,I n0,I x0,I s1,I n1,I x1,I s2,I n2,I x2] 157);have hbs2:=hbs1.alloc (.cells #[N aj,U nA lx nc,N key,N child,I ac,I s0,I n0,I x0,I s1,I n1,I x1,I s2,I n2,I x2] 157);have hbn2:=aa.lay (w:=W0) (t:=157) (cs:=#[N aj,U nA lx nc,N key,N child,I ac,I s0,I n0,I x0,I s1,I n1,I x1,I s2,I n2,I x2]) hz0;generalize hW1:W0.alloc (.cells #[N aj,U nA lx nc,N key,N child,I ac,I s0,I n0,I x0,I s1,I n1,I x1,I s2,I n2,I x2] 157)=W1 at*;have hz1:W1.heap.size=w.heap.size+1+1:=by rw[<-hW1];simp[hz0]
 have hb3:=hb2.alloc hb2.size (.cells zN 157);have hbs3:=hbs2.alloc (.cells zN 157);have hbn3:=hbn2.alloc (.cells zN 157);have hbr3:=aa.lay (w:=W1) (t:=157) (cs:=zN) hz1;generalize hW2:W1.alloc (.cells zN 157)=W2 at*;have hz2:W2.heap.size=w.heap.size+1+1+1:=by rw[<-hW2];simp[hz1]
 have Hb2:=J hb3;have HBs2:=J hbs3;have HBn2:=J hbn3;have HBr2:=J hbr3;have Hz2:=J hz2;have HC2:=J (HCl W2 hb3);have dD:=(aa.bK hbn3).1;clear hb1 hbs1 hb2 hbs2 hbn2 hb3 hbs3 hbn3 hbr3 hz2;go_in;go_wp2_with fail;apply HC2.mono;clear hW0 hW1 hW2 hz0 hz1 dD HC2 HCl;rintro e w1⟨⟨dim',A1,ls1,c1,all'⟩,rfl,hpl,hat,hfr,hbe,hcap,hcz⟩;unfold aK at hpl;injection hpl with e1 e2 e3
 dsimp only at e1 e2 e3;obtain rfl:aj=dim':=e1.symm;subst e3;have Hcz:=J hcz;have Hcs:=J e2;have hl1:ls1.length=lx:=by have:=congrArg length e2;rw[lM,lM,Hlx.o]at this;exact this
 have Hl1:=J hl1;have Hb1:=ay Hb2 hbe;have HBs1:=bu HBs2 hbe;have HBn1:=bu HBn2 hbe;have HBr1:=bu HBr2 hbe;have Hz1:Kp (w.heap.size+1+1+1<=w1.heap.size):=(by rw[<-Hz2.o];exact hbe.size);dsimp only[aZ];rw[hl1];clear e2 hat hfr hbe hcap hcz hl1 Hb2 HBs2 HBn2 HBr2;have hbo:=(ah w1.heap.size w1).alloc (ae _) (.cells #[N aj,U A1 lx c1,N key,N child,I ac,I s0,I n0,I x0,I s1,I n1,I x1,I s2,I n2,I x2] 157);have HBo:=J (aa.new w1 157 #[N aj,U A1 lx c1,N key,N child,I ac,I s0,I n0,I x0,I s1,I n1,I x1,I s2,I n2,I x2]);generalize hW3:w1.alloc (.cells #[N aj,U A1 lx c1,N key,N child,I ac,I s0,I n0,I x0,I s1,I n1,I x1,I s2,I n2,I x2] 157)=W3 at*;have Hb3:=ay Hb1 hbo;have HBr3:=bu HBr1 hbo;have Hcz3:=J ((Hcz.below hbo).base (Nat.le_of_eq Hz2.symm));have bs:=HBs1.under hbo;have bn:=HBn1.under hbo;obtain⟨x0',x1',_,_⟩:=bs.two;have y0:C W3 (w.heap.size+1) 0 (N aj):=bn.cell 0;have hgO:w.heap.size+1+1<w1.heap.size:=by have:=Hz1.o;omega
 clear bs bn hbo HBs1 HBn1 HBr1 Hb1 Hz1 Hcz;go_wp2_with fail;generalize w1.heap.size=gO at*;apply(HL _).mono;clear hW3 x0' x1' y0 HL;rintro e w4⟨rfl,hb4⟩;have Hb4:=ay Hb3 hb4;have HBr4:=bu HBr3 hb4;have HBo4:=bu HBo hb4;have Hcz4:=J (Hcz3.below hb4);clear hb4 Hb3 HBr3 HBo Hcz3;by_cases hlast:aj+1=nx
 .have hq:decide (aj+1=nx)=true:=decide_eq_true hlast;rw[hq]at HQ⊢
  have Hpe:=kp (show aK ⟨aj,A1,ls1,c1,⟨key,child,ac,s0,n0,x0,s1,n1,x1,s2,n2,x2⟩⟩=cH true f (aK ⟨aj,nA,ls,nc,⟨key,child,ac,s0,n0,x0,s1,n1,x1,s2,n2,x2⟩⟩)from by
   unfold cH aK;dsimp only
   rw[if_pos rfl,Hcs.o])
  clear hlast hq Hto;go_upto_region 3 with fail
  have dD:=(aa.bK HBo4).1;obtain⟨⟨q0,q1,q2,q3,q4,q5,q6,q7,q8,q9,q10,q11,q12,q13⟩,fD⟩:=aa.bK HBr4;obtain⟨Wf,hWf⟩:=e_ (aH w4 (w.heap.size+1+1) 0 [.int .i64 (aj:Nat),.slice A1 lx c1,.int .i64 (key:Nat),.int .i64 (child:Nat),.int .i64 ac,.int .i64 s0,.int .i64 n0,.int .i64 x0,.int .i64 s1,.int .i64 n1,.int .i64 x1,.int .i64 s2,.int .i64 n2,.int .i64 x2])
  have Hfz:=J (show Cz Wf (w.heap.size+1+1+1) A1 c1 ls1 by rw[<-hWf];exact Cz.all d_ d_ _ _ _ _ HBr4 Hcz4);have Hfb:=J (show E w Wf by rw[<-hWf];exact fq o_ _ _ _ Hb4);have Hbf:=J (show aa Wf (w.heap.size+1+1) 157 #[N aj,U A1 lx c1,N key,N child,I ac,I s0,I n0,I x0,I s1,I n1,I x1,I s2,I n2,I x2] by rw[<-hWf];exact dS HBr4 _ rfl);have HF:=J (HQ ⟨aj,A1,ls1,c1,⟨key,child,ac,s0,n0,x0,s1,n1,x1,s2,n2,x2⟩⟩ Wf (Hpe) (Hfz.node _ _) Hfb);dsimp only at HF;rw[Hl1.o]at HF;simp only[aH,Nat.zero_add,Nat.reduceAdd]at hWf;go_wp2_with fail;clear q0 q1 q2 q3 q4 q5 q6 q7 q8 q9 q10 q11 q12 q13;obtain⟨q0,q1,q2,q3,q4,q5,q6,q7,q8,q9,q10,q11,q12,q13⟩:=(aa.bK Hbf).1;refine bodyPost_ret (v:= .agg #[N aj,U A1 lx c1,N key,N child,I ac,I s0,I n0,I x0,I s1,I n1,I x1,I s2,I n2,I x2]) (by simp[results,results71,go_sem,q0,q1,q2,q3,q4,q5,q6,q7,q8,q9,q10,q11,q12,q13]) rfl HF
 .have hq:decide (aj+1=nx)=false:=decide_eq_false hlast;have HT:=J (Hto hlast);rw[hq]at HQ⊢
  have Hpe:Kp (aK ⟨aj,A1,ls1.map (lP f),c1,⟨key,f child,ac,s0,n0,x0,s1,n1,x1,s2,n2,x2⟩⟩=cH false f (aK ⟨aj,nA,ls,nc,⟨key,child,ac,s0,n0,x0,s1,n1,x1,s2,n2,x2⟩⟩)):=(by
   unfold cH aK;dsimp only;rw[if_neg d_,<-Hcs.o,map_map,map_map]
   rfl)
  have dD:=(aa.bK HBo4).1;clear hlast hq Hto;go_wp2_with fail;clear dD
  go_loopw [21] (λv21 wr=>∃k:Nat,k<=lx/\v21 = N k/\aa wr (w.heap.size+1+1) 157 zN/\aa wr gO 157 #[N aj,U A1 lx c1,N key,N child,I ac,I s0,I n0,I x0,I s1,I n1,I x1,I s2,I n2,I x2]/\Cz wr (w.heap.size+1+1+1) A1 c1 (ik (lP f) k ls1)/\E w wr) (λv21 _=>lx-(intOf v21).toNat)
  case atStart=>exact⟨0,av _,rfl,HBr4,HBo4,Hcz4,Hb4⟩
  .have hn4:=Hn4.o;clear HBr4 HBo4 Hcz4 Hb4;obtain⟨k,hk,rfl,hbr,hbo,hcz,hbe⟩:=hrel;have Hbr:=J hbr;have Hbo:=J hbo;have Hcz:=J hcz;have Hbe:=J hbe;clear hbr hbo hcz hbe;by_cases hlt:k<lx
   .have hk1:k<ls1.length:=by rw[Hl1.o];exact hlt
    obtain⟨bl,ol,hA,hbl,l0⟩:=Row.at_ (dF Hcz.row) (k:=k) (by rw[lM,qv];exact hk1);rw[getElem_map,uE hk1]at l0;have HX0:=kp (show ik (lP f) k ls1=(ik (lP f) k ls1).set k (ls1[k]'hk1)from by rw[<-uE (g:=lP f) hk1,set_getElem_self]);have HX1:=J (E' (g:=lP f) hk1);have HXk:Kp (∀l',((ik (lP f) k ls1).set k l')[k]? = some l'):=(λl'=>by rw[getElem?_set_self (by rw[qv];exact hk1)])
    have Hmem:Kp (∃l0∈ls,(ls1[k]'hk1).cs=l0.cs):=(by
     have:(ls1[k]'hk1).cs∈ls.map Ll.cs:=by rw[<-Hcs.o];exact mem_map_of_mem (gM hk1)
     obtain⟨y,hy,e⟩:=mem_map.1 this
     exact⟨y,hy,e.symm⟩)
    unfold dq at l0;generalize(ls1[k]'hk1)=l at*;generalize ik (lP f) k ls1=X at*;obtain⟨lA,cs,lc⟩:=l;dsimp only at l0
    have Hlen:Kp (cs.length<=1000):=(by
     obtain⟨y,hy,e⟩:=Hmem;have:=Hl y hy;rw[<-e]at this
     exact this)
    have HTx:Kp (∀x∈cs,∀W,E w W->Calls prog fn (#[I x.child]++caps) W λe W'=>e = .returned (I (f x.child:Nat))/\W'=W):=(λx hx=>by
     obtain⟨y,hy,e⟩:=Hmem
     exact HT x (.inr ⟨y,hy,by rw[<-e];exact hx⟩))
    obtain⟨ll,hdl⟩:=e_ cs.length
    have Hdl:=J hdl;rw[hdl]at l0;clear hdl hk1;have hl9:ll<=1000:=by rw[<-Hdl.o];exact Hlen
    have hk0:(0:Int)<=(k:Int):=o_
    have hki:(k:Int)<(lx:Int):=o_
    subst hA;go_wp2_with fail;clear l0
    go_loopw [27] (λv27 wr=>∃j:Nat,j<=ll/\v27 = N j/\aa wr (w.heap.size+1+1) 157 zN/\aa wr gO 157 #[N aj,U (some ⟨bl,ol,none⟩) lx c1,N key,N child,I ac,I s0,I n0,I x0,I s1,I n1,I x1,I s2,I n2,I x2]/\Cz wr (w.heap.size+1+1+1) (some ⟨bl,ol,none⟩) c1 (X.set k ⟨lA,ik (eY f) j cs,lc⟩)/\E w wr) (λv27 _=>ll-(intOf v27).toNat)
    case atStart=>exact⟨0,av _,rfl,Hbr,Hbo,Hcz.same HX0,Hbe⟩
    .clear Hbr Hbo Hcz Hbe;obtain⟨j,hj,rfl,hbr,hbo,hcz,hbe⟩:=hrel;have Hbr:=J hbr;have Hbo:=J hbo;have Hcz:=J hcz;have Hbe:=J hbe;clear hbr hbo hcz hbe;by_cases hjl:j<ll
     .have hjc:j<cs.length:=by rw[Hdl.o];exact hjl
      have hown:=Hcz.own _ (mem_of_getElem? (HXk _));obtain⟨g,(hg:lA=some ⟨g,0,none⟩),c1'⟩:=MK hown (j:=j) (by rw[qv];exact hjc);rw[show(ik (eY f) j cs)[j]'(by rw[qv];exact hjc)=cs[j]'hjc from uE hjc]at c1';have hst:=Hcz.put (HXk _) (x:=cs[j]'hjc) (by rw[gE (by rw[qv];exact hjc),uE hjc]) (show(jx ⟨lA,ik (eY f) j cs,lc⟩).ownBlock=some g by unfold jx;dsimp only;rw[hg];rfl) (f (cs[j]'hjc).child);have hup:(ik (eY f) j cs).set j ⟨(cs[j]'hjc).key,f (cs[j]'hjc).child,(cs[j]'hjc).ag⟩=ik (eY f) (j+1) cs:=E' (g:=eY f) hjc;rw[set_set]at hst;dsimp only at hst;rw[hup]at hst;have Hst:=J hst;have fz:=MN hown (by show(Value.slice lA _ lc).ownBlock=some g;rw[hg];rfl) (j*12+1);have hgr:g≠w.heap.size+1+1:=λe=>pX hown Hbr d_ (by show(Value.slice lA _ lc).ownBlock=some _;rw[hg,e];rfl)
      have hgo:g≠gO:=λe=>pX hown Hbo d_ (by show(Value.slice lA _ lc).ownBlock=some _;rw[hg,e];rfl)
      have hgb:=(hown.lt g (by show(Value.slice lA _ lc).ownBlock=some g;rw[hg];rfl)).1;have HTj:=J (HTx _ (gM hjc) wr Hbe);clear hst hown hup;generalize(cs[j]'hjc)=x at*;subst hg;have hj0:(0:Int)<=(j:Int):=o_
      have hji:(j:Int)<(ll:Int):=o_
      clear hjc;go_wp2_with fail;apply HTj.mono;rintro e w5⟨rfl,rfl⟩;go_wp2_with fail;exact⟨⟨j+1,o_,by go_num,(Below.heap_setCell _ _ _ _ (λe=>hgr e.symm)).trans Hbr,(Below.heap_setCell _ _ _ _ (λe=>hgo e.symm)).trans Hbo,Hst,Hbe.setCell (p:=(M g (j*12+1))) (by show w.heap.size<=g;omega) _⟩,by simp[intOf];omega⟩
     .obtain rfl:j=ll:=o_
      go_wp2_with fail;refine⟨⟨k+1,o_,by go_num,Hbr,Hbo,Hcz.same ?_,Hbe⟩,by simp[intOf];omega⟩;rw[EZ Hdl.symm,<-HX1.o];rfl
   .obtain rfl:k=lx:=o_
    have Hcz5:=J (Hcz.same (EZ Hl1.symm));have HTa:=J (HT _ (.inl rfl) wr Hbe);dsimp only at HTa;obtain⟨dD,fD⟩:=aa.bK Hbo;go_wp2_with fail;apply HTa.mono;rintro e w5⟨rfl,rfl⟩;have HBo5:=J (Hbo.set 3 (I (f child:Nat)));have hne:w.heap.size+1+1≠gO:=o_
    have HBr5:=J ((Below.heap_setCell w5 (M gO 3) (I (f child:Nat)) _ hne).trans Hbr);have Hcz6:=J (Hcz5.box (i:=3) Hbo d_ d_ (I (f child:Nat)));have Hb6:=J (Hbe.setCell (p:=(M gO 3)) (by show w.heap.size<=gO;omega) (I (f child:Nat)));go_upto_region 14 with fail
    generalize w5.setCell (M gO 3) (I (f child:Nat))=W5 at*;clear dD fD;have HBo6:Kp (aa W5 gO 157 #[N aj,U A1 k c1,N key,I ((f child:Nat):Nat),I ac,I s0,I n0,I x0,I s1,I n1,I x1,I s2,I n2,I x2]):=HBo5;have HBr6:Kp (aa W5 (w.heap.size+1+1) 157 zN):=HBr5;clear HBo5 HBr5;have dD:=(aa.bK HBo6).1;obtain⟨⟨q0,q1,q2,q3,q4,q5,q6,q7,q8,q9,q10,q11,q12,q13⟩,fD⟩:=aa.bK HBr6;obtain⟨Wf,hWf⟩:=e_ (aH W5 (w.heap.size+1+1) 0 [.int .i64 (aj:Nat),.slice A1 k c1,.int .i64 (key:Nat),.int .i64 ((f child:Nat):Nat),.int .i64 ac,.int .i64 s0,.int .i64 n0,.int .i64 x0,.int .i64 s1,.int .i64 n1,.int .i64 x1,.int .i64 s2,.int .i64 n2,.int .i64 x2])
    have Hfz:=J (show Cz Wf (w.heap.size+1+1+1) A1 c1 (ls1.map (lP f)) by rw[<-hWf];exact Cz.all d_ d_ _ _ _ _ HBr6 Hcz6);have Hfb:=J (show E w Wf by rw[<-hWf];exact fq o_ _ _ _ Hb6);have Hbf:=J (show aa Wf (w.heap.size+1+1) 157 #[N aj,U A1 k c1,N key,I ((f child:Nat):Nat),I ac,I s0,I n0,I x0,I s1,I n1,I x1,I s2,I n2,I x2] by rw[<-hWf];exact dS HBr6 _ rfl);have HF:=J (HQ ⟨aj,A1,ls1.map (lP f),c1,⟨key,f child,ac,s0,n0,x0,s1,n1,x1,s2,n2,x2⟩⟩ Wf Hpe (Hfz.node _ _) Hfb);dsimp only at HF;rw[lM,Hl1.o]at HF;simp only[aH,Nat.zero_add,Nat.reduceAdd]at hWf;go_wp2_with fail;clear q0 q1 q2 q3 q4 q5 q6 q7 q8 q9 q10 q11 q12 q13;obtain⟨q0,q1,q2,q3,q4,q5,q6,q7,q8,q9,q10,q11,q12,q13⟩:=(aa.bK Hbf).1;refine bodyPost_ret (v:= .agg #[N aj,U A1 k c1,N key,I ((f child:Nat):Nat),I ac,I s0,I n0,I x0,I s1,I n1,I x1,I s2,I n2,I x2]) (by simp[results,results71,go_sem,q0,q1,q2,q3,q4,q5,q6,q7,q8,q9,q10,q11,q12,q13]) rfl HF
end Tc
end Go.Proofs.YtibjlpkpljnicaaGreatDoor
