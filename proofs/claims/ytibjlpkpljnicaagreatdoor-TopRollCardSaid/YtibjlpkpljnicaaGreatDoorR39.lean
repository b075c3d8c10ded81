/- Parts. -/
import Derived.Test.YtibjlpkpljnicaaGreatDoorR27
import Derived.Test.YtibjlpkpljnicaaGreatDoorR37
import Derived.Test.YtibjlpkpljnicaaGreatDoorR38
set_option maxRecDepth 100000
set_option maxHeartbeats 8000000
set_option linter.all false
namespace Go.Proofs.YtibjlpkpljnicaaGreatDoor
namespace Tc
open List Go.RowKit Base Go.Maps Go.WideMaps Crc Go.Proofs.YtibjlpkpljnicaaGreatDoor.Nm Go.Proofs.Tryz
def vZ(wd:Nat)(w:World)(e:Ending)(w':World):Prop:=∃go gm:Nat,e = .returned (.tuple #[Y go 0,I 0])/\aa w' go 299 #[N wd,I 500,.map (some gm)]/\aY w' 9 gm 0 (.map [])/\go≠gm/\w.heap.size<=go/\w.heap.size<=gm/\E w w'
def QI wd(n:wd<=16) w:Calls prog 106 #[N wd,I 500] w (vZ wd w):=by
 have b:=@run_makeMap prog;have e:Kp (∀go gm w',aa _ _ _ _->aY _ 9 _ 0 _->go≠gm->w.heap.size<=go->w.heap.size<=gm->E w _->vZ wd w _ w'):=λgo gm w' h1 h2 g c d f=>⟨_,_,rfl,h1,h2,g,c,d,f⟩;generalize m:vZ _ w=Q at*;clear m;have h0:decide ((wd:Int)<0)=false:=o_;have h1:decide (16<(wd:Int))=false:=o_;go_in;go_wp2;exact e _ _ _ (by simpa using aa.new (w.alloc _) _ _) ((World.ownsMap_made _ _ _ _).alloc _) o_ o_ o_ ((bR.alloc o_ _).alloc s_ _)
def lT(P:List (LN×Ag))(ks:List LN):List (LN×Ag):=ks.map λk=>(k,(bW (λx=>x == k) P).getD az)
def Qt{w D P wd U}(h:fV w D P wd U){ks}(e:ks.Pairwise λa b=>aI a b<0)(hk:∀key,key∈ks↔∃x∈P,x.1=key):ev P (lT P ks):=by
 refine⟨?_,λkey=> ?_,λx hx=> ?_⟩
 .unfold lT;grind
 .rw[<-hk];unfold lT;constructor
  .grind
  .exactλh1=>⟨_,mem_map.2 ⟨_,h1,rfl⟩,rfl⟩
 .unfold lT at hx;obtain⟨k,d,rfl⟩:=mem_map.1 hx;obtain⟨y,f,rfl⟩:=(hk k).1 d;obtain⟨_,A,c,g,_,m,_⟩:=h.each y f;grind
def vP(P:List (LN×Ag))(w:World)(e:Ending)(w':World):Prop:=∃(v:Value)(l:List Fa),e = .returned v/\ev P (l.map pl)/\bj w' w.heap.size v l/\eC w.heap.size l/\(∀f∈l,f.keys.length<=f.c)/\E w w'
def P8 go gm wd{D P U} w(tab:aa w go 299 #[N wd,I 500,.map (some gm)])(map:aY w 9 gm P.length D)(gH:fV w D P wd U)(hU:∀k,U k->k<w.heap.size)(d3:wd<=16)(hP:P.length<=60) :
 Calls prog 111 #[Y go 0] w (vP P w):=by
 have e6:=map.lt;have g9:=World.ownsMap.size_le map;have f1:(Go.strKeys D).length<=60:=by
  obtain⟨es,rfl,_⟩:=map.strs;refine aF ?_ (aF g9 hP);simp[Go.strKeys,Maps.size]
 have HS:=J (callsIn_wide.1 (Tryz.PS _ _ D _ w map (by unfold maxLen;omega) o_));have HK:=J (callsIn_wide.1 (Tryz.KW (some gm) w));have i1:=J (λ(ss:List _)(hp:ss.Perm _)=>gH.keys map hp);have HT:=J (λks h1 h2=>@Qt w D P _ U gH ks h1 h2)
 have k8:Kp (∀ W key,E w W->(∃x∈P,x.1=key)->∃A c,(Instr.lookup 297 (.map (some gm)) (T (str (cS key))) false).run prog W = .ok (kB A key.length c ((bW (λx=>x == key) P).getD az)) W/\key.length<=16/\Row W _ A (an key)):=(λW key hb hx=>by
  obtain⟨x,hx,rfl⟩:=hx;have hk:=gH.key x hx;have d9:keyOf _ 9 (T (str (cS _)))=some (gJ x.1):=keyOf_string_mk underlying9 (by rw[dR];have:=xl x.1;have:=hk.1;unfold maxLen;omega);obtain⟨v,ps,q,hR⟩:=World.ownsMap.lookup (aY.same map (hb.block _ e6)) jH underlying297 (Fz W) rfl d9;obtain⟨_,A,c,g,h2,h3,h4,_,_⟩:=gH.each x hx;injection hR with hR
  injection hR with h5 h6
  rw[h2]at h5;injection h5 with h5
  subst h5
  refine⟨A,c,r_,by rw[hk.1];omega,(h4.below hb).more hb.size⟩)
 have f6:=J (λW(hb:E w W)=>tab.under hb);have e0:Kp (∀ks v p w',p.map pl=lT P ks->(ks.Pairwise λa b=>aI a b<0)->(∀key,key∈ks↔∃x∈P,x.1=key)->bj _ _ v p->eC _ p->(∀f∈p,f.keys.length<=f.c)->E w _->vP P w _ w'):=λks v p w' h1 h2 h3 h4 h5 h6 hb=>⟨v,p,rfl,by rw[h1];exact HT _ h2 h3,h4,h5,h6,hb⟩;have HC:=J qW;obtain⟨i0,k5,k6,i9,k9⟩:=info_parts mA;generalize hQ:vP P w=Q at*;clear hQ HT;obtain⟨t0,t1,t2,_,_,_⟩:=tab.three;clear tab map gH hU g9;go_in;go_wp2_with fail;apply HK.mono;rintro e1 w1⟨rfl,rfl⟩;go_wp2_with fail;apply HS.mono;rintro e2 w2⟨v,ss,rfl,hS,L,g5,i2⟩;obtain⟨ks,a2,e4,d2⟩:=i1 _ hS;have b1:ss.length=ks.length:=by rw[<-length_mergeSort,a2,lM]
 have k3:ss.length<=60:=by rw[hS.length_eq];omega
 have c3:=(ah _ w).alloc (ae _) (.cells #[.map (some gm)] 297);have V:=J (c3.trans (i2.mono o_));rw[a2,map_map,b1]at L;obtain⟨k0,p0,rfl⟩:=bY L;have i3:Kp (Row _ _ _ (ks.map λk=> T (str _))):=kG L;have j3:=J e4;have f5:=J d2;clear i2 L a2 e4 d2 hS g5 i1 HK HS c3 t0 t1 t2;obtain⟨n,hn⟩:=e_ ks.length
 have Hn:=J hn;have j2:=J (show n<=1000000 by omega);rw[hn];clear hn b1 k3 f1;clear ss;go_wp2
 go_loopw [3,16] (λv3 v8 wr=>∃(k:Nat)(p:List Fa)(A':OA)(c':Nat),k<=n/\v8 = I k/\v3 = .slice A' k c'/\p.length=k/\p.map pl=lT P (ks.take k)/\wr.ownsRow w2.heap.size 89 11 (.slice A' k c') k (p.flatMap aV)/\(∀f∈p,bP wr (.slice A' k c') f)/\eC w.heap.size p/\Kp (∀f∈p,f.keys.length<=f.c)/\E w2 wr) (λ_ v8 _=>n-(intOf v8).toNat)
 case atStart=>exact⟨0,[],_,0,o_,rfl,rfl,rfl,rfl,cK _ _ _ _,(λf r=>r_),(λf r=>r_),J (λf r=>r_),bR⟩
 .obtain⟨k,p,A',c',hk,rfl,rfl,g4,e8,b4,h9,d4,d0,g0⟩:=hrel;have d8:=J d4;clear d4;have d7:=J e8;have f4:=J g4;have M:=J b4;have g8:=J h9;have X:=J g0;clear e8 b4 h9 g0 g4;by_cases j0:k<n
  .have u:k<ks.length:=by rw[Hn];omega
   obtain⟨b,off,rfl,hb,c0⟩:=((i3.below X).more X.size).at_ (by rw[lM];exact u);rw[getElem_map]at c0;have f0:=J (V.trans (X.mono V.size));have f9:=(f5 _).1 (gM u);obtain⟨fA,fc,q,p6,g7⟩:=k8 _ _ f0 f9;have k4:=J (show lT P (ks.take _)=lT P (ks.take k)++[((ks[k]'u),(bW (λx=>x == (ks[k]'u)) P).getD _)] by unfold lT;rw[take_succ_eq_append_getElem,map_append];rfl);clear f9;generalize(ks[k]'u)=keys at*;generalize(bW (λx=>x == keys) P).getD _=ag at*;obtain⟨ac,s0,n0,x0,s1,n1,x1,s2,n2,x2⟩:=ag;unfold kB at q;dsimp only at q;have b5:=J q;clear q;have a5:=(ah _ wr).alloc (ae _) (.cells #[.slice fA keys.length fc,I ac,I s0,I n0,I x0,I s1,I n1,I x1,I s2,I n2,I x2] 89);have h7:=J (aa.new wr 89 #[.slice fA keys.length fc,I ac,I s0,I n0,I x0,I s1,I n1,I x1,I s2,I n2,I x2]);have a4:=J a5;have Hf:=J ((g7.below a5).more a5.size);obtain⟨t0,t1,t2,_,_,_⟩:=(f6 _ f0).three;clear a5 g7;have o1:0<=(k:Int):=o_
   have n9:k<(n:Int):=o_
   go_upto_region 8 with(first
    |(at_lookup;refine Fp _ rfl _ _ _ _ rfl rfl rfl b5 ?_)|fail)
   clear c0 t0 t1 t2 b5;generalize wr.alloc _=W2 at*;generalize d1:wr.heap.size=s at*;have a3:=J d1;clear d1;have a9:keys.length<=1000000:=o_
   have aD:=aa.dk h7;apply wp_region_noPanic;refine br (t:=99) (S:=(λw'=>C w' s 0 _/\C w' s 1 _/\C w' s 2 _/\C w' s 3 _/\C w' s 4 _/\C w' s 5 _/\C w' s 6 _/\C w' s 7 _/\C w' s 8 _/\C w' s 9 _/\C w' s _ _)) k_ aD (λm=> ?_);apply tD 0 1 2 4 m;apply tk 5 m;have b3:=h7.lt;refine oT 3 λK hK=>?_
   go_simp
   apply(HC _ _ _ W2.drew a9 Hf).mono;rintro e w3⟨vk,rfl,H,f3⟩;obtain⟨Ak,ck,rfl⟩:=cI H;have z:=J H;have b9:=J f3;clear H f3;refine oK hK ?_ λd=>?_
   .exact pR (b9.block s b3) aD
   replace m:=d;clear hK K d;clear aD;have a0:Kp _:=a4.trans ((bR.drew.trans b9).mono o_);have a1:=J (bS M (by show Below _ _ _;rw[a3];exact a0));have d5:=J (λf r=>(g8 f r).below (by show Below _ _ _;rw[a3];exact a0));have e3:=J (show w2.heap.size<=s by rw[<-a3];exact X.size);have a7:=J (X.trans (a0.mono e3));have d6:Kp (bP _ _ ⟨_,_,_,⟨ac,s0,n0,x0,s1,n1,x1,s2,n2,x2⟩⟩):=bP.new z (λj hj=>bh (M.lt j hj).2 a4.size)
   have e5:Kp (eC _ (p++[⟨Ak,keys,ck,⟨ac,s0,n0,x0,s1,n1,x1,s2,n2,x2⟩⟩])):=(λg hg b' e7 a6 j1=>by
    obtain hg|hg:=mem_append.1 hg
    .exact d8 g hg _ _ a6 j1
    .rw[mem_singleton.1 hg]at a6;dsimp only at a6;have h1:=z.lt b' (by rw[a6];rfl);have h2:=V.size;have n8:=e3.o;have h4:W2.drew.heap.size=W2.heap.size:=rfl
     omega)
   have e9:Kp (∀f∈p++[⟨Ak,keys,ck,⟨ac,s0,n0,x0,s1,n1,x1,s2,n2,x2⟩⟩],f.keys.length<=f.c):=(λf r=>by
    obtain r|r:=mem_append.1 r
    .exact d0.out f r
    .rw[mem_singleton.1 r]
     exact rH z)
   have a2:k+1<1048576*64:=by have:=j2.o;omega
   have g3:=J a7.size;have F:=bh b3 b9.size;have h0:Kp ((Value.slice _ k _).ownBlock≠some s):=(λhh=>by have:=(M.lt s hh).2;rw[a3]at this;omega);apply tk 6 m;refine oT 7 λK hK=>?_
   go_simp
   refine oK hK ?_ λd=>?_
   .exact pR (Below.heap_alloc _ _ _ F) m
   replace m:=d;clear hK K d;refine oT 8 λK hK=>?_
   refine rS rfl _ _ _ rfl _ 89 _ _ _ _ underlying34 k5 k6 i9 k9 rfl d_ _ (bC ⟨_,_,_,⟨_,_,_,_,_,_,_,_,_,_⟩⟩) rfl (kV _) (.slice _ k _) k _ rfl a1 rfl a2 d_ g3 ?_;intro v5 w5 G Z;obtain⟨A5,c5,h5⟩:=cI G;subst h5;have b8:=J G;have O:=J Z;clear G Z
   go_simp
   refine oK hK ?_ λd=>?_
   .exact pR ((O.bI F h0).trans (Below.heap_alloc _ _ _ F).symm) m
   replace m:=d;clear hK K d;apply tk 9 m;refine bQ k_ ?_ _
   try clear m
   apply NoPanic.normal;have k2:=J (O.ew a7 a1 o_ g3);have f2:Kp (∀f∈p++[⟨Ak,keys,ck,⟨ac,s0,n0,x0,s1,n1,x1,s2,n2,x2⟩⟩],bP _ (.slice _ _ _) f):=(λf r=>by(obtain r|r:=mem_append.1 r;exact(d5 f r).app O;rw[mem_singleton.1 r];exact d6.app O));go_wp2;refine⟨⟨_,_,_,_,o_,o_,rfl,by rw[aE,f4];rfl,?_,?_,f2,e5,e9,k2⟩,o_⟩
   .rw[map_append,d7,k4];rfl
   .rw[flatMap_append];exact b8
  .obtain rfl:k=n:=o_
   have f7:Kp (bj _ _ _ p):=⟨by rw[f4];exact dZ M V.size,g8⟩;have g6:=J (show p.map _=lT P _ by rw[d7,take_of_length_le (by rw[Hn];omega)]);go_wp2;exact e0 _ _ p _ g6 j3 f5 f7 d8 d0.out (V.trans (X.mono V.size))
end Tc
namespace Tc
open List Go.RowKit Base Go.Proofs.Tryz
section
variable{c:Wt}{w w':World}{Fs V:Nat->Prop}{kv:Value}{D:DataW Value}{pre aS:LN}{P:List (LN×Ag)}
def Wt.Dy.keep(h:c.Dy w Fs V kv D pre aS P)(ok:c.Ok)(b:w.heap.size<=w'.heap.size)(d:∀k,c.F Fs V kv k\/c.R k->w'.heap[k]? = w.heap[k]?):c.Dy w' Fs V kv D pre aS P:=by
 have f:∀k,c.own k->w'.heap[k]? = w.heap[k]?:= λk hk=>d k (.inl (.inr (.inr (.inl hk))));have g:∀k,V k->w'.heap[k]? = w.heap[k]?:= λk hk=>d k (.inl (.inr (.inl hk)));refine⟨ok.same w _ _ h.src b (λk e=>d k (.inl (.inl e))),(f _ (.inl rfl)).trans h.box,fN h.keys (λk e=>d k (.inl (.inr (.inr (.inr e))))),(f _ (.inr (.inr (.inr rfl)))).trans h.kg,h.lV,(f _ (.inr (.inl rfl))).trans h.tab,h.map.same (f _ (.inr (.inr (.inl rfl)))),h.gH.same b (λk e _=>g k e) (λk e=>e),λk e=>bh (h.ke k e) b,λk e=>⟨bh (h.fs k e).1 b,(h.fs k e).2⟩,h.fv,h.fk,(h.lR.same (λk e=>d k (.inr e))).more b,h.ro⟩
end
def Wt.eight{c:Wt}{w:World}{b:Value}(h:aa w c.gw 213 (c.C b)) :
 (w.cell? ⟨c.gw,0,none⟩=some (.pointer (some ⟨c.gs,0,none⟩))/\w.cell? ⟨c.gw,1,none⟩=some (.slice c.Ax c.ys.length c.cx)/\w.cell? ⟨c.gw,2,none⟩=some (.int .i64 c.m)/\w.cell? ⟨c.gw,3,none⟩=some (.slice c.As c.sns.length c.cs)/\w.cell? ⟨c.gw,4,none⟩=some (.pointer (some ⟨c.go,0,none⟩))/\w.cell? ⟨c.gw,5,none⟩=some b/\w.cell? ⟨c.gw,6,none⟩=some (.slice (some ⟨c.gn,0,none⟩) c.sns.length c.sns.length)/\w.cell? ⟨c.gw,7,none⟩=some (.int .i64 0))/\(∀j,w.frozen? ⟨c.gw,j,none⟩=false):=
 ⟨⟨h.cell 0,h.cell 1,h.cell 2,h.cell 3,h.cell 4,h.cell 5,h.cell 6,h.cell 7⟩,λj=>h.free j⟩
def vY(c:Wt)(p:aQ)(w:World)(f V:Nat->Prop)(d:Value)(D:DataW Value)(pre aS:LN)(P:List (LN×Ag))(e:Ending)(w':World):Prop:=
 ∃(nd:Nd)(b:Nat->Prop),e = .returned (.tuple #[.agg (aZ nd),I 0])/\aK nd=p/\du w' w'.heap.size nd/\(∀k,mE nd k->w.heap.size<=k/\¬c.F b V d k)/\(∀l∈nd.ls,l.cs.length<=l.c)/\c.Dy w' b V d D pre aS P/\Mv (c.F f V d) w w' (c.F b V d)
def QF{c:Wt}{ns:List aQ}{pl:Nat->Nat}{top:Int}{w:World}{Fs V:Nat->Prop}{kv:Value}{D:DataW Value}{pre aS:LN}{P:List (LN×Ag)}{i id x:Nat}{n:aQ}
 (src:mh c.I c.gs top c.sns.length ns pl)(ok:c.Ok)(h:c.Dy w Fs V kv D pre aS P)(hn:ns[id]? = some n)(hd:n.aj=i)(hi:i<c.ys.length)(hp:im (decide (i+1=c.ys.length)) (c.ys[i]'hi).keys c.m (cH (decide (i+1=c.sns.length)) pl n))(hx:aS[i]? = some x)(hw:x<4000) :
 Calls prog 184 #[Y c.gw 0,N i,I (pl id:Nat)] w (vY c (cH (decide (i+1=c.sns.length)) pl n) w Fs V kv D pre (aS.set i (x+1)) P):=by
 have h9:=(aO hx).1;have i0:w.cell? ⟨c.gn,i,none⟩=some (.int .i64 x):=by
  rw[h.kg.cell];unfold an;simp[hx]
 obtain⟨y,hy⟩:=e_ (x+1)
 have i5:IntKind.i64.wrap (x+1)=y:=by rw[IntWalk.i64_in _ o_];omega
 have p9:decide (4000<(y:Int))=false:=o_;rw[hy];have T:=(ah _ w).alloc (ae _) (.cells zN 157);have g5:=J (aa.new w 157 zN);have X:=J (h.below ok T)
 generalize p4:w.alloc _=w1 at*;have e4:=J (X.inc ok h9 y);have HS:=J (src.node _ _ _ n e4.1.src hn);have j1:=J src.lt;rw[hd]at HS;obtain⟨⟨b0,b1,b2,b3,b4,b5,b6,b7⟩,_⟩:=Wt.eight X.box;have d8:C _ _ i (N x):=al T i0;have g6:w1.frozen? (M _ i)=false:=X.kg.free i;have k7:=J T
 have h0:0<=(i:Int):=o_
 have h1:i<(c.sns.length:Int):=by have:=h.lV;omega
 have B:=J e4;have d:=J h;have A:=J ok;have Hp:=J hp;have k5:=J hd;have c3:=J hi;clear T i0 h hn hd hp hx h9 hw X;go_in;go_upto_region 2 with fail
 have i1:=J (g5.aJ (p:=(M c.gn i)) (by have:=d.kg.lt;simp;omega) (N y));have d0:Kp _:=i1.lt;clear b0 b1 b2 b3 b4 b5 b6 b7 d8 g6 g5 i5;have d6:(w1.setCell (M c.gn i) (N y)).cell? ⟨c.gn,i,none⟩=some (N y):=by
  have:=B.1.kg.cell i;rw[this];unfold an;have hl:=d.lV;have hy:=A.len;rw[map_set];simp[getElem?_set];omega
 have k1:Kp _:=((Mv.start _ w).below k7).trans B.2;generalize w1.setCell _ _=w2 at*;obtain⟨⟨b0,b1,b2,b3,b4,b5,b6,b7⟩,_⟩:=Wt.eight B.1.box;go_wp2_with fail;clear b0 b1 b2 b3 b4 b5 b6 b7 d6;refine HS.o.mono ?_;rintro e H⟨nd,Z,rfl,W,L,d2,e6,hI,G⟩;obtain⟨e2,e3⟩:=B.1.EB hI G (j1 _ _ hI);have h7:=i1.ax G.ax (λhf=>by have:=(d.fs _ hf).1;omega);have z:=(ah _ H).alloc (ae _) (.cells (aZ nd) 157);have O:=J (aa.new H 157 (aZ nd));have e9:=J (h7.under z);have u:=J (e2.below A z);have h6:=J ((k1.trans e3).below z);have r:=J ((L.below z).more z.size);have d3:=J W;have j2:=J e6
 have g3:Kp (∀k,mE _ k->w2.heap.size<=k/\¬Z k/\k<H.heap.size):=λk hk=>⟨(d2 k hk).1,(d2 k hk).2,by
  obtain hk|⟨l,hl,hk⟩:=hk
  .exact Row.bU L.row hk
  .exact Row.bU (L.each l hl) hk⟩
 have i8:Kp (∀k,Z k->k≠w.heap.size):=(λk hk e=>by
  obtain q|⟨q,_⟩:=G.sub k hk
  .have:=(d.fs _ q).1;omega
  .have:=d0.o;omega)
 clear W L d2 e6 hI G e2 e3 h7 z;go_upto_region 9 with fail
 have E:nd.aj=i:=by
  have e:(aK _).aj=nd.aj:=rfl;rw[<-e,d3];unfold cH;split<;>exact k5
 have HC:Kp (Calls _ _ #[.agg #[U _ _ _,I _],.agg _] _ (λe w'=>e = .returned (I 0)/\Below (H.alloc _).heap.size _ _)):=(by
  have e8:nd.aj<c.ys.length:=o_
  have W:im (decide (nd.aj+1=c.ys.length)) (c.ys[nd.aj]'e8).keys c.m (aK nd):=by
   have h2:=Hp.o;rw[d3];simp only[E];omega
  have e1:=tP _ c.cx _ _ _ (H.alloc _).drew ((A.PJ _ _ u.src).same λ_ _=>rfl) ⟨r.row,r.each⟩ (by rw[A.len];exact A.n16) A.m1 A.m3 e8 W;apply e1.mono;rintro e w'⟨he,hb⟩
  exact⟨he,bR.drew.trans hb⟩)
 obtain⟨aj,nA,ls,nc,key,child,ac,s0,n0,x0,s1,n1,x1,s2,n2,x2⟩:=nd;dsimp only at E;subst aj;dsimp only[aZ]at HC O e9 u h6 r⊢;generalize k2:H.alloc (.cells #[N i,U _ _ _,N _,N _,I _,I _,I _,I _,I _,I _,I _,I _,I _,I _] _)=w4 at*;generalize p0:H.heap.size=g at*;clear k2;obtain⟨a0,a1,a2,a3,a4,a5,a6,a7,a8,a9,h3,e0,d9,e7⟩:=(aa.bK O).1;obtain⟨⟨b0,b1,b2,b3,b4,b5,b6,b7⟩,_⟩:=Wt.eight u.box;have c4:=A.len;rw[c4]at b1 HC;apply wp_region_noPanic;refine br (t:=99) (S:=(λw'=>C w' _ 1 (U _ _ _)/\C w' _ 2 (I _)/\C w' g 0 (N i)/\C w' g 1 _/\C w' g 2 (N _)/\C w' g 3 (N _)/\C w' g 4 _/\C w' g 5 _/\C w' g 6 _/\C w' g 7 _/\C w' g 8 _/\C w' g 9 _/\C w' g _ _/\C w' g _ _/\C w' g _ _/\C w' g _ _)) k_ ⟨b1,b2,a0,a1,a2,a3,a4,a5,a6,a7,a8,a9,h3,e0,d9,e7⟩ (λb=> ?_);apply tD 0 1 2 3 b;apply tk 4 b;refine oT 5 (λK hK=> ?_)
 go_simp
 apply HC.mono;rintro e w5⟨rfl,g9⟩;have f:=J g9;clear g9
 try go_simp
 refine oK hK ?_ (λs=> ?_)
 .exact⟨(by rw[<-c4];exact(Wt.eight (u.below A f).box).1.2.1),(Wt.eight (u.below A f).box).1.2.2.1,(aa.bK (O.under f)).1⟩
 clear hK K b;have b:=s;clear s
 apply tD 6 7 8 9 b;apply tD 10 11 12 13 b;refine bQ k_ ?_ _
 try clear b
 apply NoPanic.normal;clear b0 b1 b2 b3 b4 b5 b6 b7 a0 a1 a2 a3 a4 a5 a6 a7 a8 a9 h3 e0 d9 e7 HC HS;have d5:=J (O.under f);have g7:=J (e9.under f);have j0:=J (u.below A f);have k8:=J (h6.below f);have c6:=J ((r.below f).more f.size)
 have c7:Kp (vY c (cH (decide (i+1=c.sns.length)) pl n) w Fs V kv D pre (aS.set i y) P (.returned (.tuple #[.agg (aZ ⟨i,nA,ls,nc,⟨key,child,⟨ac,s0,n0,x0,s1,n1,x1,s2,n2,x2⟩⟩⟩),I 0])) (aH w5 w.heap.size 0 (cO ⟨i,nA,ls,nc,⟨key,child,⟨ac,s0,n0,x0,s1,n1,x1,s2,n2,x2⟩⟩⟩))):=(by
  generalize o2:(⟨i,_,_,_,_⟩:Nd)=nd at*;have h4:∀k,mE _ k->k≠w.heap.size:=λk hk e=>by have:=(g3 k hk).1;have:=d0.o;omega
  have hF:∀k,c.F Z V _ k\/c.R k->k≠w.heap.size:=λk hk e=>by
   obtain(hk|hk|hk|hk)|hk:=hk
   .exact i8 k hk e
   .have:=d.ke k hk;omega
   .have:=d.oE hk;omega
   .have:=d.kE hk;omega
   .have:=d.qj hk;omega
  refine⟨_,Z,rfl,d3,⟨?_,?_⟩,?_,j2,?_,?_⟩
  .rw[nH];exact Row.jA (λk hk=>h4 k (.inl hk)) _ _ _ c6.row
  .rw[nH];exactλl hl=>Row.jA (λk hk=>h4 k (.inr ⟨l,hl,hk⟩)) _ _ _ (c6.each l hl)
  .intro k hk;have h1:=g3 k hk;have h2:=d0.o;refine⟨o_,?_⟩;rintro(q|q|q|q)
   .grind
   .have:=d.ke k q;omega
   .have:=d.oE q;omega
   .have:=d.kE q;omega
  .exact j0.keep A (by rw[nH];omega) (λk hk=>ee (hF k hk) _ _ _)
  .exact k8.aH o_ _ _)
 have HB:Kp (aa (aH _ _ 0 (cO _)) _ _ (aZ ⟨i,nA,ls,nc,⟨key,child,⟨ac,s0,n0,x0,s1,n1,x1,s2,n2,x2⟩⟩⟩)):=dS g7 _ rfl;obtain⟨qD,f0,f1,f2,f3,f4,f5,f6,f7,f8,f9,p7,q2,q8,p6⟩:=aa.bK g7;have dD:=(aa.bK d5).1;generalize hQ:vY c _ w _ V _ D _ _ P=Q at*;clear hQ;dsimp only[aZ,cO]at c7 HB⊢;generalize i6:aH _ _ 0 _=Wf at*;simp only[aH,Nat.zero_add,Nat.reduceAdd]at i6;obtain⟨z0,z1,z2,z3,z4,z5,z6,z7,z8,z9,j3,k0,i9,i7⟩:=(aa.bK HB).1;go_wp2;refine bodyPost_ret (v:= .tuple #[.agg #[N i,U _ _ _,N _,N _,I _,I _,I _,I _,I _,I _,I _,I _,I _,I _],I 0]) ?_ rfl c7;simp[results,go_sem,z0,z1,z2,z3,z4,z5,z6,z7,z8,z9,j3,k0,i9,i7]
def qw(L:List (au×Pk)):Nat:=(L.filter λx=>x.2.g).length
def ze d p L:qw ((d,p)::L)=(if p.g=true then 1 else 0)+qw L:=by
 unfold qw;grind
def yw{fs m}(h:il m fs):∀(L:List (au×Pk))(a:Nat)(K:cL)(pre:LN),aT fs K≠[]->∀x∈bZ fs L a K pre,GA m 2560 x.2
 | [],a,K,pre,hK,x,hx=>by
  unfold bZ at hx;obtain⟨g,b,h2⟩:=rU h hK;grind
 |(d,p)::L,a,K,pre,hK,x,hx=>by
  rw[bZ]at hx;split at hx
  .exact yw h L _ _ _ hK x hx
  .obtain⟨k,_,hx⟩:=mem_flatMap.1 hx;split at hx
   .grind
   .exact yw h L _ _ _ ‹_› x hx
structure qO(c:Wt)(s:aN)(fs:List Fa)(st:St)(Lq:List (au×Pk))(m:Nat)(top:Int)(pl:Nat->Nat):Prop where
 ok:c.Ok
 src:mh c.I c.gs top c.sns.length st.nodes pl
 nY:fR s fs st
 bO:cJ s
 fact:iE s fs
 dw:il m fs
 af:∀(i:Nat)(x:au×Pk),Lq[i]? = some x->s.af[i]? = some x.1/\gz x.1 x.2
 len:Lq.length=s.af.length
 lens:s.af.length=c.sns.length
 scan:∀(i:Nat)(x:au×Pk),Lq[i]? = some x->∃h:i<c.sns.length,jh x.1 x.2 c.sns[i]
 node:∀(id:Nat) n,st.nodes[id]? = some n->∃h:n.aj<c.ys.length,im (decide (n.aj+1=c.ys.length)) (c.ys[n.aj]'h).keys c.m (cH (decide (n.aj+1=c.sns.length)) pl n)
 wd:c.wd<=16
 b:c.B<=c.gw
structure mQ(c:Wt)(fs:List Fa)(m:Nat)(L:List (au×Pk))(a N:Nat)(pre aS:LN)(P:List (LN×Ag)):Prop where
 wd:pre.length+qw L=c.wd
 key:∀y∈pre,y<200
 yj:P.length+N<=60
 ga:∀x∈P,GA m 2560 x.2
 aS:∀j,a<=j->∀x,aS[j]? = some x->x+N<=4000
def iH(c:Wt)(w:World)(m V:Nat->Prop)(n:Value)(pre aS:LN)(P:List (LN×Ag))(Q:List (LN×Ag))(a N:Nat)(e:Ending)(w':World):Prop:=
 e = .returned (.tuple #[])/\∃b g d p went',c.Dy w' b g d p pre went' (P++Q)/\Mv (c.F m V n) w w' (c.F b g d)/\(∀j,j<a->went'[j]? = aS[j]?)/\∀(j f:Nat),went'[j]? = some f->∃x,aS[j]? = some x/\f<=x+N
section
variable(c:Wt)(s:aN)(fs:List Fa)(st:St)(Lq:List (au×Pk))(m:Nat)(pl:Nat->Nat)
def vv(a:Nat):Prop:=∀(K:cL)(pre aS:LN)(P:List (LN×Ag))(b V:Nat->Prop)(d:Value)(D:DataW Value)(w:World)(id:Nat),mQ c fs m (Lq.drop a) a (aT fs K).length pre aS P->st.parts[id]? = some (a,aT fs K)->c.Dy w b V d D pre aS P ->
 Calls prog 110 #[Y c.gw 0,N a,I (pl id:Nat)] w (iH c w b V d pre aS P (bZ fs (Lq.drop a) a K pre) a (aT fs K).length)
def fb(last:Bool)(pl:Nat->Nat)(x:Cl):Cl:=if last=true then x else eY pl x
def uL(a:Nat):Prop:=∀(K:cL)(pre aS:LN)(P:List (LN×Ag))(b V:Nat->Prop)(d:Value)(D:DataW Value)(w:World)(x:Cl),mQ c fs m (Lq.drop (a+1)) (a+1) (aT fs K).length pre aS P->aT fs K≠[]->lY s fs st a K x->c.Dy w b V d D pre aS P ->
 Calls prog 185 #[Y c.gw 0,N a,.agg (bH (fb (decide (a+1=c.sns.length)) pl x))] w (iH c w b V d pre aS P (bZ fs (Lq.drop (a+1)) (a+1) K pre) (a+1) (aT fs K).length)
end
def uz{c s fs st O m top pl}(T:qO c s fs st O m top pl){a}(ha:a<c.sns.length)(HN:a+1<c.sns.length->vv c fs st O m pl (a+1)):uL c s fs st O m pl a:=by
 intro K pre aS P B V u D w x p hK hx h;obtain⟨A,cc,rfl⟩:=bY h.keys;have X:∀y:Cl,E w (w.alloc (.cells (bH y) 155)):=λy=>bR.alloc o_ _;have d:=T.ok.len;by_cases L:a+1=c.sns.length
 .have e2:bZ fs (O.drop (a+1)) (a+1) K pre=[(pre,x.ag)]:=by
   have h1:O.drop (a+1)=[]:=drop_eq_nil_of_le (by rw[T.len,T.lens];omega);unfold lY at hx;rw[if_pos (by rw[T.lens];omega)]at hx;rw[h1];unfold bZ;rw[hx]
  have hm:fb (decide (a+1=c.sns.length)) pl x=x:=by unfold fb;grind
  rw[hm,e2];have G:=p.wd;have e6:qw (O.drop (a+1))=0:=by rw[drop_eq_nil_of_le (by rw[T.len,T.lens];omega)];rfl
  rw[e6]at G;have R:=hx;unfold lY at R;rw[if_pos (by rw[T.lens];omega)]at R;have Z:GA m 2560 x.ag:=by
   obtain⟨g,h1,h2⟩:=rU T.dw hK;rw[R]at h1;injection h1 with h1;grind
  have hP:P.length+1<=60:=by have:=p.yj;have:=length_pos_iff.2 hK;omega
  obtain⟨w1,d8⟩:=e_ (w.alloc (.cells (bH x) 155));have M:=X x;have z:=J (aa.new w 155 (bH x));rw[d8]at M z;have q:=J (mD c.Ax c.ys.length c.cx c.m a w1 o_ (by rw[d];have:=T.ok.n16;omega) (by have:=T.ok.n16;omega));rw[decide_eq_true o_]at q;have H:=J (h.below T.ok M);have c6:=J M;have u:=J T.ok;have b9:=J (λW(hd:c.Dy W B V (U A _ cc) D _ aS P)=>P7 A cc _ _ hd.tab hd.map hd.gH (λk hk=>⟨hd.ke k hk,λe=>(hd.fv k hk).1 (.inr (.inr (.inl e)))⟩) (kG hd.keys) ⟨G,p.key⟩ T.wd o_ p.ga Z Z.b.fit (λy hy=>(p.ga y hy).b.fit) T.ok.om);have HQ:Kp (∀w' V' D',c.Dy _ B _ (U A pre.length cc) _ _ _ _->Mv _ w _ _->iH c w B V (U A pre.length cc) pre _ P [(pre,x.ag)] (a+1) (aT fs K).length _ w'):=λw' V' D' h1 h2=>⟨rfl,B,V',_,D',aS,h1,h2,λ_ _=>rfl,λj x' e=>⟨_,e,o_⟩⟩;generalize f6:iH c w B V _ _ _ P _ _ _=Q at*;have Hh:=J h;clear f6 p hx h M X R Z hP hm e2 G e6 HN T ha hK;obtain⟨⟨b0,N,b2,b3,b4,Z,b6,b7⟩,_⟩:=Wt.eight H.box;rw[d]at N q;clear L d;go_in;go_wp2_with fail;apply q.mono;rintro e w2⟨rfl,n⟩;have d3:=J (H.below u n);have G:=bu z n;have d5:=ay c6 n;clear b0 N b2 b3 b4 Z b6 b7 n;go_upto_region 3 with fail;have c9:=J (d3.below u bR.drew);have d7:Kp (aa _ _ _ _):=G.under bR.drew;have f4:=J d5.drew;obtain⟨xk,xc,⟨ac,s0,n0,x0,s1,n1,x1,s2,n2,x2⟩⟩:=x;dsimp only[bH]at G d7 b9⊢;obtain⟨⟨b0,N,b2,b3,b4,Z,b6,b7⟩,bf⟩:=Wt.eight c9.box;obtain⟨a0,a1,a2,a3,a4,a5,a6,a7,a8,a9,e7,f0⟩:=(aa.gu d7).1;apply wp_region_noPanic;refine br (t:=14) (S:=(λw'=>C w' _ 4 (Y _ 0)/\C w' _ 5 (U A _ _)/\C w' _ 2 _/\C w' _ 3 _/\C w' _ 4 _/\C w' _ 5 _/\C w' _ 6 _/\C w' _ 7 _/\C w' _ 8 _/\C w' _ 9 _/\C w' _ _ _/\C w' _ _ _)) k_ ⟨b4,Z,a2,a3,a4,a5,a6,a7,a8,a9,e7,f0⟩ (λf=> ?_);generalize w2.drew=wd at*;apply tD 0 1 2 3 f;apply tD 4 5 6 7 f;apply eR 8 9 10 f;refine oT 11 (λK hK=> ?_);go_simp;apply(b9 _ c9).mono;rintro e w3⟨rfl,D',V',G⟩;have c3:=J G;clear G;have G:=J (c9.put u c3);have f3:=J (d7.ax c3.ax (λe=>by have:=Hh.oE (.inr (.inr (.inl rfl)));omega));try go_simp
  refine oK hK ?_ (λr=> ?_)
  .exact⟨(Wt.eight G.1.box).1.2.2.2.2.1,(Wt.eight G.1.box).1.2.2.2.2.2.1,(aa.gu f3).1.2.2⟩
  clear hK K f;have f:=r;clear r;clear b0 N b2 b3 b4 Z b6 b7 a0 a1 a2 a3 a4 a5 a6 a7 a8 a9 e7 f0 bf;obtain⟨⟨b0,N,b2,b3,b4,Z,b6,b7⟩,bf⟩:=Wt.eight G.1.box;have e8:=J (G.1.err u);have Hq:=J (HQ _ _ _ e8.1 ((((Mv.start _ w).below f4).trans G.2).trans e8.2));refine qx (i:=12) (oi:= ?op12) (v:= ?vp12) ?ap12 k_ k_ k_ k_ (λ_ _ _ h=>h) ?bp12 f ?cp12
  case ap12=>rfl
  case bp12=>(refine Or.inl ⟨o_,?_⟩;intro w G;(try dsimp only at G);go_simp;try rfl)
  try simp only[Act.put,setIfInBounds_toArray,set_cons_zero,set_cons_succ]
  apply tk 13 f;refine fC k_ (by first|exact g_|rfl) k_ (λK hK=> ?_);go_simp;apply hK.out _ _;clear hK K f;apply NoPanic.normal
  clear b0 N b2 b3 b4 Z b6 b7 bf;go_wp2;go_end0;exact Hq
 .have g0:a+1<c.sns.length:=o_;have hm:fb (decide (a+1=c.sns.length)) pl x=eY pl x:=by unfold fb;grind
  have R:=hx;unfold lY at R;rw[if_neg (by rw[T.lens];omega)]at R;have G:=J (λW hd=>HN g0 K _ _ P B V (U A pre.length cc) D W _ p R hd);rw[hm];obtain⟨w1,d8⟩:=e_ (w.alloc (.cells (bH (eY pl x)) 155));have M:=X (eY pl x);have z:=J (aa.new w 155 (bH (eY pl x)));rw[d8]at M z;have q:=J (mD c.Ax c.ys.length c.cx c.m a w1 o_ (by rw[d];have:=T.ok.n16;omega) (by have:=T.ok.n16;omega));rw[decide_eq_false o_]at q;have H:=J (h.below T.ok M);have c6:=J M;have u:=J T.ok;have HQ:Kp (∀w1 w' e,E w _->iH c w1 B V _ _ _ P _ _ _ e _->e = .returned _/\iH c w B V (U A pre.length cc) pre aS P (bZ fs (O.drop (a+1)) (a+1) K pre) (a+1) (aT fs K).length _ w'):=λw1 w' e M⟨e1,f5,V',f7,D',went',h1,h2,D⟩=>⟨e1,rfl,_,_,_,_,_,h1,((Mv.start _ w).below M).trans h2,D⟩;generalize f8:iH c w B V _ _ _ P _ _ _=Q at*;obtain⟨⟨b0,N,b2,b3,b4,Z,b6,b7⟩,_⟩:=Wt.eight H.box;rw[d]at N q;have U:=T.ok.n16;have U:IntKind.i64.wrap (a+1)=(a+1:Nat):=by rw[IntWalk.i64_in _ o_];omega
  clear f8 L d hx p h M X R HN T hm;generalize M:(eY _ x)=y at*;have L:pl x.child=y.child:=by rw[<-M];rfl
  rw[L]at G;clear L M;obtain⟨yk,L,L⟩:=y;generalize a+1=a1 at*;dsimp only[bH]at z G⊢;go_in;go_wp2_with fail;apply q.mono;rintro e w2⟨rfl,n⟩;have d3:=J (H.below u n);have y:=(z.under n).cell 1;have d5:=ay c6 n;clear b0 N b2 b3 b4 Z b6 b7 n;go_wp2_with fail;apply(G _ d3).mono;intro e w3 D;obtain⟨rfl,u⟩:=HQ _ _ _ d5 D;have Hq:=J u;clear D u y;go_wp2;go_end0;exact Hq
def zq(c:Wt)(s:aN)(fs:List Fa)(st:St)(b:List (au×Pk))(m:Nat)(pl:Nat->Nat)(a:Nat):Prop:=∀(K:cL)(pre aS:LN)(P:List (LN×Ag))(e V:Nat->Prop)(f:Value)(D:DataW Value)(w:World)(x:Cl)(d:au)(p:Pk)(t k key:Nat),
 b[a]? = some (d,p)->gj p=some t->(bL d p t)[k]? = some key->mQ c fs m (b.drop (a+1)) (a+1) (aT fs K).length (pre++fZ d p t key) aS P->aT fs K≠[]->lY s fs st a K x->c.Dy w e V f D pre aS P ->
 Calls prog 186 #[Y c.gw 0,N a,N k,.agg (bH (fb (decide (a+1=c.sns.length)) pl x))] w (iH c w e V f pre aS P (bZ fs (b.drop (a+1)) (a+1) K (pre++fZ d p t key)) (a+1) (aT fs K).length)
def ES{c s fs st Lq m top pl}(T:qO c s fs st Lq m top pl){a}(HC:uL c s fs st Lq m pl a):zq c s fs st Lq m pl a:=by
 intro K pre aS P Fs V kv D w x d p t k key hL ht hk d3 hK hx h;obtain⟨ha,e8⟩:=T.scan a _ hL;have q:=e8.dz;unfold ql at q;rw[ht]at q;dsimp only at q;have i5:=(aO hk).1;have HS:=J (λW O D' hd=>HC K _ _ P Fs V O D' W x d3 hK hx hd);obtain⟨A,cc,rfl⟩:=bY h.keys;have d7:=J T.ok;generalize fb _ _ x=y at*;have hb:=(ah _ w).alloc (ae _) (.cells (bH y) 155);have f4:=J (aa.new w 155 (bH y));have z:=J (h.below T.ok hb);have e7:=J hb;obtain⟨w1,o7⟩:=e_ (w.alloc (.cells (bH y) 155))
 rw[o7]at f4 z e7;obtain⟨b,off,eA,t0,c0,c1,c2⟩:=z.lR.scan a ha;obtain⟨⟨b0,b1,b2,b3,b4,b5,b6,b7⟩,_⟩:=Wt.eight z.box;rw[eA]at b3;have h0:0<=(a:Int):=o_
 have h1:a<(c.sns.length:Int):=o_
 have Hh:=J h;by_cases hg:p.g=true
 .obtain⟨Z,f2⟩:=e_ (fu d t p.bG key)
  have e1:fZ d p t key=[Z]:=by unfold fZ;grind
  rw[if_pos hg]at q;have g6:(an c.sns[a].dz)[k]? = some (N Z):=by
   rw[q];unfold an;rw[getElem?_map,getElem?_map,hk];show some (I ((fu d t p.bG key:Nat):Int))=_;rw[f2]
  have o2:k<c.sns[a].dz.length:=r_
  have k9:pre.length<=16:=by
   have:=d3.wd;rw[aE]at this;have:=T.wd;omega
  rw[e1]at HS⊢
  have HQ:Kp (∀w4 L w6 n1 A6 c6 u V' D' went',n1=pre.length+1->Mv _ w _ _->c.Dy _ u V' (U A6 n1 c6) D' (pre++[Z]) went' _->Mv (c.F Fs V L) w4 w6 (c.F u V' (U A6 n1 c6))->((∀j,j<a+1->went'[j]? = aS[j]?)/\∀ j x',went'[j]? = some x'->∃x,aS[j]? = some x/\x'<=x+(aT fs K).length)->iH c w Fs V (U A pre.length cc) _ _ P (bZ fs (Lq.drop (a+1)) (a+1) K (pre++[Z])) _ _ _ (w6.setCell _ (U A6 _ c6))):=(λw4 L w6 n1 A6 c6 u V' D' went' e hm hd p8 hw=>by
   subst e;have hp:=hd.pop T.ok rfl
   exact⟨rfl,u,_,_,_,_,hp.1,(hm.trans p8).trans hp.2,hw⟩)
  have n9:=J T.b;have HP:=J (λ(w0 wc w5:World) m4(hd:c.Dy _ Fs V (U A pre.length cc) D _ aS P)(hb:E w0 wc)(ho:w5.ownsRow _ 3 1 m4 _ (an pre++[N Z])) ha=>hd.push T.ok hb ho ha);have e0:=(z.lR.each _ (gM ha)).dz;have d4:=(aO g6).1;obtain⟨bi,oi,f8,t6,g3⟩:=e0.at_ d4;rw[(aO g6).2]at g3;have k2:Kp (c.R _):=.inr ⟨_,gM ha,.inr ⟨λe=>r_,_,f8⟩⟩;generalize f3:iH c w _ V _ _ _ P _ _ _=Q at*;obtain⟨nn,k3⟩:=e_ (c.sns[a].dz.length)
  rw[k3]at o2 c2;rw[f8]at c2;have q0:Kp (∀w4 L e w6,iH c _ Fs V L _ _ P (bZ fs (Lq.drop (a+1)) (a+1) K (pre++[Z])) _ _ e _->e = .returned _/\∃u V' O D' went',c.Dy _ u _ O _ (pre++[Z]) _ _/\Mv _ w4 w6 _/\((∀j,j<a+1->went'[j]? = aS[j]?)/\∀ j x',went'[j]? = some _->∃x,aS[j]? = some x/\x'<=x+(aT fs K).length)):=λw4 L e w6 h=>h;have e4:=J (λW(hd:c.Dy W Fs V (U A pre.length cc) D pre aS P)=>hd.keys);clear f3 k3 q e8 hL hk d3 hx hb ht h HC T e1 hK hg f2 g6 i5 e0 d4 f8;generalize c.sns[a]=sn at*;obtain⟨d6,At,f1,ct,Ai,it,ci⟩:=sn;dsimp only at c0 c1 c2;obtain⟨nt,c8⟩:=e_ f1.length
  rw[c8]at c1;clear c8;have G:=(ah _ w1).alloc (ae _) (.cells #[I d6,U At nt ct,U (some ⟨bi,oi,none⟩) nn ci] 203);have f0:=J (aa.new w1 203 #[I d6,U At nt ct,U (some ⟨bi,oi,none⟩) nn ci]);have b9:=J (z.below d7 G);have c3:=ay e7 G;have b8:=bu f4 G;have j2:=al G g3;have t8:((nn:Int) == 0)=false:=o_
  obtain⟨n,hn⟩:=e_ pre.length
  obtain⟨n1,d5⟩:=e_ (n+1)
  rw[hn]at HP HQ e4 b5 z b9 Hh k9;have Hn:=J hn;have c9:=J d5;clear hn d5;go_in;go_upto_region 4 with fail
  generalize f9:w1.alloc _=Y at*;generalize s6:w1.heap.size=g8 at*;clear f9 b0 b1 b2 b3 b4 b5 b6 b7 c0 c1 c2 G;have c4:=J (b9.below d7 bR.drew);have k6:bi<Y.heap.size:=by have:=f0.lt;omega
  have k7:=f0.lt;obtain⟨⟨b0,b1,b2,b3,b4,b5,b6,b7⟩,bf⟩:=Wt.eight c4.box;have e2:=(f0.under bR.drew).cell 2;have g9:Y.drew.cell? _=some _:=j2;have j0:0<=(k:Int):=o_
  have j1:k<(nn:Int):=o_
  obtain⟨i0,p5,p6,o1,q6⟩:=info_parts iK;have k1:=J (e4 _ c4);have q8:=kp (show c.B<=Y.drew.heap.size from by have h1:=n9.o;have h2:=c4.o.box.lt;omega);have d5:n<1048576*64:=o_
  have a0:Kp (∀j,(Value.slice A n _).ownBlock=some j->j≠c.gw/\j≠bi/\j≠g8):=λj hj=>⟨λe=>z.fk j hj (.inl e),λe=>z.ro _ k2 (.inr (.inr (.inr (e▸hj)))),λe=>by have:=z.kE hj;omega⟩;apply wp_region_noPanic;refine br (t:=14) (S:=(λw'=>C w' _ 5 (U A n _)/\C w' _ 2 (U _ _ _)/\C w' _ _ _)) k_ ⟨b5,e2,g9⟩ (λf=> ?_);have e3:=c4.box.lt;have k5:bi<Y.drew.heap.size:=k6;have l7:g8<Y.drew.heap.size:=k7;have d8:Kp (aa _ _ _ _):=b8.under bR.drew;have j3:Kp (E w _):=c3.trans (bR.drew.mono c3.size);generalize Y.drew=wd at*;apply tD 0 1 2 3 f;apply tD 4 5 6 7 f;apply tB 8 9 f;refine oT 10 (λK hK=> ?_)
  go_simp
  refine oK hK ?_ (λr=> ?_)
  .exact⟨al (bR.alloc o_ _) f.1,al (bR.alloc o_ _) f.2.1,al (bR.alloc o_ _) f.2.2⟩
  clear hK K f;clear r;refine oT 11 (λK hK=> ?_);apply jq rfl _ _ _ rfl _ 3 _ _ 8 underlying84 p5 p6 o1 q6 rfl _ _ rfl (U A n _) n _ rfl k1 rfl d5 d_ q8;intro v5 w5 X a9;obtain⟨A5,c5,h5⟩:=bY X;subst h5;have a8:=J X;have H:=J a9;clear X a9
  go_simp
  refine oK hK ?_ (λr=> ?_)
  .exact⟨(bF (H.bI e3 (λe=>(a0 _ e).1 rfl))).trans b5,(bF (H.bI l7 (λe=>(a0 _ e).2.2 rfl))).trans e2,(bF (H.bI k5 (λe=>(a0 _ e).2.1 rfl))).trans g9⟩
  clear hK K;have f:=r;clear r;have d1:= H.bI e3 (λe=>(a0 _ e).1 rfl);have p0:=J ((bF (a:=(M c.gw 5)) d1).trans b5);have f5:w5.frozen? (M c.gw 5)=false:=by have h:=bf 5;unfold World.frozen? at h⊢;rw[d1];omega
  obtain⟨k0,i9⟩:=HP _ _ _ _ c4 bR a8 H;have n7:=J k0;have q1:=J (((Mv.start _ w).below j3.out).trans i9);have d9:Kp (aa (w5.setCell (M c.gw 5) (U A5 (n+1) c5)) _ _ _):=aa.aJ ((H.bI d8.lt (λe=>by have:=Hh.kE e;omega)).trans d8) (by have:=Hh.box.lt;simp;omega) _;clear k0 i9 b0 b1 b2 b3 b4 b6 b7 bf;refine qx (i:=12) (oi:= ?op12) (v:= ?vp12) ?ap12 k_ k_ k_ k_ (λ_ _ _ h=>h) ?bp12 f ?cp12
  case ap12=>rfl
  case bp12=>(refine Or.inl ⟨o_,?_⟩;intro w g4;(try dsimp only at g4);go_simp;try rfl)
  try simp only[Act.put,setIfInBounds_toArray,set_cons_zero,set_cons_succ]
  apply tk 13 f;refine fC k_ (by first|exact g_|rfl) k_ (λK hK=> ?_)
  go_simp
  apply hK.out _ _;clear hK K f;apply NoPanic.normal
  clear b5 e2 g9 j2 g3 f5 d1;obtain⟨yk,yc,⟨ac,s0,n0,x0,s1,u2,x1,s2,n2,x2⟩⟩:=y;dsimp only[bH]at d9 HS⊢;generalize w5.setCell _ _=w6 at*;have aD:=(aa.gu d9).1;go_wp2_with fail;clear aD;apply(HS _ _ _ n7).mono;intro e w7 h7;obtain⟨rfl,u,V',u0,D',went',g0,i8,i6⟩:=q0 _ _ _ _ h7;clear h7;have a2:=g0.keys;rw[aE,Hn,length_singleton,c9]at a2;obtain⟨A7,c7,rfl⟩:=bY a2;obtain⟨g7,rfl⟩:∃g7,A7=some ⟨g7,0,none⟩:=by
   obtain⟨_,h0⟩|⟨g,cap,cur,hv,_⟩:=a2.2
   .have:=c9.o;omega
   grind
  have s3:=rH a2;have k4:=J (g0.below d7 bR.drew);have Hq:=J (HQ _ _ _ _ _ _ u _ _ _ (by rw[c9]) q1 k4 (i8.below bR.drew) i6);clear g0 i8 i6 a2;go_upto_region 6 with fail
  have t3:IntKind.i64.wrap (n1-1)=n:=by have:=c9.o;rw[IntWalk.i64_in _ o_];omega
  have l0:0<=(n:Int):=o_
  have l1:n<=(c7:Int):=by have:=c9.o;omega
  obtain⟨⟨b0,b1,b2,b3,b4,b5,b6,b7⟩,bf⟩:=Wt.eight k4.box;have f5:=bf 5;clear b0 b1 b2 b3 b4 b6 b7 bf;apply wp_region_noPanic;refine br (t:=14) (S:=(λw'=>C w' _ 5 (U _ _ _))) k_ b5 (λf=> ?_);generalize w7.drew=w8 at*;apply tD 0 1 2 3 f;apply tD 4 5 6 7 f;apply tD 8 9 10 11 f;refine qx (i:=12) (oi:= ?oq12) (v:= ?vq12) ?aq12 k_ k_ k_ k_ (λ_ _ _ h=>h) ?bq12 f ?cq12
  case aq12=>rfl
  case bq12=>(refine Or.inl ⟨o_,?_⟩;intro w g4;(try dsimp only at g4);go_simp;try rfl)
  try simp only[Act.put,setIfInBounds_toArray,set_cons_zero,set_cons_succ]
  apply tk 13 f;refine fC k_ (by first|exact g_|rfl) k_ (λK hK=> ?_)
  go_simp
  apply hK.out _ _;clear hK K f;apply NoPanic.normal
  clear b5 f5
  go_end0
  exact Hq
 .have e1:fZ d p t key=[]:=by unfold fZ;grind
  rw[if_neg hg]at q;rw[q]at c2;rw[e1,append_nil]at HS⊢;have HQ:Kp (∀w1 w' e,E w _->iH c w1 _ V _ _ _ P _ _ _ e _->e = .returned _/\iH c w Fs V (U A pre.length cc) pre aS P (bZ fs (Lq.drop (a+1)) (a+1) K pre) (a+1) (aT fs K).length _ w'):=λw1 w' e hb⟨e1,u,V',O,D',went',h1,h2,h3⟩=>⟨e1,rfl,u,_,O,_,_,h1,((Mv.start _ w).below hb).trans h2,h3⟩;generalize f3:iH c w _ V _ _ _ P _ _ _=Q at*;clear f3 q e8 hL hk d3 hx hb ht h HC T eA hK e1 hg;generalize c.sns[a]=sn at*;obtain⟨d6,At,f1,ct,Ai,it,ci⟩:=sn;dsimp only at c0 c1 c2;obtain⟨nt,c8⟩:=e_ f1.length
  rw[c8]at c1;clear c8;go_in;have G:=(ah _ w1).alloc (ae _) (.cells #[I d6,U At nt ct,U Ai (([]:LN)).length ci] 203);have b9:=J (z.below d7 G);have c3:=ay e7 G;have b8:=bu f4 G;go_upto_region 3 with fail
  dsimp only[length_nil,Int.ofNat_zero]at b9 c3 b8;obtain⟨yk,yc,⟨ac,s0,n0,x0,s1,n1,x1,s2,n2,x2⟩⟩:=y;dsimp only[bH]at b8 HS⊢;generalize f9:w1.alloc _=Y at*;clear f9 b0 b1 b2 b3 b4 b5 b6 b7 c0 c1 c2 G;have aD:=(aa.gu b8).1;go_wp2_with fail;apply(HS _ _ _ b9).mono;intro e w3 h3;obtain⟨rfl,hq⟩:=HQ _ _ _ c3 h3;have Hq:=J hq;clear h3 hq aD;go_wp2
  go_end0
  exact Hq
def oM(b off c:Nat):OA:=if c=1 then some ⟨b,off,none⟩else some ⟨b,off+12,none⟩
def PQ b off n c(h0:1<=n)(p:n<=c) w:(Instr.slice 223 (U (some ⟨b,off,none⟩) n c) (some (I 1)) none none).run prog w = .ok (U (oM b off c) (n-1) (c-1)) w:=by
 have h1:prog.cellsOf 155=12:=k_;obtain⟨q,e,f,d,g⟩:=info_parts o6;have m:1<=(n:Int):=o_;unfold oM;by_cases h:c=1<;>simp[go_sem,m]
def O'{w B b off c x xs}(h:Row w B (some ⟨b,off,none⟩) ((x::xs).flatMap ch))(q:xs.length+1<=c):Row w B (oM b off c) (xs.flatMap ch):=by
 unfold oM;by_cases h1:c=1
 .have:xs=[]:=length_eq_zero_iff.1 o_;subst this;exact .inl rfl
 .rw[if_neg h1];obtain h|⟨r,f,e,n,d⟩:=h
  .grind
  .injection e with e;injection e with g m _;subst g m;refine .inr ⟨b,_,rfl,n,λj v p=> ?_⟩;have:=d (12+j) v (by rw[flatMap_cons,getElem?_append_right o_,mr,Nat.add_sub_cancel_left];omega);grind
def Jf{b off c k x xs}(h:cE (oM b off c) (xs.flatMap ch) k):cE (some ⟨b,off,none⟩) ((x::xs).flatMap ch) k:=by
 obtain⟨_,o,e⟩:=h;refine⟨s_,off,?_⟩;unfold oM at e;grind
def KJ{d}(h:da d){a b key}(f:a<=b)(g:b<d.ai.length)(hk:key<(bE d a).length):fu d a b key<200:=by
 unfold fu;have c:a<d.ai.length:=o_;have e:a+(b-a)=b:=o_;have h1:(bE d a)=(d.ai[a]'c).ar:=by unfold bE;rw[gE c];rfl
 rw[h1]at hk;have h2:=rz h (k:=b-a) o_ hk;have m:=(h.ai (a+(b-a)) o_).n2;omega
section
variable{s:aN}{fs:List Fa}{st:St}{m:Nat}
def l6(fs:List Fa)(L:List (au×Pk))(d:au)(p:Pk)(a t:Nat)(K:cL)(pre:LN)(key:Nat):List (LN×Ag):=if aT fs (df d a t key K)=[]then []else bZ fs L (a+1) (df d a t key K) (pre++fZ d p t key)
def gQ(fs:List Fa)(L:List (au×Pk))(d:au)(p:Pk)(a t:Nat)(K:cL)(pre ks:LN):List (LN×Ag):=ks.flatMap (l6 fs L d p a t K pre)
def kX(fs:List Fa)(d:au)(a t:Nat)(K:cL)(ks:LN):Nat:=(ks.map λk=>(aT fs (df d a t k K)).length).sum
def DG(L:List (au×Pk))(d:au)(p:Pk)(a t:Nat)(K:cL)(pre ks:LN)(k:Nat):gQ fs L d p a t K pre (ks++[k])=gQ fs L d p a t K pre ks++l6 fs L d p a t K pre k:=by
 unfold gQ;simp
def xR(d:au)(a t:Nat)(K:cL)(ks:LN)(k:Nat):kX fs d a t K (ks++[k])=kX fs d a t K ks+(aT fs (df d a t k K)).length:=by
 unfold kX;simp
def Cy(d:au)(a t:Nat)(K:cL){ks:LN}(h:ks.Nodup):kX fs d a t K ks<=(aT fs K).length:=Dm _ d a t K h
def DF(h:il m fs)(L:List (au×Pk))(d:au)(p:Pk)(a t:Nat)(K:cL)(pre:LN):∀ks:LN,(gQ fs L d p a t K pre ks).length<=kX fs d a t K ks
 | []=>ae _
 |k::ks=>by
  have:=DF h L d p a t K pre ks;unfold gQ kX at this⊢;rw[flatMap_cons,aE,map_cons,sum_cons];have h1:(l6 fs L d p a t K pre k).length<=(aT fs (df d a t k K)).length:=by
   unfold l6;split
   .simp
   .exact rN h L _ _ _ ‹_›
  omega
def O7(h:il m fs)(L:List (au×Pk))(d:au)(p:Pk)(a t:Nat)(K:cL)(pre ks:LN):∀x∈gQ fs L d p a t K pre ks,GA m 2560 x.2:=λx hx=>by
 obtain⟨k,_,hx⟩:=mem_flatMap.1 hx;unfold l6 at hx;split at hx
 .grind
 .exact yw h L _ _ _ ‹_› x hx
def O8(L:List (au×Pk)){d:au}(p:Pk){a t:Nat}{K:cL}(pre:LN){l:List Cl}(g:vN s fs st d a t K l)(ks:LN)(n:Nat)(h2:∀y∈ks.drop n,y<200)(h:∀x∈l,∀y∈ks.drop n,x.key<y):gQ fs L d p a t K pre ks=gQ fs L d p a t K pre (ks.take n):=by
 have e:gQ fs L d p a t K pre (ks.drop n)=[]:=by
  unfold gQ;rw[flatMap_eq_nil_iff];intro y b;unfold l6;split
  .rfl
  .obtain⟨c,f,hk⟩:=g.has y (h2 y b) ‹_›;grind
 have:=congrArg (gQ fs L d p a t K pre) (take_append_drop n ks);rw[<-this];unfold gQ at e⊢;grind
def O5(L:List (au×Pk)){d:au}(p:Pk){a t:Nat}{K:cL}(pre:LN){l:List Cl}(f:vN s fs st d a t K l){key:Nat}(hk:key<200)(h:∀x∈l,x.key≠key):l6 fs L d p a t K pre key=[]:=by
 unfold l6;split
 .rfl
 .obtain⟨c,b,e⟩:=f.has key hk ‹_›;grind
def O6(L:List (au×Pk)){d:au}(p:Pk){a t:Nat}{K:cL}(pre:LN){key:Nat}(h:aT fs (df d a t key K)≠[]):l6 fs L d p a t K pre key=bZ fs L (a+1) (df d a t key K) (pre++fZ d p t key):=by
 unfold l6;grind
end
def Wn(a N:Nat)(b c:LN):Prop:=(∀j,j<a->c[j]? = b[j]?)/\∀(j d:Nat),c[j]? = some d->∃x,b[j]? = some x/\d<=x+(if j=a then 1 else N)
def Wn.first{a x b}(h:b[a]? = some x):Wn a 0 b (b.set a (x+1)):=by
 refine⟨λj d=>r_,λj c hx=> ?_⟩;grind
def Wn.next{a N m n c f}(h:Wn a N n c)(h1:∀j,j<a+1->f[j]? = c[j]?)(h2:∀(j b:Nat),f[j]? = some b->∃x,c[j]? = some x/\b<=x+m):Wn a (N+m) n f:=by
 refine⟨λj q=>(h1 j o_).trans (h.1 j q),λj b hx=> ?_⟩;by_cases e:j=a
 .rw[h1 j o_]at hx;obtain⟨x,d,g⟩:=h.2 j b hx;grind
 .obtain⟨y,d,g⟩:=h2 j b hx;obtain⟨x,p,r⟩:=h.2 j y d;grind
def Wn.same{a N c d f}(h:Wn a N d f)(n:N<=c):Wn a c d f:=by
 refine⟨h.1,λj m hx=> ?_⟩;obtain⟨x,g,b⟩:=h.2 j m hx;grind
def Wn.qZ{a N M c d}(h:Wn a N c d)(g:N<=M)(h1:1<=M):(∀j,j<a->d[j]? = c[j]?)/\∀(j b:Nat),d[j]? = some b->∃x,c[j]? = some x/\b<=x+M:=by
 refine⟨h.1,λj b hx=> ?_⟩;obtain⟨x,f,e⟩:=h.2 j b hx;grind
def mQ.Kc{c fs m}{e:List (au×Pk)}{a t key K pre aS went' P d p ks}(h:mQ c fs m (e.drop a) a (aT fs K).length pre aS P)(v:il m fs)(A:e[a]? = some (d,p))(hd:da d)(n:gz d p)(ht:gj p=some t)(hk:key∈bL d p t)(B:(ks++[key]).Nodup)(r:Wn a (kX fs d a t K ks) aS went') :
 mQ c fs m (e.drop (a+1)) (a+1) (aT fs (df d a t key K)).length (pre++fZ d p t key) went' (P++gQ fs (e.drop (a+1)) d p a t K pre ks):=by
 obtain⟨u,s⟩:=aO A;have q:=Cy (fs:=fs) d a t K B;rw[xR]at q;have f:e.drop a=(d,p)::e.drop (a+1):=by rw[drop_eq_getElem_cons u,s]
 have g:=h.wd;rw[f,ze]at g;obtain⟨t1,t2,D⟩:=lU n ht;refine⟨?_,λy b=> ?_,?_,λx hx=> ?_,λj E x hx=> ?_⟩
 .rw[aE];unfold fZ;grind
 .obtain b|b:=mem_append.1 b
  .exact h.key y b
  .unfold fZ at b;split at b
   .rw[mem_singleton.1 b];exact KJ hd (D ‹_›) n.bG (uu hk)
   .cases b
 .rw[aE];have:=DF v (e.drop (a+1)) d p a t K pre ks;have:=h.yj;omega
 .obtain hx|hx:=mem_append.1 hx
  .exact h.ga x hx
  .exact O7 v _ _ _ _ _ _ _ _ x hx
 .obtain⟨y,z,C⟩:=r.2 j x hx;rw[if_neg o_]at C;have:=h.aS j o_ y z;omega
def Lb(last:Bool)(pl:Nat->Nat)(n:aQ):(cH last pl n).lists=n.lists.map (·.map (fb last pl))/\(cH last pl n).all=fb last pl n.all/\(cH last pl n).aj=n.aj:=by
 unfold cH fb;cases last
 .simp
 simp
def La(last:Bool)(pl:Nat->Nat)(x:Cl):(fb last pl x).key=x.key:=by
 unfold fb;cases last<;>rfl
structure lG(c:Wt)(w:World)(F:Nat->Prop)(A:OA)(n cc:Nat)(l:List Cl):Prop where
 len:l.length=n
 cap:n<=cc
 row:Row w w.heap.size A (l.flatMap ch)
 off:∀k,cE A (l.flatMap ch) k->¬F k
def lG.mv{c:Wt}{w w':World}{F b:Nat->Prop}{A:OA}{n cc:Nat}{l:List Cl}(h:lG c w F A n cc l)(d:Mv F w w' b):lG c w' b A n cc l:=
 have h1:=d.row h.row h.off;⟨h.len,h.cap,h1.1,h1.2⟩
def lG.tail{c:Wt}{w:World}{F:Nat->Prop}{b off n cc:Nat}{x:Cl}{l:List Cl}(h:lG c w F (some ⟨b,off,none⟩) n cc (x::l)):lG c w F (oM b off cc) (n-1) (cc-1) l:=by
 have d:=h.len;have e:=h.cap;rw[length_cons]at d;exact⟨o_,o_,O' h.row o_,λk hk=>h.off k (Jf hk)⟩
def ET{c:Wt}{s:aN}{fs:List Fa}{st:St}{O:List (au×Pk)}{m:Nat}{top:Int}{pl:Nat->Nat}(T:qO c s fs st O m top pl){a:Nat}(q7:a<c.sns.length)(HC:uL c s fs st O m pl a)(HI:zq c s fs st O m pl a):vv c fs st O m pl a:=by
 intro K pre aS P Fs V kv D w id a8 m8 h;obtain⟨n,hn,Z,a6,hK⟩:=T.nY.wC T.dw m8;obtain⟨j3,f9⟩:=T.node _ n hn;have p9:a<c.ys.length:=o_
 have i2:im (decide (a+1=c.ys.length)) (c.ys[a]'p9).keys c.m (cH (decide (a+1=c.sns.length)) pl n):=r_
 clear f9 j3;obtain⟨⟨d,p⟩,hL⟩:∃x,O[a]? = some x:=⟨_,gE (by rw[T.len,T.lens];omega)⟩
 obtain⟨i9,q3⟩:=T.af _ _ hL;obtain⟨ha,h7⟩:=T.scan _ _ hL;have E4:=length_pos_iff.2 hK;obtain⟨x,hx⟩:∃x,aS[a]? = some x:=⟨_,gE (by rw[h.lV];omega)⟩
 have z5:=a8.aS a o_ x hx;have HG:=J (QF T.src T.ok h hn Z p9 i2 hx o_);have s4:=J T.ok;have hd:da d:=by
  have h1:=aO i9;have h2:=T.bO.af _ h1.1;rw[h1.2]at h2;omega
 obtain⟨k9,t8⟩:=aO hL;have f7:O.drop a=(d,p)::O.drop (a+1):=by rw[drop_eq_getElem_cons k9,t8]
 obtain⟨ml,f4⟩:=e_ (decide (a+1=c.sns.length))
 obtain⟨m1,m2,m3⟩:=Lb ml pl n;rw[f4]at HG;dsimp only at h7 q3 i9;have t3:=h7.t;have l4:=h7.take;have d4:=J a8;have E3:=J m8;have Hn:=J hn;have u6:=J a6;have HL:=J hL;have Hx:=J hx;have HT:=J T;have a9:=J f7;have m0:=J hd;have i1:=J q3;have A4:=J i9;have HK:=J hK;have r7:=J f4;have Hm:Kp (_/\_/\_):=⟨m1,m2,m3⟩;have x8:=J HC;have x5:=J HI;have o7:=J t3;have k6:=J l4;have h0:0<=(a:Int):=o_
 have h1:a<(c.sns.length:Int):=o_
 have D4:Kp (∀l∈n.lists,l.length<=1000000):=(λl hl=>by
  have h2:=i2.rB (l.map (fb ml pl)) r_;grind)
 have z3:Kp (n.lists.length<=4):=(by
  have h2:=i2.n4;grind)
 have Ha:=J ha;clear h a8 m8 hn a6 hL hx T f7 hd q3 i9 hK f4 m1 m2 m3 HC HI t3 l4 h7 i2 z5 E4 t8 k9 q7 p9;generalize r1:iH c w _ V _ _ _ P _ a _=Q at*;have s5:=J r1;clear r1;clear Z;go_in;go_wp2_with fail;apply HG.mono;rintro e w1⟨nd,a0,rfl,v1,r3,v3,s6,b8,f8⟩;have d5:=(ah _ w1).alloc (ae _) (.cells (aZ nd) 157);have A7:=J (aa.new w1 157 (aZ nd));have p5:=J (b8.below s4 d5);have z6:=J (f8.below d5);have v0:=J ((r3.below d5).more d5.size);have j0:=J v1;have z8:=J v3;have F0:=J s6;have B0:Kp (∀k,c.F _ V _ k\/c.R k->k<w1.heap.size):=λk hk=>hk.elim b8.fY b8.qj;have G2:=J d5;clear v1 r3 v3 s6 b8 f8 d5 HG;have ha:=Ha.o;obtain⟨b,off,eA,S8,c0,c1,c2⟩:=p5.lR.scan a ha;obtain⟨⟨b0,b1,b2,b3,b4,b5,b6,b7⟩,_⟩:=Wt.eight p5.box;rw[eA]at b3;have k3:Kp (∀W a0 V' B1 D' y3 P',c.Dy W a0 V' B1 D' pre y3 P'->Row W _ _ _):=λW _ _ _ _ _ _ hd=>(hd.lR.each _ (gM ha)).take;generalize D5:(c.sns[a]'ha)=sn at*;have E7:=e_ (w1.alloc (.cells (aZ nd) 157))
 obtain⟨h5,At,t6,ct,Ai,it,ci⟩:=sn;dsimp only at c0 c1 c2 o7 k6 k3;obtain⟨nt,q0⟩:=e_ t6.length
 obtain⟨ni,r0⟩:=e_ it.length
 rw[q0]at c1;rw[r0]at c2;have m4:=J q0;clear q0 r0 D5 Ha;have d3:=(ah _ (w1.alloc (.cells (aZ nd) 157))).alloc (ae _) (.cells #[I h5,U At nt ct,U Ai ni ci] 203);have i7:=J (aa.new (w1.alloc (.cells (aZ nd) 157)) 203 #[I h5,U At nt ct,U Ai ni ci]);have g7:=bu A7 d3;have i0:=J (p5.below s4 d3);have g9:=J (z6.below d3);have c6:=J ((v0.below d3).more d3.size);have p8:(w1.alloc (.cells (aZ nd) 157)).heap.size=w1.heap.size+1:=s_
 clear d3;obtain⟨G4,nA,ls,nc,⟨ak,ac,ag⟩⟩:=nd;dsimp only[aZ]at i7 g7 i0 g9 c6 p8⊢;go_upto_region 4 with fail
 rw[p8]at i7;clear c0 c1 c2 b0 b1 b2 b3 b4 b5 b6 b7;have f5:⟨ak,ac,ag⟩=fb ml pl n.all:=by
  rw[<-Hm.2.1,<-j0];rfl
 have f3:Kp (ls.map _=n.lists.map _):=(by
  rw[<-Hm.1,<-j0]
  rfl)
 have n3:=J f5;clear f5;generalize A1:(w1.alloc _).alloc _=w3 at*;generalize y6:w1.heap.size=gN at*;clear A1 E7 p8 y6;have y1:=J (Wn.first Hx);rcases ht:gj p with _|t
 .have x4:h5 = -1:=by rw[o7];unfold iN;rw[ht]
  subst x4;have r2:bZ fs (O.drop a) a K pre=bZ fs (O.drop (a+1)) (a+1) K pre:=by
   rw[a9,bZ,ht]
  have t7:p.g=false:=by
   unfold gj at ht;split at ht
   .grind
   .grind
  have o2:=d4.wd;rw[a9,ze,t7]at o2;have k4:mQ c fs m (O.drop (a+1)) (a+1) _ _ (aS.set a (x+1)) P:=⟨r_,d4.key,d4.yj,d4.ga,λj hj y hy=>d4.aS j o_ y r_⟩
  have l7:=J (x8 K _ _ P _ V _ D _ _ k4 HK u6 i0);rw[r7,<-n3]at l7
  have HQ:Kp (∀e w',iH c w3 a0 V kv pre (aS.set a (x+1)) P (bZ fs (O.drop (a+1)) (a+1) K pre) (a+1) (aT fs K).length e w'->e = .returned _/\Q _ _):=λe w'⟨e1,_,_,_,_,_,h1,h2,h3,h4⟩=>⟨e1,by
   rw[<-s5,r2];have h6:=length_pos_iff.2 HK;have hw:=Wn.next (Wn.first Hx) h3 h4;rw[Nat.zero_add]at hw
   exact⟨rfl,_,_,_,_,_,h1,g9.trans h2,hw.qZ o_ h6⟩⟩
  clear r2 k4 o2 ht t7;dsimp only[bH]at l7;have qD:=(aa.bK g7).1;obtain⟨d0,d1,d2,_⟩:=i7.three;go_wp2_with fail;apply l7.mono;intro e w4 h4;obtain⟨rfl,hq⟩:=HQ _ _ h4;have Hq:=J hq;clear h4 hq qD d0 d1 d2;go_wp2
  go_end0
  exact Hq
 .obtain⟨U2,l,i6,_,g8,c3⟩:=HT.nY.OX HT.bO HT.fact HT.dw E3 A4 (lU i1 ht).1;rw[Hn]at i6;injection i6 with i6
  subst i6;have H:t<ls.length:=by
   have h2:=congrArg length f3;rw[lM,lM]at h2;have:=(aO g8).1;omega
  have a4:(ls[t]'H).cs=l.map (fb ml pl):=by
   have h2:=congrArg (λz=>z[t]?) f3;rw[getElem?_map,getElem?_map,g8,gE H]at h2;grind
  have z0:h5=t:=by rw[o7];unfold iN;rw[ht]
  subst z0;have E1:t6=bL d p t:=by rw[k6];unfold nG;rw[ht]
  subst E1;have l0:bZ fs (O.drop a) a K pre=gQ fs (O.drop (a+1)) d p a t K pre (bL d p t):=by
   rw[a9,bZ,ht];rfl
  have Z:(bL d p t).Nodup:=by unfold bL;exact List.Nodup.sublist filter_sublist nodup_range
  have s3:=Ei d p t;have k8:∀y∈bL d p t,y<200:=λy hy=>by
   have h2:=uu hy;obtain⟨t1,_,_⟩:=lU i1 ht;have h3:(bE d t)=(d.ai[t]'t1).ar:=by unfold bE;rw[gE t1];rfl
   rw[h3]at h2;have:=(m0.ai t t1).n2;omega
  have HQ:Kp (∀wr B V1 E D1 q k,c.Dy _ B V1 E D1 _ q _->Mv _ w _ _->Wn a (kX _ d a t K ((bL d p t).take k)) _ q->gQ _ _ d p a t K _ _=gQ fs (O.drop (a+1)) d p a t K pre ((bL d p t).take k)->Q _ wr):=(λwr B V1 E D1 q k h1 h2 h3 h4=>by
   rw[<-s5,l0,h4]
   exact⟨rfl,B,_,E,_,q,h1,h2,h3.qZ (Cy d a t K (Z.sublist (take_sublist _ _))) (length_pos_iff.2 HK)⟩)
  have x7:=J (λks key q hk(hn:(ks++[key]).Nodup) i3=>d4.Kc (went':=q) HT.dw HL m0 i1 ht hk hn i3);have p6:=J (λW B V1 E D1 q P1(k key) y hk hy(he:y.key=key) a8 hd=>x5 (df d a t key K) pre q P1 B V1 E D1 W y d p t k key HL ht hk a8 (by rw[<-he];exact(c3.cell y hy).2.1) (by rw[<-he];exact(c3.cell y hy).2.2) hd);have c5:=J c3;have z4:=J Z;have m5:=J s3;have j1:=J k8;have u8:=D4 l (mem_of_getElem? g8);obtain⟨bn,on,eN,P3,n0⟩:=c6.row.at_ (by rw[lM];exact H);rw[getElem_map]at n0;dsimp only at eN;subst eN;unfold dq at n0;have HR:Kp (lG c w3 _ (ls[t]'H).A l.length (ls[t]'H).c (l.map (fb ml pl))):=⟨o_,by have:=F0 _ (gM H);grind,by have:=c6.each _ (gM H);grind,λk hk=>(z8 k (.inr ⟨_,gM H,r_⟩)).2⟩;have k7:(ls[t]'H).cs.length=l.length:=r_
  rw[k7]at n0;generalize(ls[t]'H).A=lA at*;generalize(ls[t]'H).c=lc at*;have k5:ls.length<=4:=by
   have h2:=congrArg length f3;rw[lM,lM]at h2;rw[h2];exact z3
  obtain⟨nl,p4⟩:=e_ l.length
  rw[p4]at n0 HR u8;have H5:nt<=1000000:=by
   rw[<-m4];have:=EL (d:=d) (p:=p) (t:=t);obtain⟨t1,_,_⟩:=lU i1 ht;have h3:(bE d t)=(d.ai[t]'t1).ar:=by unfold bE;rw[gE t1];rfl
   rw[h3]at this;have:=(m0.ai t t1).n2;omega
  obtain⟨lx,u3⟩:=e_ ls.length
  rw[u3]at g7 H k5⊢;clear c3 Z s3 k8 l0 ht p4 a4 k7 u3 g8 k5;have u0:0<=(t:Int):=o_
  have u1:t<(lx:Int):=o_
  have u2:decide ((t:Int)<0)=false:=o_;have qD:=(aa.bK g7).1;obtain⟨d0,d1,d2,_⟩:=i7.three;go_wp2;clear qD d0 d1 d2
  go_loopw [9,49] (λv9 p0 wr=>∃(k j nj:Nat)(A9:OA)(c9:Nat)(B V1:Nat->Prop)(E:Value)(D1:DataW Value)(q:LN),k<=nt/\p0 = N k/\v9 = U A9 nj c9/\lG c wr (c.F B V1 E) A9 nj c9 ((l.drop j).map (fb ml pl))/\(∀y∈l.take j,∀z∈(bL d p t).drop k,y.key<z)/\c.Dy wr B V1 E D1 pre q (P++gQ fs (O.drop (a+1)) d p a t K pre ((bL d p t).take k))/\Mv (c.F Fs V kv) w wr (c.F B V1 E)/\Wn a (kX fs d a t K ((bL d p t).take k)) aS q) (λ_ p0 _=>nt-(intOf p0).toNat)
  case atStart=>exact⟨0,0,_,_,_,_,V,_,D,_,o_,rfl,rfl,HR,λy hy=>r_,(by rw[take_zero];show c.Dy w3 a0 V kv D pre (aS.set a (x+1)) (P++[]);rw[append_nil];exact i0),g9,y1⟩
  .obtain⟨k,j,nj,A9,c9,B,V1,E,D1,q,hk,rfl,rfl,Y,f1,b8,f8,i3⟩:=hrel;obtain⟨wo,rfl⟩:∃wo,wo=wr:=⟨_,rfl⟩
   have f:=J Y;have m6:=J f1;have d6:=J b8;have i4:=J f8;have g0:=J i3;clear Y f1 b8 f8 i3 HR i0 g9 c6;by_cases x6:k<nt
   .have X:k<(bL d p t).length:=by rw[m4];omega
    obtain⟨bt,ot,rfl,O2,t0⟩:=(k3 _ _ _ _ _ _ _ d6).at_ (by unfold an;rw[lM];omega);have hy:(an _)[k]'(by unfold an;rw[lM];omega) = I ((bL d p t)[k]'X:Nat):=by unfold an;simp
    rw[hy]at t0;obtain⟨key,a5⟩:=e_ ((bL d p t)[k]'X)
    have g4:=kp (show(bL d p t)[k]? = some key from r_);have h9:=kp (show(bL d p t).drop k=key::(bL d p t).drop (k+1)from by rw[drop_eq_getElem_cons X,a5]);have g3:=kp (show(bL d p t).take _=(bL d p t).take k++[key]from by rw[take_succ_eq_append_getElem X,a5]);have n9:=j1 _ (mem_of_getElem? g4);rw[a5]at t0;clear hy a5;have k0:0<=(k:Int):=o_
    have k1:k<(nt:Int):=o_
    go_wp2
    go_loopw [9] (λv9 wq=>∃(j nj:Nat)(A9:OA)(c9:Nat),v9 = .slice A9 nj c9/\lG c wq (c.F B V1 E) A9 nj c9 ((l.drop j).map (fb ml pl))/\(∀y∈l.take j,y.key<key)/\wo=wq) (λv9 _=>(match v9 with| .slice _ n _=>n|_=>0))
    case atStart=>exact⟨j,_,_,_,rfl,f,λy hy=>m6 y hy _ (by rw[h9];simp),rfl⟩
    .clear f t0 ;obtain⟨j2,M,A2,g5,rfl,Y,c4,rfl⟩:=hrel;have f:=J Y;have L:=J c4;clear Y c4;obtain⟨_,_,_,_,_,_,_,b7⟩:=(Wt.eight d6.box).1;rcases hr:l.drop j2 with _|⟨y,r⟩
     .have y9:M=0:=by have:=f.len;rw[hr]at this;exact this.symm
      subst y9;have a6:l.take j2=l:=by have h2:=take_append_drop j2 l;rw[hr,append_nil]at h2;omega
      have Hq:=J (HQ _ _ _ _ _ _ k d6 i4 g0 (O8 _ p _ c5 _ k (λz G=>j1 z (mem_of_mem_drop G)) (λy hy z G=>by
       rw[<-a6]at hy;have h1:=L y hy;rw[h9]at G;obtain rfl|G:=mem_cons.1 G
       .omega
       .have h4:=m5.o;rw[<-take_append_drop k (bL d p t),h9,pairwise_append]at h4;have:=(pairwise_cons.1 h4.2.1).1 z G
        omega)))
      clear a6 hr;go_wp2
      go_end0
      exact Hq
     .have q5:y∈l:=by have h2:=take_append_drop j2 l;rw[hr]at h2;rw[<-h2];simp
      have a1:=f.len;have n8:=f.cap;have f2:j2<l.length:=by
       obtain h2|h2:=Nat.lt_or_ge j2 l.length
       .omega
       .rw[drop_eq_nil_of_le h2]at hr;cases hr
      have t4:l.drop (j2+1)=r:=by rw[drop_eq_getElem_cons f2]at hr;injection hr
      have v4:l[j2]'f2=y:=by rw[drop_eq_getElem_cons f2]at hr;injection hr
      have q9:l.take (j2+1)=l.take j2++[y]:=by rw[take_succ_eq_append_getElem f2,v4]
      rw[hr,map_cons]at a1;rw[length_cons]at a1;have h8:Kp _:=(by have h2:=f.o;rw[hr,map_cons]at h2;exact h2);obtain⟨bo,oo,rfl,T8,e0⟩:=h8.row.at_ (k:=0) (by rw[flatMap_cons,aE,mr];omega)
      have u:Kp (∀i v,(ch _)[i]? = some v->C _ _ _ v):=(λi v hv=>by
       obtain h|⟨b',o',e,_,hc⟩:=h8.row
       .simp at h
       .injection e with e
        injection e with e1 e2 _
        subst e1 e2
        exact hc i v (by rw[flatMap_cons,getElem?_append_left (aO hv).1];omega))
      have p7:=J h8.tail;have t5:(fb ml pl y).key=y.key:=La _ _ _;have y8:=J q5;have A6:=J t4;have A5:=J q9;have D6:=J hr;have r6:0<(M:Int):=o_
      have H4:((M:Int) == 0)=false:=o_
      have u4:=J (λW P1 a8 he hd=>p6 W B V1 E D1 q P1 k _ y g4 q5 he a8 hd);rw[r7]at u4;have v7:=J (PQ bo oo M _ o_ n8);clear hr q5 t4 q9 v4 f2 a1 e0 h8;generalize r4:fb _ _ y=xx at*;obtain⟨xk,xc,⟨T7,T1,R3,K3,T0,S1,T4,L1,T6,S6⟩⟩:=xx;dsimp only at t5;subst t5;have e0:=u 0 _ rfl;have e1:=u 1 _ rfl;have e2:=u 2 _ rfl;have e3:=u 3 _ rfl;have e4:=u 4 _ rfl;have e5:=u 5 _ rfl;have e6:=u 6 _ rfl;have e7:=u 7 _ rfl;have e8:=u 8 _ rfl;have e9:=u 9 _ rfl;have n6:=u 10 _ rfl;have q1:=u 11 _ rfl;rw[Nat.add_zero]at e0;have S0:=J r4;clear r4;by_cases a4:y.key<key
      .have F6:=v7 wo;clear e1 e2 e3 e4 e5 e6 e7 e8 e9 n6 q1 b7;have u5:M-1<M:=o_
       go_wp2;refine⟨⟨_,_,_,_,rfl,by rw[A6];exact p7,λz G=> ?_,trivial⟩,u5⟩;rw[A5]at G;obtain G|G:=mem_append.1 G
       .exact L z G
       .rw[mem_singleton.1 G];omega
      .have r9:decide ((y.key:Nat)<(key:Int))=false:=o_;have H3:=decide_eq_false a4
       have f6:Kp (∀z∈l.take _,∀z'∈(bL d p t).drop _,z.key<z'):=(λz G z' B6=>by
        have h1:=L z G;have h4:=m5.o;rw[<-take_append_drop k (bL d p t),h9,pairwise_append]at h4;have:=(pairwise_cons.1 h4.2.1).1 _ B6
        omega)
       have h6:k+1<=nt:=o_
       have H1:nt-(k+1)<nt-k:=o_
       by_cases f0:y.key=key
       .have t9:((y.key:Nat) == (key:Int))=true:=o_
        have y5:=J f0;have Hq:=J (u4 _ _ (x7 _ _ q (mem_of_getElem? g4) (by rw[<-g3];exact z4.sublist (take_sublist _ _)) g0) y5 d6);have D7:Kp (aT _ _≠[]):=(by have:=(c5.cell y y8).2.1;rw[f0]at this;exact this);clear f0;dsimp only[bH]at Hq;go_wp2_with fail;apply Hq.mono;rintro e w6⟨rfl,i8,V2,i5,D2,q6,s8,m9,s7,v2⟩;have B2:=J (f.mv m9)
        have n5:Kp (c.Dy _ _ _ _ _ _ _ (P++gQ _ _ d p a t K _ ((bL d p t).take _))):=(by
         rw[g3,DG,O6 _ _ _ D7,<-append_assoc]
         exact s8)
        have y0:=J (i4.trans m9)
        have o4:Kp (Wn a (kX _ d a t K ((bL d p t).take _)) _ _):=(by
         rw[g3,xR]
         exact Wn.next g0 s7 v2)
        clear s8 m9 s7 v2 e0 e1 e2 e3 e4 e5 e6 e7 e8 e9 n6 q1 b7;go_wp2;exact⟨⟨_,_,M,_,_,_,_,_,_,_,h6,o_,rfl,B2,f6,n5,y0,o4⟩,o_⟩
       .have t9:((y.key:Nat) == (key:Int))=false:=o_
        have z2:Kp _:=(O5 (O.drop (a+1)) p pre c5 n9 λz G z1=>by
         have h3:=c5.ja;rw[<-take_append_drop j2 l]at G h3;rw[D6]at G h3;obtain G|G:=mem_append.1 G
         .have:=L z G;omega
         .obtain rfl|G:=mem_cons.1 G
          .omega
          .have:=(pairwise_cons.1 (pairwise_append.1 h3).2.1).1 z G
           omega)
        have n5:Kp (c.Dy _ B _ E _ _ q (P++gQ _ _ d p a t K _ ((bL d p t).take _))):=(by
         rw[g3,DG,z2,append_nil]
         omega)
        have o4:Kp (Wn a (kX fs d a t K ((bL d p t).take _)) _ q):=(by
         rw[g3,xR]
         exact g0.same o_)
        clear f0 e1 e2 e3 e4 e5 e6 e7 e8 e9 n6 q1;go_wp2;exact⟨⟨_,_,M,_,_,B,_,E,_,q,h6,o_,rfl,f,f6,n5,i4,o4⟩,o_⟩
   .obtain rfl:k=nt:=o_
    have Hq:=J (HQ _ _ _ _ _ _ k d6 i4 g0 (by rw[take_of_length_le (by rw[m4];omega)]));go_wp2
    go_end0
    exact Hq
def EX{c s fs st d m top pl}(T:qO c s fs st d m top pl):∀(r a:Nat),a+r+1=c.sns.length->vv c fs st d m pl a
 |0,a,h=>ET T (by omega) (uz T (by omega) λh2=>absurd h2 (by omega)) (ES T (uz T (by omega) λh2=>absurd h2 (by omega)))
 |r+1,a,h=>by
  have b:=EX T r (a+1) o_;exact ET T o_ (uz T o_ λ_=>b) (ES T (uz T o_ λ_=>b))
def jK(l:List Sn):Nat:=(l.filter λx=>decide (0<x.dz.length)).length
def Ra{l:List Sn}{k}(hk:k<l.length):jK (l.take (k+1))=jK (l.take k)+(if 0<l[k].dz.length then 1 else 0):=by
 unfold jK;rw[take_succ_eq_append_getElem hk,filter_append,aE];grind
def uF l:jK l<=l.length:=length_filter_le _ _
def QS A cc l w(h:fU w w.heap.size A l)(U:l.length<=1000):Calls Tryz.prog 107 #[.slice A l.length cc] w λe w'=>e = .returned (.int .i64 (jK l:Nat))/\Below w.heap.size w w':=by
 have J:=kp (show∀k w',k=jK l->Below w.heap.size w w'->(λe w'=>e=Ending.returned (.int .i64 (jK l))/\Below w.heap.size w w') (.returned (.int .i64 k)) w' fromλk w' h1 h2=>r_);have O:=kp h;generalize R:(λe w'=>e=Ending.returned _/\Below _ w _)=Q at*;clear R h;obtain⟨n,c⟩:∃n,l.length=n:=⟨_,rfl⟩;rw[c]at U⊢;have E:=kp c;clear c;go_enter Tryz.func107,Tryz.ntmps107;go_wp2;go_loopw [3,8] (λL x wr=>∃(k q:Nat),k<=n/\x = .int .i64 (k:Nat)/\L = .int .i64 (q:Nat)/\q=jK (l.take k)/\Below w.heap.size w wr) (λ_ x _=>n-(intOf x).toNat)
 case atStart=>exact⟨0,0,o_,rfl,rfl,rfl,bR⟩
 case round=>
  obtain⟨k,q,hk,rfl,rfl,G,H⟩:=hrel;have f:=kp H;have v:=kp G;clear H G;by_cases y:k<n
  .have m:k<l.length:=by rw[E];omega
   obtain⟨b,off,rfl,N,c0,c1,c2⟩:=((O.o.below f).more f.o.size).scan k m;have u:=kp (Ra m);have D:=kp (show q<=n from by rw[v];have:=uF (l.take k);grind);generalize l[k]=T at*;obtain⟨B,At,z,ct,Ai,I,ci⟩:=T;dsimp only at c0 c1 c2 u;obtain⟨nt,s⟩:∃nt,z.length=nt:=⟨_,rfl⟩;obtain⟨d,r⟩:∃d,I.length=d:=⟨_,rfl⟩;rw[s]at c1;rw[r]at c2 u;clear s r;have g:=kp (f.o.alloc f.o.size (.cells #[.int .i64 B,.slice At nt ct,.slice Ai d ci] 203));have W:0<=(k:Int):=o_
   have V:k<(n:Int):=o_
   have M:=D.o;by_cases F:0<d
   .go_wp2;exact⟨⟨k+1,_,o_,o_,o_,by rw[u,if_pos F,v],g⟩,o_⟩
   .go_wp2;exact⟨⟨k+1,q,o_,o_,rfl,by rw[u,if_neg F,v];rfl,g⟩,o_⟩
  .obtain rfl:k=n:=o_
   have p:=kp (J q _ (by rw[v,take_of_length_le (by rw[E];omega)]) f);go_wp2;exact p
def jz(l:List Sn):Bool:=l.any λx=>decide (0<=x.t)&&decide (x.take.length=0)
def IJ{l:List Sn}{k}(hk:k<l.length):jz (l.take (k+1))=(jz (l.take k)||(decide (0<=l[k].t)&&decide (l[k].take.length=0))):=by
 unfold jz;rw[take_succ_eq_append_getElem hk,any_append];simp
def QE A cc l w(h:fU w w.heap.size A l)(U:l.length<=1000):Calls prog 109 #[.slice A l.length cc] w λe w'=>e = .returned (.bool (jz l))/\Below w.heap.size w w':=by
 have F:Kp (∀k w',k=jz l->Below w.heap.size w w'->(λe w'=>e=Ending.returned (.bool (jz l))/\Below w.heap.size w w') (.returned (.bool k)) w'):=(λk w' h1 h2=>r_);have O:=kp h;generalize R:(λe w'=>e=Ending.returned _/\Below _ w _)=Q at*;clear R h;obtain⟨n,q⟩:=e_ l.length;rw[q]at U⊢;have E:=kp q;clear q;go_in;go_wp2;go_loopw [7] (λy wr=>∃(k:Nat),k<=n/\y = .int .i64 (k:Nat)/\jz (l.take k)=false/\Below w.heap.size w wr) (λy _=>n-(intOf y).toNat)
 case atStart=>exact⟨0,o_,rfl,rfl,bR⟩
 .obtain⟨k,hk,rfl,H,I⟩:=hrel;have s:=kp I;have D:=kp H;clear I H;by_cases B:k<n
  .have p:k<l.length:=by rw[E];omega
   obtain⟨b,off,rfl,N,c0,c1,c2⟩:=((O.o.below s).more s.o.size).scan k p;have x:=kp (IJ p);have c:Kp (decide (0<=l[k].t)=true->decide (l[k].take.length=0)=true->jz l=true):=λh1 h2=>any_eq_true.2 ⟨_,gM p,r_⟩;generalize l[k]=T at*;obtain⟨f,At,C,ct,Ai,J,ci⟩:=T;dsimp only at c0 c1 c2 x c;obtain⟨nt,v⟩:=e_ C.length;obtain⟨L,u⟩:=e_ J.length;rw[v]at c1 x c;rw[u]at c2;clear v u;have m:=kp (s.o.alloc s.o.size (.cells #[.int .i64 f,.slice At nt ct,.slice Ai L ci] 203));have W:0<=(k:Int):=o_
   have V:k<(n:Int):=o_
   by_cases G:0<=f
   .have r:=decide_eq_true G;by_cases g:nt=0
    .have z:((nt:Int) == 0)=true:=o_
     have d:=kp (F _ _ (by rw[c r (decide_eq_true g)]) m);clear g;go_wp2;exact d
    .have z:((nt:Int) == 0)=false:=o_
     have M:Kp _:=decide_eq_false g;clear g;go_wp2;exact⟨⟨k+1,o_,o_,by rw[x,D,M,Bool.and_false];rfl,m⟩,o_⟩
   .have r:=decide_eq_false G;go_wp2;exact⟨⟨k+1,o_,o_,by rw[x,D,r,Bool.false_and];rfl,m⟩,o_⟩
  .obtain rfl:k=n:=o_
   have d:=kp (F false _ (by rw[<-D,take_of_length_le (by rw[E];omega)]) s);go_wp2;exact d
structure zF(ys:List Fa)(l:List Sn):Prop where
 len:l.length=ys.length
 each:∀i(h:i<l.length)(h':i<ys.length),(l[i].t = -1/\l[i].take=[]/\l[i].dz=[])\/∃t:Nat,l[i].t=(t:Int)/\∃ht:t<ys[i].keys.length,(l[i].dz=[]\/l[i].dz.length=l[i].take.length)/\(l[i].take.Pairwise (·<·))/\∀key∈l[i].take,key<ys[i].keys[t]
def Nh(Ax As:OA)(cx cs m:Nat)(ys:List Fa)(l:List Sn)(w:World)(hx:cG w w.heap.size Ax ys)(h:fU w w.heap.size As l)(hf:zF ys l)(hn:ys.length<=1000)(hk:∀y∈ys,y.keys.length<=1000)(ht:∀s∈l,s.take.length<=1000) :
 Calls Tryz.prog 105 #[.agg #[.slice Ax ys.length cx,.int .i64 (m:Nat)],.slice As l.length cs] w λe w'=>e = .returned (.int .i64 0)/\Below w.heap.size w w':=by
 have f:=(ah _ w).alloc (ae _) (.cells #[.slice Ax ys.length cx,.int .i64 m] 43);have Z:=kp (aa.new w 43 #[.slice Ax ys.length cx,.int .i64 m]);generalize b8:w.alloc _=p at*;have Hx:=kp (show∀W,Below _ p W->cG W _ _ _ fromλW d=>(hx.below (f.trans (d.mono f.size))).more (aF f.size d.size));have Hs:=kp (show∀W,Below _ p W->fU W _ _ l fromλW d=>(h.below (f.trans (d.mono f.size))).more (aF f.size d.size));have HQ:=kp (show∀W,Below _ p W->(λe w'=>e=Ending.returned (.int .i64 0)/\Below _ w w') _ W fromλW d=>⟨rfl,f.trans (d.mono f.size)⟩);generalize hQ:(λe w'=>e=Ending.returned _/\Below _ w _)=Q at*;clear hQ;have Hf:=kp hf;have Hk:=kp hk;have Ht:=kp ht;obtain⟨n,M⟩:∃n,l.length=n:=⟨_,rfl⟩
 have a2:ys.length=n:=by rw[<-hf.len,M]
 rw[a2]at hn Z b8⊢;rw[M];have f7:=kp M;have e9:=kp a2;clear f hx h hf hk ht M a2;have m8:(n != (n:Int))=false:=s_
 go_enter Tryz.func105,Tryz.ntmps105;obtain⟨s0,s1,_,_⟩:=Z.o.two;go_wp2;clear s0 s1 b8
 go_loopw [17] (λb0 wr=>∃(k:Nat),k<=n/\b0 = .int .i64 (k:Nat)/\Below p.heap.size p wr) (λb0 _=>n-(intOf b0).toNat)
 case atStart=>exact⟨0,o_,rfl,bR⟩
 case round=>
  obtain⟨i,hi,rfl,d⟩:=hrel;obtain⟨wo,rfl⟩:∃wo,wo=wr:=⟨_,rfl⟩
  have Hb:=kp d;clear d;by_cases d7:i<n
  .have T:i<l.length:=by rw[f7];omega
   have B:i<ys.length:=by rw[e9];omega
   have H:=Hf.o.each i T B;obtain⟨b,off,eA,m7,c0,c1,c2⟩:=(Hs _ Hb).scan i T;have b1:=kp (λW d=>((Hs W d).each _ (gM T)));have e5:=Ht _ (gM T);generalize l[i]=sn at*;obtain⟨c7,At,q,ct,Ai,it,ci⟩:=sn;dsimp only at c0 c1 c2 H e5;have d6:∀W,Below _ p W->Row W _ At (an q)/\Row W _ Ai (an it):=λW d=>⟨(b1 W d).take,(b1 W d).dz⟩
   have R:=kp d6;clear d6 b1;obtain⟨nt,a4⟩:∃nt,q.length=nt:=⟨_,rfl⟩
   obtain⟨g,Y⟩:∃g,it.length=g:=⟨_,rfl⟩
   rw[a4]at c1 e5;rw[Y]at c2;have d4:=Hb.o.alloc Hb.o.size (.cells #[.int .i64 c7,.slice At nt ct,.slice Ai g ci] 203);have v:=kp (aa.new wo 203 #[.int .i64 c7,.slice At nt ct,.slice Ai g ci]);have u:=kp d4;have k0:0<=(i:Int):=o_
   have k1:i<(n:Int):=o_
   subst eA;have a5:=kp a4;have E:=kp Y;clear d4 a4 Y;obtain⟨e1,O,e3⟩|⟨t,e1,I,G,c4,D⟩:=H
   .have en:nt=0:=by rw[<-a5,O];rfl
    have ei:g=0:=by rw[<-E,e3];rfl
    subst e1 en ei;clear O e3;go_upto_region 6 with fail
    generalize wo.alloc _=U at*;generalize wo.heap.size=g6 at*;obtain⟨d0,d1,d2,_⟩:=v.o.three;go_wp2;exact⟨⟨i+1,o_,o_,u⟩,o_⟩
   .subst e1
    have Hz:=kp (show g=0\/(0<g/\g=nt)from by
     obtain e|e:=G
     .left;rw[<-E,e];rfl
     .rw[E,a5]at e;omega)
    have b9:=Hk _ (gM B);have b3:=kp (λW d=>(Hx W d).each _ (gM B))
    have F:=kp (show∀W,Below _ p W->∃b off,Ax=some ⟨b,off,_⟩/\W.cell? _=some (.slice (ys[i]'B).A (ys[i]'B).keys.length (ys[i]'B).c)fromλW d=>by
     obtain⟨b,off,e,_,V⟩:=(Hx W d).row.at_ (by rw[lM];omega);rw[getElem_map]at V
     exact⟨b,_,e,V⟩)
    generalize ys[i]=yl at*;obtain⟨yA,yk,yc,yg⟩:=yl;dsimp only at I D b9 b3 F;obtain⟨sz,a3⟩:∃sz,yk[t]'I=sz:=⟨_,rfl⟩
    have b5:=kp (show∀W,Below _ p W->∃b off,yA=some ⟨b,off,_⟩/\W.cell? _=some (.int .i64 sz)fromλW d=>by
     obtain⟨b,off,e,_,V⟩:=(b3 W d).at_ (by unfold an;rw[lM];omega);refine⟨b,_,e,?_⟩;rw[V];unfold an
     grind)
    rw[a3]at D;obtain⟨ny,d5⟩:∃ny,yk.length=ny:=⟨_,rfl⟩
    rw[d5]at I b9 F;have f6:=kp D;have f4:=kp c4;obtain⟨bx,ox,N,y0⟩:=F _ u;obtain⟨bz,oz,eZ,z0⟩:=b5 _ u;subst N eZ;have x:=kp (show∀W,Below _ _ W->Below _ p W fromλW d=>u.o.trans (d.mono u.o.size));have d8:=Z.o.under u;have c8:=kp d8;clear d8 G c4 D a3 d5 b3 y0 z0;have t0:¬(t:Int)<0:=o_
    have k8:decide (ny<=t)=false:=o_;have t2:0<=(t:Int):=o_
    have t3:t<(ny:Int):=o_
    go_upto_region 6 with fail
    generalize wo.alloc _=U at*;generalize wo.heap.size=g6 at*;obtain⟨d0,d1,d2,_⟩:=v.o.three;go_upto_region 9 with fail
    obtain⟨s0,s1,_,_⟩:=c8.o.two;obtain⟨_,_,N,y0⟩:=F _ u;injection N with N
    injection N with a0 a8 _
    subst a0 a8;obtain hz|⟨hz,g9⟩:=Hz.o
    case' inl=>
     have c3:decide (0<g)=false:=o_;clear hz
    case' inr=>
     have c3:=decide_eq_true hz;have k6:(g != (nt:Int))=false:=o_
     clear g9
    all_goals
     go_quiet (fail)
     have b7:=kp (below_drewN (ah U.heap.size U) nq);generalize U.drewN _=w3 at*;clear d0 d1 d2 s0 s1 y0;obtain⟨d0,d1,d2,_⟩:=(v.o.under b7).three;go_wp2;clear d0 d1 d2
     go_loopw [65] (λa6 wq=>∃(k:Nat),k<=nt/\a6 = .int .i64 (k:Nat)/\Below U.heap.size U wq) (λa6 _=>nt-(intOf a6).toNat)
     case atStart=>exact⟨0,o_,rfl,b7⟩
     case round=>
      obtain⟨k,hk,rfl,d⟩:=hrel;have r:=kp d;clear d;by_cases g5:k<nt
      .have z:k<q.length:=by rw[a5];omega
       obtain⟨bt,ot,eT,_,c0⟩:=(R _ (x _ r)).1.at_ (by unfold an;rw[lM];omega);have c9:(an q)[k]'(by unfold an;rw[lM];omega) = .int .i64 (q[k]'z:Nat):=by unfold an;simp
       rw[c9]at c0;have k4:=f6 _ (gM z)
       have a7:=kp (show∀C,k=C+1->∃pv:Nat,pv<q[k]'z/\∀W,Below _ p W->W.cell? _=some (.int .i64 pv)fromλC ek=>by
        have a1:C<q.length:=o_
        refine⟨q[C]'a1,pairwise_iff_getElem.1 f4 C k a1 z o_,λW d=> ?_⟩;obtain⟨b',o',e,_,V⟩:=(R W d).1.at_ (by unfold an;rw[lM];omega);rw[eT]at e;injection e with e
        injection e with e1 O _
        subst e1 O;rw[V];unfold an
        simp)
       have a9:=kp (show 0<g->∃bi oi gk:Nat,Ai=some ⟨bi,oi,_⟩/\k<g/\∀W,Below _ p W->W.cell? _=some (.int .i64 gk)fromλh0=>by
        have L:k<it.length:=by rw[E];rcases Hz.o with h|⟨_,h⟩<;>omega
        obtain⟨b',o',e,_,_⟩:=(R _ (x _ r)).2.at_ (by unfold an;rw[lM];omega);refine⟨_,_,it[k]'L,e,by rw[<-E];omega,λW d=> ?_⟩;obtain⟨b2,o2,O,_,V⟩:=(R W d).2.at_ (by unfold an;rw[lM];omega);rw[e]at O;injection O with O
        injection O with e3 e4 _
        subst e3 e4;rw[V];unfold an
        simp)
       generalize q[k]'z=key at*;clear c9;subst eT;have i3:0<=(k:Int):=o_
       have m6:k<(nt:Int):=o_
       have f0:decide ((key:Int)<0)=false:=o_;have f1:decide (sz<=(key:Int))=false:=o_;have i9:decide (sz<=key)=false:=o_;go_upto_region 14 with fail
       obtain⟨d0,d1,d2,_⟩:=(v.o.under r).three;obtain⟨s0,s1,_,_⟩:=(c8.o.under r).two;obtain⟨_,_,N,y0⟩:=F _ (x _ r);injection N with N
       injection N with a0 a8 _
       subst a0 a8;obtain⟨_,_,eZ,z0⟩:=b5 _ (x _ r);injection eZ with eZ
       injection eZ with g8 f9 _
       subst g8 f9
       go_quiet (fail)
       have J:=kp (below_drewN r nq);clear d0 d1 d2 s0 s1 y0 z0 c0;generalize wr.drewN _=w4 at*;obtain⟨d0,d1,d2,_⟩:=(v.o.under J).three;have i2:nt-(k+1)<nt-k:=o_
       have h1:k+1<=nt:=o_
       first
        | (have X:0<g:=of_decide_eq_true c3
           obtain⟨bi,oi,gk,h3,g4,b4⟩:=a9 X;have k7:k<(g:Int):=o_
           clear X g4;subst h3;have gc:=b4 _ (x _ J);have g0:decide ((gk:Int)<0)=false:=o_
           clear b4)
        |skip
       have HE:=kp (J.o);by_cases h4:k=0
       case' pos=>
        have p0:decide (0<(k:Int))=false:=o_;have p1:decide (0<k)=false:=o_
       case' neg=>
        obtain⟨C,ek⟩:∃C,k=C+1:=⟨k-1,o_⟩
        obtain⟨pv,i5,c6⟩:=a7 C ek;have pc:=c6 _ (x _ J);have p0:decide (0<(k:Int))=true:=o_;have p1:decide (0<k)=true:=o_;have pw:IntKind.i64.wrap (k-1)=C:=by rw[IntWalk.i64_in _ o_];omega
        have p2:0<=(C:Int):=o_
        have p3:C<(nt:Int):=o_
        have p4:decide ((key:Nat)<=(pv:Int))=false:=o_;have p5:decide (key<=pv)=false:=o_;clear ek c6
       all_goals
        clear h4;go_wp2;exact⟨⟨_,h1,o_,HE⟩,o_⟩
      .obtain rfl:k=nt:=o_
       go_wp2;exact⟨⟨i+1,o_,o_,x _ r⟩,o_⟩
  .obtain rfl:i=n:=o_
   have d3:=kp (HQ _ Hb);go_wp2;exact d3
structure zo(I:World->(Nat->Prop)->Prop)(gs:Nat)(ys:List Fa)(sns:List Sn)(s:aN)(fs:List Fa)(st:St)(Lq:List (au×Pk))(m:Nat)(top:Int)(pl:Nat->Nat):Prop where
 src:mh I gs top sns.length st.nodes pl
 yl:ys.length=sns.length
 n1:1<=sns.length
 n16:sns.length<=16
 m1:1<=m
 m3:m<=3
 fit:zF ys sns
 yk:∀y∈ys,y.keys.length<=1000
 tk:∀x∈sns,x.take.length<=1000
 nY:top<0\/∃root:Nat,top=(pl root:Int)/\fR s fs st/\st.parts[root]? = some (0,aT fs (λ_=>true))
 none_:top<0->fs=[]
 bO:cJ s
 fact:iE s fs
 dw:il m fs
 af:∀(i:Nat)(x:au×Pk),Lq[i]? = some x->s.af[i]? = some x.1/\gz x.1 x.2
 len:Lq.length=s.af.length
 lens:s.af.length=sns.length
 scan:∀(i:Nat)(x:au×Pk),Lq[i]? = some x->∃h:i<sns.length,jh x.1 x.2 sns[i]
 node:∀(id:Nat) n,st.nodes[id]? = some n->∃h:n.aj<ys.length,im (decide (n.aj+1=ys.length)) (ys[n.aj]'h).keys m (cH (decide (n.aj+1=sns.length)) pl n)
def yx fs:∀(L:List (au×Pk))(a:Nat)(K:cL)(pre:LN),(∃x∈L,∃t,gj x.2=some t/\bL x.1 x.2 t=[])->bZ fs L a K pre=[]
 | [],_,_,_,h=>by grind
 |(d,p)::L,a,K,pre,⟨x,hx,t,h1,h2⟩=>by
  rw[bZ];obtain rfl|hx:=mem_cons.1 hx
  .grind
  .split
   .exact yx _ L _ _ _ ⟨x,hx,t,h1,h2⟩
   .rw[flatMap_eq_nil_iff];intro k _;split
    .rfl
    .exact yx _ L _ _ _ ⟨x,hx,t,h1,h2⟩
def gG(fs:List Fa)(L:List (au×Pk)):List (LN×Ag):=if fs=[]then []else bZ fs L 0 (λ_=>true) []
def Fj:∀(n:List (au×Pk))(sns:List Sn),n.length=sns.length->(∀(i:Nat)(x:au×Pk),n[i]? = some x->∃h:i<sns.length,jh x.1 x.2 sns[i])->jz sns=false->jK sns=qw n
 | [],[],_,_,_=>rfl
 |(d,p)::L,q::l,u,h,m=>by
  have h0:=h 0 _ rfl;obtain⟨_,h0⟩:=h0;have h0:jh d p q:=h0;unfold jz at m;rw[any_cons,Bool.or_eq_false_iff]at m;have r:=Fj L l r_ (λi x hx=>by
   obtain⟨h1,h2⟩:=h (i+1) x hx;grind) m.2
  rw[ze,<-r];unfold jK;rw[filter_cons];have b:=h0.dz;have c:=h0.take;have ht:=h0.t;unfold ql at b;unfold nG at c;unfold iN at ht;rcases e:gj p with _|t
  .rw[e]at b;have f:p.g=false:=by
    unfold gj at e;split at e
    .grind
    .cases e
   grind
  .rw[e]at b c ht;dsimp only at b c ht;have h1:=m.1;rw[ht,c]at h1;have s:(bL d p t).length≠0:=λv=>r_
   grind
 | [],_::_,h,_,_=>by simp at h
 |_::_,[],h,_,_=>by simp at h
def vS(I:World->(Nat->Prop)->Prop)(d:Nat->Prop)(P:List (LN×Ag))(w:World)(e:Ending)(w':World):Prop:=
 ∃(v:Value)(l:List Fa)(b:Nat->Prop),e = .returned (.tuple #[v,.int .i64 0])/\ev P (l.map pl)/\bj w' w.heap.size v l/\eC w.heap.size l/\(∀f∈l,f.keys.length<=f.c)/\I w' b/\Mv d w w' b
def IK{fs c sns}(p:c.length=sns.length)(h:∀(i:Nat)(x:au×Pk),c[i]? = some x->∃h:i<sns.length,jh x.1 x.2 sns[i])(d:jz sns=true):gG fs c=[]:=by
 unfold gG;split
 .rfl
 .apply yx _ c _ _ _;unfold jz at d;obtain⟨n,m,h1⟩:=any_eq_true.1 d;obtain⟨i,hi,rfl⟩:=getElem_of_mem m;have f:i<c.length:=o_
  obtain⟨_,h2⟩:=h i _ (gE f);refine⟨_,gM f,?_⟩;have ht:=h2.t;have b:=h2.take;unfold iN at ht;unfold nG at b;grind
def Lm n:(madeCells (Value.int .i64 0).cells (n*1)).toList=an (replicate n 0):=by
 rw[Nat.mul_one];apply(toList_madeCells_one _ n).trans;unfold an;simp
def Pc{I:World->(Nat->Prop)->Prop}{gs ys sns s fs st M m top pl}(G:zo I gs ys sns s fs st M m top pl) Ax As cx cs E w(hI:I w E)(d1:∀w F,I w F->cG w w.heap.size Ax ys)(hs:fU w w.heap.size As sns)(hR:∀k,qn As sns k->¬E k) :
 Calls Tryz.prog 43 #[.pointer (some ⟨gs,0,none⟩),.agg #[.slice Ax ys.length cx,.int .i64 (m:Nat)],.int .i64 500,.slice As sns.length cs] w (vS I E (gG fs M) w):=by
 have i3:=(ah _ w).alloc (ae _) (.cells #[.slice Ax ys.length cx,.int .i64 m] 43);have a8:=kp (aa.new w 43 #[.slice Ax ys.length cx,.int .i64 m]);generalize c3:w.alloc _=w1 at*;have d6:=kp i3;have Hs:=kp (show∀W,Below _ w W->fU W _ _ _ fromλW z=>(hs.below z).more z.size);have c6:=G.src.lt w E hI;have HI:=kp (show∀W,Below _ w W->I W E fromλW z=>G.src.same w W E hI z.size (λk hk=>z.block k (c6 k hk)));have k6:=kp d1;have HT:=kp (λW z=>G.src.top W E (HI W z));have HC:=kp (λW z=>Nh _ _ cx cs m _ _ W (d1 W E (HI W z)) (Hs W z) G.fit (by have:=G.yl;have:=G.n16;omega) G.yk G.tk);have HW:=kp (λW z=>QS _ cs _ W (Hs W z) (by have:=G.n16;omega));have HE:=kp (λW z=>QE _ cs _ W (Hs W z) (by have:=G.n16;omega));have HN:=kp (λW=>QI _ (aF (uF _) G.n16) W)
 have b5:=kp (show∀W,Below _ w W->gG _ M=[]->vS I E (gG fs M) w (.returned (.tuple #[.slice _ 0 0,.int _ 0])) W fromλW z he=>by
  rw[he]
  exact⟨_,[],E,rfl,⟨.nil,λkey=>⟨λ⟨x,hx,_⟩=>r_,λ⟨x,hx,_⟩=>r_⟩,λx hx=>r_⟩,⟨cK _ _ _ _,λx hx=>r_⟩,λx hx=>r_,λx hx=>r_,HI W z,(Mv.start E w).below z⟩)
 have g:=kp G;have HR:=kp hR;have f5:=kp c6;have k2:=G.n1;have h6:=G.n16;rw[G.yl]at a8 c3⊢;have f3:=HC;obtain⟨n,hn⟩:∃n,sns.length=n:=⟨_,rfl⟩
 have b1:=kp (show ys.length=n from by rw[G.yl,hn]);clear HC
 have HC:=kp (λW z=>by
  have h:=f3 W z;rw[b1,hn]at h
  omega)
 rw[hn]at HW HE a8 c3 k2 h6⊢;have Hn:=kp hn;clear i3 d1 hs hI hR c6 G f3 hn;generalize hQ:vS I E _ w=Q at*;have HQ:=kp hQ;clear hQ;have q3:((n:Int) == 0)=false:=o_
 go_enter Tryz.func43,Tryz.ntmps43;obtain⟨s0,s1,_,_⟩:=a8.o.two;go_wp2_with fail;clear c3;refine(HC _ d6).mono ?_;rintro e w2⟨rfl,d3⟩;have m0:=bu a8 d3;have f0:=ay d6 d3;clear d3 s0 s1;go_wp2_with fail;refine(HW _ f0).mono ?_;rintro e w3⟨rfl,c8⟩;have i1:=bu m0 c8;have k7:=ay f0 c8;clear c8;go_wp2_with fail;refine(HN _).mono ?_;rintro e w4⟨go,gm,rfl,g5,e7,h5,d9,f6,c9⟩;have m5:=bu i1 c9;have a6:=ay k7 c9;have k3:=kp g5;have e8:=kp e7;have l4:=kp h5;have e0:=kp (show w3.heap.size<=go/\w3.heap.size<=gm from⟨d9,f6⟩);have j1:=kp (i1.o.lt);clear c9 g5 e7 h5 d9 f6;go_wp2_with fail;refine(HT _ a6).mono ?_;rintro e w5⟨rfl,rfl⟩;by_cases B:top<0
 .have i8:=decide_eq_true B;have hq:=b5 _ a6 (by unfold gG;rw[if_pos (g.o.none_ B)]);have Hq:=kp hq;clear hq B;go_wp2;exact Hq
 .have i8:=decide_eq_false B;go_wp2_with fail;refine(HE _ a6).mono ?_;rintro e U⟨rfl,a1⟩;have g3:=bu m5 a1;have c5:=ay a6 a1;have b4:=bu k3 a1;have V:=kp (e8.o.same (a1.block _ e8.o.lt));clear a1;rcases he:jz _ with _|_
  .obtain⟨f9,a3,Z,a0⟩:=g.o.nY.resolve_left o_;have u:=kp Z;have r:=kp a0;have X:=kp a3;have j3:=kp (Fj M _ (by rw[g.o.len,g.o.lens]) g.o.scan he);clear a3 Z a0 he B;go_upto_region 9 with fail
   obtain⟨i0,g0,g4,e4,i2⟩:=info_parts iK;obtain⟨w7,b8,H,b7⟩:=run_make_full U.drew _ 84 3 _ (.int _ 0) 1 Tryz.underlying84 g0 g4 e4 .i64 .i64 n r_ (by unfold maxLen;omega) (ae _);have Y:=(ah U.heap.size U).drew.grown b7 o_ (λk hk=>r_);rw[Lm]at H;have R:=kp H;have h7:=kp b8;have m6:=bu g3 Y;have g6:=ay c5 Y;have h4:=bu b4 Y;have g7:=kp (V.o.same (Y.block _ V.o.lt));obtain⟨s0,s1,_,_⟩:=(g3.o.under bR.drew).two;obtain⟨q0,q1,_,_⟩:=m6.o.two;have b0:U.drew.heap.size=U.heap.size:=rfl;have b2:=kp b0;have e6:=kp (show go<U.heap.size/\gm<U.heap.size from⟨b4.o.lt,V.o.lt⟩);clear b8 H b7 Y b0 g0 g4 e4 i2;clear i0;refine wp_region_noPanic ?_;refine br (t:=9) (S:=(λw'=>w'.cell? _=some _/\w'.cell? _=some _)) k_ ⟨s0,s1⟩ (λd=> ?_);generalize U.drew=wd at*;refine tD 0 1 2 3 d ?_;refine tB 4 5 d ?_;refine oT 6 (λK hK=> ?_)
   go_simp
   rw[h7]
   go_simp
   refine oK hK ?_ (λp=> ?_)
   .grind
   clear hK K d;have d:=p;clear p;refine tk 7 d ?_;refine oT 8 (λK hK=> ?_)
   go_simp
   refine oK hK ?_ (λp=> ?_)
   .exact⟨al (bR.alloc o_ _) q0,al (bR.alloc o_ _) q1⟩
   clear hK K d;clear p;refine fC k_ (by first|(exact rfl)|rfl) k_ (λK hK=> ?_)
   go_simp
   refine hK.out _ _ ?_;clear hK K;refine NoPanic.normal ?_
   clear s0 s1 q0 q1;obtain⟨c,D⟩:∃c:Wt,c=⟨I,gs,w7.heap.size,go,gm,wd.heap.size,Ax,cx,ys,m,As,cs,sns,jK sns,w.heap.size⟩:=⟨_,rfl⟩
   have q6:=(tZ R).lt;have q8:w.heap.size<=wd.heap.size:=by have:=c5.o.size;have:=b2.o;omega
   have hz:=b2.o;have p7:=e0.o;have h3:=j1.o;have n9:=e6.o
   have m9:=kp (show c.Ok from by
    subst D
    exact⟨g.o.src.same,o_,o_,o_,l4,o_,o_,g.o.yl,g.o.n1,g.o.n16,g.o.m1,g.o.m3,k6⟩)
   have J:∀k,c.own k->w.heap.size<=k:=λk hk=>by
    subst D;unfold Wt.own at hk;grind
   have L:=g6.o.alloc o_ (.cells #[.pointer (some ⟨gs,0,none⟩),.slice Ax n cx,.int .i64 m,.slice As n cs,.pointer (some ⟨go,0,none⟩),.slice none 0 0,.slice (some ⟨wd.heap.size,0,none⟩) n n,.int .i64 0] 213);have N:=kp L
   have h8:=kp (show c.Dy _ E (λ_=>False) (.slice _ 0 0) _ [] (replicate n 0) _ from by
    refine⟨by subst D;exact HI _ L,?_,cK _ _ _ _,?_,?_,?_,?_,fV.nil _ _ _,λk hk=>hk.elim,λk hk=>⟨bh (f5 k hk) o_,λho=>(by have:=J k ho;have:=f5 k hk;omega),λh=>h,λe=>(by cases e)⟩,λk hk=>hk.elim,λk e=>(by cases e),?_,?_⟩
    .subst D;have:=aa.new w7 213 #[.pointer (some ⟨gs,0,none⟩),.slice Ax n cx,.int .i64 m,.slice As n cs,.pointer (some ⟨go,0,none⟩),.slice none 0 0,.slice (some ⟨wd.heap.size,0,none⟩) n n,.int .i64 0];unfold Wt.C;dsimp only;rw[b1,Hn];omega
    .subst D;exact(tZ R).alloc _
    .subst D;dsimp only;rw[length_replicate,Hn]
    .subst D;exact h4.o.alloc _
    .subst D;exact g7.o.alloc _
    .subst D;exact Hs _ L
    .intro k hk hf;have g8:qn As sns k:=by subst D;exact hk
     have p8:=(Hs w bR).bU g8;obtain h|h|h|h:=hf
     .exact HR k g8 h
     . omega
     .grind
     .cases h)
   have T:qO c s fs st M m top pl:=by
    subst D;exact⟨m9,g.o.src,u,g.o.bO,g.o.fact,g.o.dw,g.o.af,g.o.len,g.o.lens,g.o.scan,g.o.node,aF (uF _) g.o.n16,o_⟩
   have m8:(aT fs (λ_=>true)).length<=40:=by
    rw[pY,length_range];exact g.o.dw.n
   have b6:mQ c fs m (M.drop 0) 0 (aT fs (λ_=>true)).length [] (replicate n 0) []:=by
    refine⟨?_,λy hy=>r_,?_,λx hx=>r_,λj _ x hx=> ?_⟩
    .subst D;rw[drop_zero,<-j3];simp
    .grind
    .grind
   have e9:c.sns.length=n:=by subst D;exact Hn
   have f4:=kp (EX T (n-1) 0 o_ (λ_=>true) _ _ _ E (λ_=>False) _ _ _ _ b6 r h8);have O:c.gw=w7.heap.size:=r_
   rw[O,<-X]at f4;have k4:=kp (HT _ L);clear b6 T L m8
   have f2:=kp (show∀e w9,iH c (w7.alloc (.cells #[.pointer (some ⟨gs,0,none⟩),.slice Ax n cx,.int .i64 m,.slice As n cs,.pointer (some ⟨go,0,none⟩),.slice none 0 0,.slice (some ⟨wd.heap.size,0,none⟩) n n,.int .i64 0] 213)) E (λ_=>False) (.slice none 0 0) [] (replicate n 0) [] (bZ fs (M.drop 0) 0 (λ_=>true) []) 0 (aT fs (λ_=>true)).length e w9->e = .returned _/\w9.cell? _=some _/\Calls _ _ #[.pointer (some ⟨go,0,_⟩)] w9 (λe2 a5=>∃v,e2 = .returned v/\Q (.returned (.tuple #[v,.int _ 0])) a5)fromλe w9⟨e1,a4,_,p6,D',_,hd,hm,_⟩=>by
    refine⟨e1,?_,?_⟩
    .have:=hd.box.cell 7;rw[O]at this;exact this
    .have k0:fs≠[]:=λe=>by
      have h1:=(u.o.wC g.o.dw r)
      obtain⟨_,_,_,_,h2⟩:=h1;apply h2;rw[e];rfl
     have c4:gG fs M=bZ fs (M.drop 0) 0 (λ_=>true) []:=by
      unfold gG;grind
     have l0:(bZ fs (M.drop 0) 0 (λ_=>true) []).length<=60:=by
      have h1:=rN g.o.dw (M.drop 0) 0 (λ_=>true) [] (by obtain⟨_,_,_,_,h2⟩:=u.o.wC g.o.dw r;omega);rw[pY,length_range]at h1;have:=g.o.dw.n;omega
     rw[nil_append]at hd;have d7:=hd.tab;have h0:=hd.map;have f1:=hd.gH;have g9:=hd.ke;have b9:=hd.src;subst D;refine(P8 _ _ _ _ d7 h0 f1 g9 (aF (uF _) g.o.n16) l0).mono ?_;rintro e2 a5⟨v,l,rfl,n5,n6,j0,i7,d0⟩;refine⟨v,rfl,?_⟩;rw[<-HQ,c4];have l7:=hm.ax.size;have f8:=N.o.size;have b3:=g.o.src.lt _ _ b9;have j2:Mv E w w9 a4:=by
      refine⟨?_,λk hk=> ?_⟩
      .refine⟨hm.ax.os.trans N.o.os,hm.ax.tape.trans N.o.tape,hm.ax.output.trans N.o.output,o_,λk hk hn=> ?_⟩;refine(hm.ax.block k o_ ?_).trans (N.o.block k hk);rintro(q|q|q|q)
       .grind
       . omega
       .grind
       .cases q
      .obtain q|⟨q,q2⟩:=hm.sub k (.inl hk)
       .obtain q|q|q|q:=q
        .exact .inl q
        .grind
        .exact .inr ⟨J k q,b3 k hk⟩
        .cases q
       .exact .inr ⟨o_,q2⟩
     exact⟨v,l,_,rfl,n5,n6.base o_,λf hf b off e1 e2=>aF o_ (j0 f hf b _ e1 e2),i7,g.o.src.same _ _ _ b9 d0.size (λk hk=>d0.block k (b3 k hk)),j2.below d0⟩)
   clear HQ u r X h8 O e9 D;generalize m4:w7.alloc _=w8 at*;clear m4;go_wp2_with fail;refine k4.o.mono ?_;rintro e p5⟨rfl,rfl⟩;go_wp2_with fail;refine f4.o.mono ?_;intro e w9 h9;obtain⟨rfl,e3,a2⟩:=f2 _ _ h9;have c7:=kp a2;clear h9 a2;go_wp2_with fail;refine c7.o.mono ?_;rintro e a5⟨v,rfl,hq⟩;have Hq:=kp hq;clear e3 hq;go_wp2;exact Hq
  .have Hq:=kp (b5 _ c5 (IK (by rw[g.o.len,g.o.lens]) g.o.scan he));clear he;go_wp2;exact Hq
def dH(ps:List (LN×Ag))(L:List (au×Pk)):List (LN×Ag):=(ps.filter λx=>eo L 0 x.1).map λx=>(dO L 0 x.1,x.2)
def Fh Q L ps:bW Q (dH ps L)=bW (λk=>Q (dO L 0 k)&&eo L 0 k) ps:=by
 unfold bW dH;rw[filter_map,map_map,filter_filter];rfl
def Fg L ps key:(∃x∈dH ps L,x.1=key)↔∃k,(∃x∈ps,x.1=k)/\eo L 0 k=true/\dO L 0 k=key:=by
 unfold dH;constructor
 .grind
 .rintro⟨k,⟨x,hx,rfl⟩,h1,rfl⟩;exact⟨_,mem_map.2 ⟨x,mem_filter.2 ⟨hx,h1⟩,rfl⟩,rfl⟩
def Jm{s rows fs ps r L}(h:eO s rows fs)(v:jk s rows ps)(q:il s.aC.length fs)(p:∀i x,L[i]? = some x->s.af[0+i]? = some x.1/\gz x.1 x.2)(ht:ev (gG fs L) r):ev (dH ps L) r:=by
 obtain⟨u,h1,_,_,n,f⟩:=h.of;have e:=um h.bO v h1;subst e;have m:iB fs L 0 (λ_=>true) []=dH _ L:=rfl
 have H:ev (dH (aw fs) L) r:=by
  unfold gG at ht;split at ht
  .rename_i e;rw[e];exact ht
  .rename_i b;have c:=xa h.bO h.ok q L 0 (λ_=>true) [] p (by
    rw[pY];grind)
   rw[m]at c;exact ht.move c.sum c.keys
 refine H.move (λQ=>by rw[Fh,Fh,n]) λkey=> ?_;rw[Fg,Fg];constructor<;>rintro⟨k,g,d⟩
 .exact⟨k,(f k).1 g,d⟩
 .exact⟨k,(f k).2 g,d⟩
end Tc
end Go.Proofs.YtibjlpkpljnicaaGreatDoor
