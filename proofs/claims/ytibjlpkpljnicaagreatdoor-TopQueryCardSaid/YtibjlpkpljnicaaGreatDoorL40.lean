/- Parts of a proof. -/
import Derived.Test.YtibjlpkpljnicaaGreatDoorL28
import Derived.Test.YtibjlpkpljnicaaGreatDoorL38
import Derived.Test.YtibjlpkpljnicaaGreatDoorL39
set_option maxRecDepth 100000
set_option maxHeartbeats 8000000
set_option linter.all false
namespace Go.Proofs.YtibjlpkpljnicaaGreatDoor
namespace Tc
open List Go.RowKit Base Go.Maps Go.WideMaps Crc Go.Proofs.YtibjlpkpljnicaaGreatDoor.Nm Go.Proofs.Tryz
def vZ(wd:Nat)(w:World)(e:Ending)(w':World):Prop:=∃go gm:Nat,e = .returned (.tuple #[Y go 0,I 0])/\aa w' go 299 #[N wd,I 500,.map (some gm)]/\aY w' 9 gm 0 (.map [])/\go≠gm/\w.heap.size<=go/\w.heap.size<=gm/\E w w'
def QI wd(n:wd<=16) w:Calls prog 106 #[N wd,I 500] w (vZ wd w):=by
 have b:=@run_makeMap prog;have e:Kp (∀go gm w',aa _ _ _ _->aY _ 9 _ 0 _->go≠gm->w.heap.size<=go->w.heap.size<=gm->E w _->vZ wd w _ w'):=λgo gm w' h1 h2 g c d f=>⟨_,_,rfl,h1,h2,g,c,d,f⟩;generalize m:vZ _ w=Q at*;clear m;have h0:decide ((wd:Int)<0)=false:=o_;have h1:decide (16<(wd:Int))=false:=o_;go_in;go_wp2;exact e _ _ _ (by simpa using aa.new (w.alloc _) _ _) ((World.ownsMap_made _ _ _ _).alloc _) o_ o_ o_ ((bR.alloc o_ _).alloc s_ _)
def lT(P:List (LN×Ag))(ks:List LN):List (LN×Ag):=ks.map λk=>(k,(bW (λx=>x == k) P).getD az)
def Qt{w D P wd U}(h:fV w D P wd U){ks}(e:ks.Pairwise λa b=>aI a b<0)(hk:∀key,key∈ks↔∃x∈P,x.1=key):ev P (lT P ks):=by
 refine⟨?_,λkey=> ?_,λx hx=> ?_⟩
 .unfold lT;grind
 .rw[<-hk];unfold lT;constructor
  .grind
  .exactλh1=>⟨_,mem_map.2 ⟨_,h1,rfl⟩,rfl⟩
 .unfold lT at hx;obtain⟨k,d,rfl⟩:=mem_map.1 hx;obtain⟨y,f,rfl⟩:=(hk k).1 d;obtain⟨_,A,c,g,_,m,_⟩:=h.each y f;grind
def vP(P:List (LN×Ag))(w:World)(e:Ending)(w':World):Prop:=∃(v:Value)(l:List Fa),e = .returned v/\ev P (l.map pl)/\bj w' w.heap.size v l/\eC w.heap.size l/\(∀f∈l,f.keys.length<=f.c)/\E w w'
def P8 go gm wd{D P U} w(tab:aa w go 299 #[N wd,I 500,.map (some gm)])(map:aY w 9 gm P.length D)(gH:fV w D P wd U)(hU:∀k,U k->k<w.heap.size)(d3:wd<=16)(hP:P.length<=60) :
 Calls prog 111 #[Y go 0] w (vP P w):=by
 have e6:=map.lt;have g9:=World.ownsMap.size_le map;have f1:(Go.strKeys D).length<=60:=by
  obtain⟨es,rfl,_⟩:=map.strs;refine aF ?_ (aF g9 hP);simp[Go.strKeys,Maps.size]
 have HS:=J (callsIn_wide.1 (Tryz.PS _ _ D _ w map (by unfold maxLen;omega) o_));have HK:=J (callsIn_wide.1 (Tryz.KW (some gm) w));have i1:=J (λ(ss:List _)(hp:ss.Perm _)=>gH.keys map hp);have HT:=J (λks h1 h2=>@Qt w D P _ U gH ks h1 h2)
 have k8:Kp (∀ W key,E w W->(∃x∈P,x.1=key)->∃A c,(Instr.lookup 297 (.map (some gm)) (T (str (cS key))) false).run prog W = .ok (kB A key.length c ((bW (λx=>x == key) P).getD az)) W/\key.length<=16/\Row W _ A (an key)):=(λW key hb hx=>by
  obtain⟨x,hx,rfl⟩:=hx;have hk:=gH.key x hx;have d9:keyOf _ 9 (T (str (cS _)))=some (gJ x.1):=keyOf_string_mk underlying9 (by rw[dR];have:=xl x.1;have:=hk.1;unfold maxLen;omega);obtain⟨v,ps,q,hR⟩:=World.ownsMap.lookup (aY.same map (hb.block _ e6)) jH underlying297 (Fz W) rfl d9;obtain⟨_,A,c,g,h2,h3,h4,_,_⟩:=gH.each x hx;injection hR with hR
  injection hR with h5 h6
  rw[h2]at h5;injection h5 with h5
  subst h5
  refine⟨A,c,r_,by rw[hk.1];omega,(h4.below hb).more hb.size⟩)
 have f6:=J (λW(hb:E w W)=>tab.under hb);have e0:Kp (∀ks v p w',p.map pl=lT P ks->(ks.Pairwise λa b=>aI a b<0)->(∀key,key∈ks↔∃x∈P,x.1=key)->bj _ _ v p->eC _ p->(∀f∈p,f.keys.length<=f.c)->E w _->vP P w _ w'):=λks v p w' h1 h2 h3 h4 h5 h6 hb=>⟨v,p,rfl,by rw[h1];exact HT _ h2 h3,h4,h5,h6,hb⟩;have HC:=J qW;obtain⟨i0,k5,k6,i9,k9⟩:=info_parts mA;generalize hQ:vP P w=Q at*;clear hQ HT;obtain⟨t0,t1,t2,_,_,_⟩:=tab.three;clear tab map gH hU g9;go_in;go_wp2_with fail;apply HK.mono;rintro e1 w1⟨rfl,rfl⟩;go_wp2_with fail;apply HS.mono;rintro e2 w2⟨v,ss,rfl,hS,L,g5,i2⟩;obtain⟨ks,a2,e4,d2⟩:=i1 _ hS;have b1:ss.length=ks.length:=by rw[<-length_mergeSort,a2,lM]
 have k3:ss.length<=60:=by rw[hS.length_eq];omega
 have c3:=(ah _ w).alloc (ae _) (.cells #[.map (some gm)] 297);have V:=J (c3.trans (i2.mono o_));rw[a2,map_map,b1]at L;obtain⟨k0,p0,rfl⟩:=bY L;have i3:Kp (Row _ _ _ (ks.map λk=> T (str _))):=kG L;have j3:=J e4;have f5:=J d2;clear i2 L a2 e4 d2 hS g5 i1 HK HS c3 t0 t1 t2;obtain⟨n,hn⟩:=e_ ks.length
 have Hn:=J hn;have j2:=J (show n<=1000000 by omega);rw[hn];clear hn b1 k3 f1;clear ss;go_wp2
 go_loopw [3,16] (λv3 v8 wr=>∃(k:Nat)(p:List Fa)(A':OA)(c':Nat),k<=n/\v8 = I k/\v3 = .slice A' k c'/\p.length=k/\p.map pl=lT P (ks.take k)/\wr.ownsRow w2.heap.size 89 11 (.slice A' k c') k (p.flatMap aV)/\(∀f∈p,bP wr (.slice A' k c') f)/\eC w.heap.size p/\Kp (∀f∈p,f.keys.length<=f.c)/\E w2 wr) (λ_ v8 _=>n-(intOf v8).toNat)
 case atStart=>exact⟨0,[],_,0,o_,rfl,rfl,rfl,rfl,cK _ _ _ _,(λf r=>r_),(λf r=>r_),J (λf r=>r_),bR⟩
 .obtain⟨k,p,A',c',hk,rfl,rfl,g4,e8,b4,h9,d4,d0,g0⟩:=hrel;have d8:=J d4;clear d4;have d7:=J e8;have f4:=J g4;have M:=J b4;have g8:=J h9;have X:=J g0;clear e8 b4 h9 g0 g4;by_cases j0:k<n
  .have u:k<ks.length:=by rw[Hn];omega
   obtain⟨b,off,rfl,hb,c0⟩:=((i3.below X).more X.size).at_ (by rw[lM];exact u);rw[getElem_map]at c0;have f0:=J (V.trans (X.mono V.size));have f9:=(f5 _).1 (gM u);obtain⟨fA,fc,q,p6,g7⟩:=k8 _ _ f0 f9;have k4:=J (show lT P (ks.take _)=lT P (ks.take k)++[((ks[k]'u),(bW (λx=>x == (ks[k]'u)) P).getD _)] by unfold lT;rw[take_succ_eq_append_getElem,map_append];rfl);clear f9;generalize(ks[k]'u)=keys at*;generalize(bW (λx=>x == keys) P).getD _=ag at*;obtain⟨ac,s0,n0,x0,s1,n1,x1,s2,n2,x2⟩:=ag;unfold kB at q;dsimp only at q;have b5:=J q;clear q;have a5:=(ah _ wr).alloc (ae _) (.cells #[.slice fA keys.length fc,I ac,I s0,I n0,I x0,I s1,I n1,I x1,I s2,I n2,I x2] 89);have h7:=J (aa.new wr 89 #[.slice fA keys.length fc,I ac,I s0,I n0,I x0,I s1,I n1,I x1,I s2,I n2,I x2]);have a4:=J a5;have Hf:=J ((g7.below a5).more a5.size);obtain⟨t0,t1,t2,_,_,_⟩:=(f6 _ f0).three;clear a5 g7;have o1:0<=(k:Int):=o_
   have n9:k<(n:Int):=o_
   go_upto_region 8 with(first
    |(at_lookup;refine Fp _ rfl _ _ _ _ rfl rfl rfl b5 ?_)|fail)
   clear c0 t0 t1 t2 b5;generalize wr.alloc _=W2 at*;generalize d1:wr.heap.size=s at*;have a3:=J d1;clear d1;have a9:keys.length<=1000000:=o_
   have aD:=aa.dk h7;apply wp_region_noPanic;refine br (t:=99) (S:=(λw'=>C w' s 0 _/\C w' s 1 _/\C w' s 2 _/\C w' s 3 _/\C w' s 4 _/\C w' s 5 _/\C w' s 6 _/\C w' s 7 _/\C w' s 8 _/\C w' s 9 _/\C w' s _ _)) k_ aD (λm=> ?_);apply tD 0 1 2 4 m;apply tk 5 m;have b3:=h7.lt;refine oT 3 λK hK=>?_
   go_simp
   apply(HC _ _ _ W2.drew a9 Hf).mono;rintro e w3⟨vk,rfl,H,f3⟩;obtain⟨Ak,ck,rfl⟩:=cI H;have z:=J H;have b9:=J f3;clear H f3;refine oK hK ?_ λd=>?_
   .exact pR (b9.block s b3) aD
   replace m:=d;clear hK K d;clear aD;have a0:Kp _:=a4.trans ((bR.drew.trans b9).mono o_);have a1:=J (bS M (by show Below _ _ _;rw[a3];exact a0));have d5:=J (λf r=>(g8 f r).below (by show Below _ _ _;rw[a3];exact a0));have e3:=J (show w2.heap.size<=s by rw[<-a3];exact X.size);have a7:=J (X.trans (a0.mono e3));have d6:Kp (bP _ _ ⟨_,_,_,⟨ac,s0,n0,x0,s1,n1,x1,s2,n2,x2⟩⟩):=bP.new z (λj hj=>bh (M.lt j hj).2 a4.size)
   have e5:Kp (eC _ (p++[⟨Ak,keys,ck,⟨ac,s0,n0,x0,s1,n1,x1,s2,n2,x2⟩⟩])):=(λg hg b' e7 a6 j1=>by
    obtain hg|hg:=mem_append.1 hg
    .exact d8 g hg _ _ a6 j1
    .rw[mem_singleton.1 hg]at a6;dsimp only at a6;have h1:=z.lt b' (by rw[a6];rfl);have h2:=V.size;have n8:=e3.o;have h4:W2.drew.heap.size=W2.heap.size:=rfl
     omega)
   have e9:Kp (∀f∈p++[⟨Ak,keys,ck,⟨ac,s0,n0,x0,s1,n1,x1,s2,n2,x2⟩⟩],f.keys.length<=f.c):=(λf r=>by
    obtain r|r:=mem_append.1 r
    .exact d0.out f r
    .rw[mem_singleton.1 r]
     exact rH z)
   have a2:k+1<1048576*64:=by have:=j2.o;omega
   have g3:=J a7.size;have F:=bh b3 b9.size;have h0:Kp ((Value.slice _ k _).ownBlock≠some s):=(λhh=>by have:=(M.lt s hh).2;rw[a3]at this;omega);apply tk 6 m;refine oT 7 λK hK=>?_
   go_simp
   refine oK hK ?_ λd=>?_
   .exact pR (Below.heap_alloc _ _ _ F) m
   replace m:=d;clear hK K d;refine oT 8 λK hK=>?_
   refine rS rfl _ _ _ rfl _ 89 _ _ _ _ underlying34 k5 k6 i9 k9 rfl d_ _ (bC ⟨_,_,_,⟨_,_,_,_,_,_,_,_,_,_⟩⟩) rfl (kV _) (.slice _ k _) k _ rfl a1 rfl a2 d_ g3 ?_;intro v5 w5 G Z;obtain⟨A5,c5,h5⟩:=cI G;subst h5;have b8:=J G;have O:=J Z;clear G Z
   go_simp
   refine oK hK ?_ λd=>?_
   .exact pR ((O.bI F h0).trans (Below.heap_alloc _ _ _ F).symm) m
   replace m:=d;clear hK K d;apply tk 9 m;refine bQ k_ ?_ _
   try clear m
   apply NoPanic.normal;have k2:=J (O.ew a7 a1 o_ g3);have f2:Kp (∀f∈p++[⟨Ak,keys,ck,⟨ac,s0,n0,x0,s1,n1,x1,s2,n2,x2⟩⟩],bP _ (.slice _ _ _) f):=(λf r=>by(obtain r|r:=mem_append.1 r;exact(d5 f r).app O;rw[mem_singleton.1 r];exact d6.app O));go_wp2;refine⟨⟨_,_,_,_,o_,o_,rfl,by rw[aE,f4];rfl,?_,?_,f2,e5,e9,k2⟩,o_⟩
   .rw[map_append,d7,k4];rfl
   .rw[flatMap_append];exact b8
  .obtain rfl:k=n:=o_
   have f7:Kp (bj _ _ _ p):=⟨by rw[f4];exact dZ M V.size,g8⟩;have g6:=J (show p.map _=lT P _ by rw[d7,take_of_length_le (by rw[Hn];omega)]);go_wp2;exact e0 _ _ p _ g6 j3 f5 f7 d8 d0.out (V.trans (X.mono V.size))
end Tc
namespace Tc
open List Go.RowKit Base Go.Proofs.Tryz
section
variable{c:Wt}{w w':World}{Fs V:Nat->Prop}{kv:Value}{D:DataW Value}{pre aS:LN}{P:List (LN×Ag)}
def Wt.Dy.keep(h:c.Dy w Fs V kv D pre aS P)(ok:c.Ok)(hz:w.heap.size<=w'.heap.size)(hs:∀k,c.F Fs V kv k\/c.R k->w'.heap[k]? = w.heap[k]?):c.Dy w' Fs V kv D pre aS P:=by
 have ho:∀k,c.own k->w'.heap[k]? = w.heap[k]?:= λk hk=>hs k (.inl (.inr (.inr (.inl hk))))
 have hv:∀k,V k->w'.heap[k]? = w.heap[k]?:= λk hk=>hs k (.inl (.inr (.inl hk)))
 refine⟨ok.same w w' Fs h.src hz (λk e=>hs k (.inl (.inl e))),(ho _ (.inl rfl)).trans h.box,fN h.keys (λk e=>hs k (.inl (.inr (.inr (.inr e))))),(ho _ (.inr (.inr (.inr rfl)))).trans h.kg,h.lV,(ho _ (.inr (.inl rfl))).trans h.tab,h.map.same (ho _ (.inr (.inr (.inl rfl)))),h.gH.same hz (λk e _=>hv k e) (λk e=>e),λk e=>bh (h.ke k e) hz,λk e=>⟨bh (h.fs k e).1 hz,(h.fs k e).2⟩,h.fv,h.fk,(h.lR.same (λk e=>hs k (.inr e))).more hz,h.ro⟩
end
def Wt.eight{c:Wt}{w:World}{kv:Value}(h:aa w c.gw 213 (c.C kv)) :
 (w.cell? ⟨c.gw,0,none⟩=some (.pointer (some ⟨c.gs,0,none⟩))/\w.cell? ⟨c.gw,1,none⟩=some (.slice c.Ax c.ys.length c.cx)/\w.cell? ⟨c.gw,2,none⟩=some (.int .i64 c.m)/\w.cell? ⟨c.gw,3,none⟩=some (.slice c.As c.sns.length c.cs)/\w.cell? ⟨c.gw,4,none⟩=some (.pointer (some ⟨c.go,0,none⟩))/\w.cell? ⟨c.gw,5,none⟩=some kv/\w.cell? ⟨c.gw,6,none⟩=some (.slice (some ⟨c.gn,0,none⟩) c.sns.length c.sns.length)/\w.cell? ⟨c.gw,7,none⟩=some (.int .i64 0))/\(∀j,w.frozen? ⟨c.gw,j,none⟩=false):=
 ⟨⟨h.cell 0,h.cell 1,h.cell 2,h.cell 3,h.cell 4,h.cell 5,h.cell 6,h.cell 7⟩,λj=>h.free j⟩
def vY(c:Wt)(p:aQ)(w:World)(Fs V:Nat->Prop)(kv:Value)(D:DataW Value)(pre aS:LN)(P:List (LN×Ag))(e:Ending)(w':World):Prop:=
 ∃(nd:Nd)(Fs':Nat->Prop),e = .returned (.tuple #[.agg (aZ nd),I 0])/\aK nd=p/\du w' w'.heap.size nd/\(∀k,mE nd k->w.heap.size<=k/\¬c.F Fs' V kv k)/\(∀l∈nd.ls,l.cs.length<=l.c)/\c.Dy w' Fs' V kv D pre aS P/\Mv (c.F Fs V kv) w w' (c.F Fs' V kv)
def QF{c:Wt}{ns:List aQ}{pl:Nat->Nat}{top:Int}{w:World}{Fs V:Nat->Prop}{kv:Value}{D:DataW Value}{pre aS:LN}{P:List (LN×Ag)}{i id x:Nat}{n:aQ}
 (src:mh c.I c.gs top c.sns.length ns pl)(ok:c.Ok)(h:c.Dy w Fs V kv D pre aS P)(hn:ns[id]? = some n)(hd:n.aj=i)(hi:i<c.ys.length)(hp:im (decide (i+1=c.ys.length)) (c.ys[i]'hi).keys c.m (cH (decide (i+1=c.sns.length)) pl n))(hx:aS[i]? = some x)(hw:x<4000) :
 Calls prog 184 #[Y c.gw 0,N i,I (pl id:Nat)] w (vY c (cH (decide (i+1=c.sns.length)) pl n) w Fs V kv D pre (aS.set i (x+1)) P):=by
 have hil:i<aS.length:=(aO hx).1;have hgn:w.cell? ⟨c.gn,i,none⟩=some (.int .i64 (x:Nat)):=by
  rw[h.kg.cell];unfold an;simp[hx]
 obtain⟨y,hy⟩:=e_ (x+1)
 have hwr:IntKind.i64.wrap ((x:Int)+1)=(y:Int):=by rw[IntWalk.i64_in _ o_];omega
 have hyd:decide ((4000:Int)<(y:Int))=false:=decide_eq_false o_;rw[hy];have hb1:=(ah w.heap.size w).alloc (ae _) (.cells zN 157);have HR1:=J (aa.new w 157 zN);have Dy1:=J (h.below ok hb1);have hgR:∀k,c.F Fs V kv k\/c.R k->k<w.heap.size:=λk hk=>hk.elim h.fY h.qj
 generalize hW1:w.alloc (.cells zN 157)=w1 at*;have Dy2:=J (Dy1.inc ok hil y);have HS:=J (src.node (w1.setCell (M c.gn i) (N y)) Fs id n Dy2.1.src hn);have Hlt:=J src.lt;rw[hd]at HS;obtain⟨⟨b0,b1,b2,b3,b4,b5,b6,b7⟩,_⟩:=Wt.eight Dy1.box;have hgn1:C w1 c.gn i (N x):=al hb1 hgn;have fgn1:w1.frozen? (M c.gn i)=false:=Dy1.kg.free i;have Hb1:=J hb1;have hng:c.gn≠c.gw:=λe=>ok.wn e.symm
 have h0:(0:Int)<=(i:Int):=o_
 have h1:(i:Int)<(c.sns.length:Int):=by have:=h.lV;omega
 have Hw2:=J Dy2;have Hgs:=J h;have Ho:=J ok;have Hp:=J hp;have Hdi:=J hd;have hil2:=J hi;clear hb1 hgn h hn hd hp hx hil hw hgR Dy1;go_in;go_upto_region 2 with fail
 have HR2:=J (HR1.aJ (p:=(M c.gn i)) (by have:=Hgs.kg.lt;simp;omega) (N y));have Hz2:Kp (w.heap.size<(w1.setCell (M c.gn i) (N y)).heap.size):=HR2.lt;clear b0 b1 b2 b3 b4 b5 b6 b7 hgn1 fgn1 HR1 hwr;have hgn2:(w1.setCell (M c.gn i) (N y)).cell? ⟨c.gn,i,none⟩=some (N y):=by
  have:=Hw2.1.kg.cell i;rw[this];unfold an;have hl:=Hgs.lV;have hy:=Ho.len;have:=hil2.out;rw[map_set];simp[getElem?_set];omega
 have Hm1:Kp (Mv (c.F Fs V kv) w (w1.setCell (M c.gn i) (N y)) (c.F Fs V kv)):=((Mv.start _ w).below Hb1).trans Hw2.2;generalize w1.setCell (M c.gn i) (N y)=w2 at*;obtain⟨⟨b0,b1,b2,b3,b4,b5,b6,b7⟩,_⟩:=Wt.eight Hw2.1.box;go_wp2_with fail;clear b0 b1 b2 b3 b4 b5 b6 b7 hgn2;refine HS.o.mono ?_;rintro e w3⟨nd,Fs',rfl,hpn,hat,hfr,hcp,hI,hmv⟩;obtain⟨dy3,mv3⟩:=Hw2.1.EB hI hmv (Hlt _ _ hI);have hR3:=HR2.ax hmv.ax (λhf=>by have:=(Hw2.1.fs _ hf);have:=(Hgs.fs _ hf).1;omega);have hb4:=(ah w3.heap.size w3).alloc (ae _) (.cells (aZ nd) 157);have HN4:=J (aa.new w3 157 (aZ nd));have HR4:=J (hR3.under hb4);have Dy4:=J (dy3.below Ho hb4);have Hm4:=J ((Hm1.trans mv3).below hb4);have Hat4:=J ((hat.below hb4).more hb4.size);have Hpn:=J hpn;have Hcp:=J hcp;have Hz3:Kp (w2.heap.size<=w3.heap.size):=hmv.ax.size
 have Hfr:Kp (∀k,mE nd k->w2.heap.size<=k/\¬Fs' k/\k<w3.heap.size):=λk hk=>⟨(hfr k hk).1,(hfr k hk).2,by
  obtain hk|⟨l,hl,hk⟩:=hk
  .exact Row.bU hat.row hk
  .exact Row.bU (hat.each l hl) hk⟩
 have HFs:Kp (∀k,Fs' k->k≠w.heap.size):=(λk hk e=>by
  obtain q|⟨q,_⟩:=hmv.sub k hk
  .have:=(Hgs.fs _ q).1;omega
  .have:=Hz2.o;omega)
 clear hpn hat hfr hcp hI hmv dy3 mv3 hR3 hb4;go_upto_region 9 with fail
 have hdim:nd.aj=i:=by
  have e:(aK nd).aj=nd.aj:=rfl;rw[<-e,Hpn.o];unfold cH;split<;>exact Hdi
 have HC:Kp (Calls prog 150 #[.agg #[U c.Ax c.ys.length c.cx,I c.m],.agg (aZ nd)] (w3.alloc (.cells (aZ nd) 157)).drew (λe w'=>e = .returned (I 0)/\Below (w3.alloc (.cells (aZ nd) 157)).heap.size (w3.alloc (.cells (aZ nd) 157)) w')):=(by
  have hd':nd.aj<c.ys.length:=by rw[hdim];exact hil2.out
  have hpn:im (decide (nd.aj+1=c.ys.length)) (c.ys[nd.aj]'hd').keys c.m (aK nd):=by
   have h2:=Hp.o;rw[Hpn.o];simp only[hdim];exact h2
  have e1:=tP c.Ax c.cx c.m c.ys nd (w3.alloc (.cells (aZ nd) 157)).drew ((Ho.PJ _ _ Dy4.src).same λ_ _=>rfl) ⟨Hat4.row,Hat4.each⟩ (by rw[Ho.len];exact Ho.n16) Ho.m1 Ho.m3 hd' hpn;apply e1.mono;rintro e w'⟨he,hb⟩
  exact⟨he,(ah _ _).drew.trans hb⟩)
 obtain⟨aj,nA,ls,nc,key,child,ac,s0,n0,x0,s1,n1,x1,s2,n2,x2⟩:=nd;dsimp only at hdim;subst aj;dsimp only[aZ]at HC HN4 HR4 Dy4 Hm4 Hat4⊢;generalize hW4:w3.alloc (.cells #[N i,U nA ls.length nc,N key,N child,I ac,I s0,I n0,I x0,I s1,I n1,I x1,I s2,I n2,I x2] 157)=w4 at*;generalize hg4:w3.heap.size=g4 at*;clear hW4;obtain⟨a0,a1,a2,a3,a4,a5,a6,a7,a8,a9,a10,a11,a12,a13⟩:=(aa.bK HN4).1;obtain⟨⟨b0,b1,b2,b3,b4,b5,b6,b7⟩,_⟩:=Wt.eight Dy4.box;have hlen:=Ho.len;rw[hlen]at b1 HC;apply wp_region_noPanic;refine br (t:=99) (S:=(λw'=>C w' c.gw 1 (U c.Ax c.sns.length c.cx)/\C w' c.gw 2 (I c.m)/\C w' g4 0 (N i)/\C w' g4 1 (U nA ls.length nc)/\C w' g4 2 (N key)/\C w' g4 3 (N child)/\C w' g4 4 (I ac)/\C w' g4 5 (I s0)/\C w' g4 6 (I n0)/\C w' g4 7 (I x0)/\C w' g4 8 (I s1)/\C w' g4 9 (I n1)/\C w' g4 10 (I x1)/\C w' g4 11 (I s2)/\C w' g4 12 (I n2)/\C w' g4 13 (I x2))) k_ ⟨b1,b2,a0,a1,a2,a3,a4,a5,a6,a7,a8,a9,a10,a11,a12,a13⟩ (λhHeld=> ?_);apply tD 0 1 2 3 hHeld;apply tk 4 hHeld;refine oT 5 (λK hK=> ?_)
 go_simp
 apply HC.mono;rintro e w5⟨rfl,hb5⟩;have Hb5:=J hb5;clear hb5
 try go_simp
 refine oK hK ?_ (λhHeld2=> ?_)
 .exact⟨(by rw[<-hlen];exact(Wt.eight (Dy4.below Ho Hb5).box).1.2.1),(Wt.eight (Dy4.below Ho Hb5).box).1.2.2.1,(aa.bK (HN4.under Hb5)).1⟩
 clear hK K hHeld;have hHeld:=hHeld2;clear hHeld2;have hii:((i:Int) != (i:Int))=false:=s_
 apply tD 6 7 8 9 hHeld;apply tD 10 11 12 13 hHeld;refine bQ k_ ?_ _
 try clear hHeld
 apply NoPanic.normal;clear b0 b1 b2 b3 b4 b5 b6 b7 a0 a1 a2 a3 a4 a5 a6 a7 a8 a9 a10 a11 a12 a13 HC HS;have HN5:=J (HN4.under Hb5);have HR5:=J (HR4.under Hb5);have Dy5:=J (Dy4.below Ho Hb5);have Hm5:=J (Hm4.below Hb5);have Hat5:=J ((Hat4.below Hb5).more Hb5.size);have Hz5:=kp (show g4<=w5.heap.size from by have:=HN5.o.lt;omega)
 have Hfin:Kp (vY c (cH (decide (i+1=c.sns.length)) pl n) w Fs V kv D pre (aS.set i y) P (.returned (.tuple #[.agg (aZ ⟨i,nA,ls,nc,⟨key,child,⟨ac,s0,n0,x0,s1,n1,x1,s2,n2,x2⟩⟩⟩),I 0])) (aH w5 w.heap.size 0 (cO ⟨i,nA,ls,nc,⟨key,child,⟨ac,s0,n0,x0,s1,n1,x1,s2,n2,x2⟩⟩⟩))):=(by
  generalize hnd:(⟨i,nA,ls,nc,⟨key,child,⟨ac,s0,n0,x0,s1,n1,x1,s2,n2,x2⟩⟩⟩:Nd)=nd at*;have hno:∀k,mE nd k->k≠w.heap.size:=λk hk e=>by have:=(Hfr k hk).1;have:=Hz2.o;omega
  have hF:∀k,c.F Fs' V kv k\/c.R k->k≠w.heap.size:=λk hk e=>by
   obtain(hk|hk|hk|hk)|hk:=hk
   .exact HFs k hk e
   .have:=Hgs.ke k hk;omega
   .have:=Hgs.oE hk;omega
   .have:=Hgs.kE hk;omega
   .have:=Hgs.qj hk;omega
  refine⟨nd,Fs',rfl,Hpn,⟨?_,?_⟩,?_,Hcp,?_,?_⟩
  .rw[nH];exact Row.jA (λk hk=>hno k (.inl hk)) _ _ _ Hat5.row
  .rw[nH];exactλl hl=>Row.jA (λk hk=>hno k (.inr ⟨l,hl,hk⟩)) _ _ _ (Hat5.each l hl)
  .intro k hk;have h1:=Hfr k hk;have h2:=Hz2.o;refine⟨o_,?_⟩;rintro(q|q|q|q)
   .exact h1.2.1 q
   .have:=Hgs.ke k q;omega
   .have:=Hgs.oE q;omega
   .have:=Hgs.kE q;omega
  .exact Dy5.keep Ho (by rw[nH];exact ae _) (λk hk=>ee (hF k hk) _ _ _)
  .exact Hm5.aH (ae _) _ _)
 have HB:Kp (aa (aH w5 w.heap.size 0 (cO ⟨i,nA,ls,nc,⟨key,child,⟨ac,s0,n0,x0,s1,n1,x1,s2,n2,x2⟩⟩⟩)) w.heap.size 157 (aZ ⟨i,nA,ls,nc,⟨key,child,⟨ac,s0,n0,x0,s1,n1,x1,s2,n2,x2⟩⟩⟩)):=dS HR5 _ rfl;obtain⟨qD,f0,f1,f2,f3,f4,f5,f6,f7,f8,f9,f10,f11,f12,f13⟩:=aa.bK HR5;have dD:=(aa.bK HN5).1;generalize hQ:vY c (cH (decide (i+1=c.sns.length)) pl n) w Fs V kv D pre (aS.set i y) P=Q at*;clear hQ;dsimp only[aZ,cO]at Hfin HB⊢;generalize hWf:aH w5 w.heap.size 0 _=Wf at*;simp only[aH,Nat.zero_add,Nat.reduceAdd]at hWf;obtain⟨z0,z1,z2,z3,z4,z5,z6,z7,z8,z9,z10,z11,z12,z13⟩:=(aa.bK HB).1;go_wp2_with fail;refine bodyPost_ret (v:= .tuple #[.agg #[N i,U nA ls.length nc,N key,N child,I ac,I s0,I n0,I x0,I s1,I n1,I x1,I s2,I n2,I x2],I 0]) ?_ rfl Hfin;simp[results,results184,go_sem,z0,z1,z2,z3,z4,z5,z6,z7,z8,z9,z10,z11,z12,z13]
def qw(L:List (au×Pk)):Nat:=(L.filter λx=>x.2.g).length
def ze d p L:qw ((d,p)::L)=(if p.g=true then 1 else 0)+qw L:=by
 unfold qw;grind
def yw{fs m}(h:il m fs):∀(L:List (au×Pk))(a:Nat)(K:cL)(pre:LN),aT fs K≠[]->∀x∈bZ fs L a K pre,GA m 2560 x.2
 | [],a,K,pre,hK,x,hx=>by
  unfold bZ at hx;obtain⟨g,b,h2⟩:=rU h hK;grind
 |(d,p)::L,a,K,pre,hK,x,hx=>by
  rw[bZ]at hx;split at hx
  .exact yw h L _ _ _ hK x hx
  .obtain⟨k,_,hx⟩:=mem_flatMap.1 hx;split at hx
   .grind
   .exact yw h L _ _ _ ‹_› x hx
structure qO(c:Wt)(s:aN)(fs:List Fa)(st:St)(Lq:List (au×Pk))(m:Nat)(top:Int)(pl:Nat->Nat):Prop where
 ok:c.Ok
 src:mh c.I c.gs top c.sns.length st.nodes pl
 nY:fR s fs st
 bO:cJ s
 fact:iE s fs
 dw:il m fs
 af:∀(i:Nat)(x:au×Pk),Lq[i]? = some x->s.af[i]? = some x.1/\gz x.1 x.2
 len:Lq.length=s.af.length
 lens:s.af.length=c.sns.length
 scan:∀(i:Nat)(x:au×Pk),Lq[i]? = some x->∃h:i<c.sns.length,jh x.1 x.2 c.sns[i]
 node:∀(id:Nat) n,st.nodes[id]? = some n->∃h:n.aj<c.ys.length,im (decide (n.aj+1=c.ys.length)) (c.ys[n.aj]'h).keys c.m (cH (decide (n.aj+1=c.sns.length)) pl n)
 wd:c.wd<=16
 b:c.B<=c.gw
structure mQ(c:Wt)(fs:List Fa)(m:Nat)(L:List (au×Pk))(a N:Nat)(pre aS:LN)(P:List (LN×Ag)):Prop where
 wd:pre.length+qw L=c.wd
 key:∀y∈pre,y<200
 yj:P.length+N<=60
 ga:∀x∈P,GA m 2560 x.2
 aS:∀j,a<=j->∀x,aS[j]? = some x->x+N<=4000
def iH(c:Wt)(w:World)(m V:Nat->Prop)(n:Value)(pre aS:LN)(P:List (LN×Ag))(Q:List (LN×Ag))(a N:Nat)(e:Ending)(w':World):Prop:=
 e = .returned (.tuple #[])/\∃b g d p went',c.Dy w' b g d p pre went' (P++Q)/\Mv (c.F m V n) w w' (c.F b g d)/\(∀j,j<a->went'[j]? = aS[j]?)/\∀(j f:Nat),went'[j]? = some f->∃x,aS[j]? = some x/\f<=x+N
section
variable(c:Wt)(s:aN)(fs:List Fa)(st:St)(Lq:List (au×Pk))(m:Nat)(pl:Nat->Nat)
def vv(a:Nat):Prop:=∀(K:cL)(pre aS:LN)(P:List (LN×Ag))(b V:Nat->Prop)(d:Value)(D:DataW Value)(w:World)(id:Nat),mQ c fs m (Lq.drop a) a (aT fs K).length pre aS P->st.parts[id]? = some (a,aT fs K)->c.Dy w b V d D pre aS P ->
 Calls prog 110 #[Y c.gw 0,N a,I (pl id:Nat)] w (iH c w b V d pre aS P (bZ fs (Lq.drop a) a K pre) a (aT fs K).length)
def fb(last:Bool)(pl:Nat->Nat)(x:Cl):Cl:=if last=true then x else eY pl x
def uL(a:Nat):Prop:=∀(K:cL)(pre aS:LN)(P:List (LN×Ag))(b V:Nat->Prop)(d:Value)(D:DataW Value)(w:World)(x:Cl),mQ c fs m (Lq.drop (a+1)) (a+1) (aT fs K).length pre aS P->aT fs K≠[]->lY s fs st a K x->c.Dy w b V d D pre aS P ->
 Calls prog 185 #[Y c.gw 0,N a,.agg (bH (fb (decide (a+1=c.sns.length)) pl x))] w (iH c w b V d pre aS P (bZ fs (Lq.drop (a+1)) (a+1) K pre) (a+1) (aT fs K).length)
end
def uz{c s fs st O m top pl}(T:qO c s fs st O m top pl){a}(ha:a<c.sns.length)(HN:a+1<c.sns.length->vv c fs st O m pl (a+1)):uL c s fs st O m pl a:=by
 intro K pre aS P B V u D w x p hK hx h;obtain⟨A,cc,rfl⟩:=bY h.keys;have X:∀y:Cl,E w (w.alloc (.cells (bH y) 155)):=λy=>bR.alloc o_ _;have d:=T.ok.len;by_cases L:a+1=c.sns.length
 .have e2:bZ fs (O.drop (a+1)) (a+1) K pre=[(pre,x.ag)]:=by
   have h1:O.drop (a+1)=[]:=drop_eq_nil_of_le (by rw[T.len,T.lens];omega);unfold lY at hx;rw[if_pos (by rw[T.lens];omega)]at hx;rw[h1];unfold bZ;rw[hx]
  have hm:fb (decide (a+1=c.sns.length)) pl x=x:=by unfold fb;grind
  rw[hm,e2];have G:=p.wd;have e6:qw (O.drop (a+1))=0:=by rw[drop_eq_nil_of_le (by rw[T.len,T.lens];omega)];rfl
  rw[e6]at G;have R:=hx;unfold lY at R;rw[if_pos (by rw[T.lens];omega)]at R;have Z:GA m 2560 x.ag:=by
   obtain⟨g,h1,h2⟩:=rU T.dw hK;rw[R]at h1;injection h1 with h1;grind
  have hP:P.length+1<=60:=by have:=p.yj;have:=length_pos_iff.2 hK;omega
  obtain⟨w1,d8⟩:=e_ (w.alloc (.cells (bH x) 155));have M:=X x;have z:=J (aa.new w 155 (bH x));rw[d8]at M z;have q:=J (mD c.Ax c.ys.length c.cx c.m a w1 o_ (by rw[d];have:=T.ok.n16;omega) (by have:=T.ok.n16;omega));rw[decide_eq_true o_]at q;have H:=J (h.below T.ok M);have c6:=J M;have u:=J T.ok;have b9:=J (λW(hd:c.Dy W B V (U A _ cc) D _ aS P)=>P7 A cc _ _ hd.tab hd.map hd.gH (λk hk=>⟨hd.ke k hk,λe=>(hd.fv k hk).1 (.inr (.inr (.inl e)))⟩) (kG hd.keys) ⟨G,p.key⟩ T.wd o_ p.ga Z Z.b.fit (λy hy=>(p.ga y hy).b.fit) T.ok.om);have HQ:Kp (∀w' V' D',c.Dy _ B _ (U A pre.length cc) _ _ _ _->Mv _ w _ _->iH c w B V (U A pre.length cc) pre _ P [(pre,x.ag)] (a+1) (aT fs K).length _ w'):=λw' V' D' h1 h2=>⟨rfl,B,V',_,D',aS,h1,h2,λ_ _=>rfl,λj x' e=>⟨_,e,o_⟩⟩;generalize f6:iH c w B V _ _ _ P _ _ _=Q at*;have Hh:=J h;clear f6 p hx h M X R Z hP hm e2 G e6 HN T ha hK;obtain⟨⟨b0,N,b2,b3,b4,Z,b6,b7⟩,_⟩:=Wt.eight H.box;rw[d]at N q;clear L d;go_in;go_wp2_with fail;apply q.mono;rintro e w2⟨rfl,n⟩;have d3:=J (H.below u n);have G:=bu z n;have d5:=ay c6 n;clear b0 N b2 b3 b4 Z b6 b7 n;go_upto_region 3 with fail;have c9:=J (d3.below u bR.drew);have d7:Kp (aa _ _ _ _):=G.under bR.drew;have f4:=J d5.drew;obtain⟨xk,xc,⟨ac,s0,n0,x0,s1,n1,x1,s2,n2,x2⟩⟩:=x;dsimp only[bH]at G d7 b9⊢;obtain⟨⟨b0,N,b2,b3,b4,Z,b6,b7⟩,bf⟩:=Wt.eight c9.box;obtain⟨a0,a1,a2,a3,a4,a5,a6,a7,a8,a9,e7,f0⟩:=(aa.gu d7).1;apply wp_region_noPanic;refine br (t:=14) (S:=(λw'=>C w' _ 4 (Y _ 0)/\C w' _ 5 (U A _ _)/\C w' _ 2 _/\C w' _ 3 _/\C w' _ 4 _/\C w' _ 5 _/\C w' _ 6 _/\C w' _ 7 _/\C w' _ 8 _/\C w' _ 9 _/\C w' _ _ _/\C w' _ _ _)) k_ ⟨b4,Z,a2,a3,a4,a5,a6,a7,a8,a9,e7,f0⟩ (λf=> ?_);generalize w2.drew=wd at*;apply tD 0 1 2 3 f;apply tD 4 5 6 7 f;apply eR 8 9 10 f;refine oT 11 (λK hK=> ?_);go_simp;apply(b9 _ c9).mono;rintro e w3⟨rfl,D',V',G⟩;have c3:=J G;clear G;have G:=J (c9.put u c3);have f3:=J (d7.ax c3.ax (λe=>by have:=Hh.oE (.inr (.inr (.inl rfl)));omega));try go_simp
  refine oK hK ?_ (λr=> ?_)
  .exact⟨(Wt.eight G.1.box).1.2.2.2.2.1,(Wt.eight G.1.box).1.2.2.2.2.2.1,(aa.gu f3).1.2.2⟩
  clear hK K f;have f:=r;clear r;clear b0 N b2 b3 b4 Z b6 b7 a0 a1 a2 a3 a4 a5 a6 a7 a8 a9 e7 f0 bf;obtain⟨⟨b0,N,b2,b3,b4,Z,b6,b7⟩,bf⟩:=Wt.eight G.1.box;have e8:=J (G.1.err u);have Hq:=J (HQ _ _ _ e8.1 ((((Mv.start _ w).below f4).trans G.2).trans e8.2));refine qx (i:=12) (oi:= ?op12) (v:= ?vp12) ?ap12 k_ k_ k_ k_ (λ_ _ _ h=>h) ?bp12 f ?cp12
  case ap12=>rfl
  case bp12=>(refine Or.inl ⟨o_,?_⟩;intro w G;(try dsimp only at G);go_simp;try rfl)
  try simp only[Act.put,setIfInBounds_toArray,set_cons_zero,set_cons_succ]
  apply tk 13 f;refine fC k_ (by first|exact g_|rfl) k_ (λK hK=> ?_);go_simp;apply hK.out _ _;clear hK K f;apply NoPanic.normal
  clear b0 N b2 b3 b4 Z b6 b7 bf;go_wp2;go_end0;exact Hq
 .have g0:a+1<c.sns.length:=o_;have hm:fb (decide (a+1=c.sns.length)) pl x=eY pl x:=by unfold fb;grind
  have R:=hx;unfold lY at R;rw[if_neg (by rw[T.lens];omega)]at R;have G:=J (λW hd=>HN g0 K _ _ P B V (U A pre.length cc) D W _ p R hd);rw[hm];obtain⟨w1,d8⟩:=e_ (w.alloc (.cells (bH (eY pl x)) 155));have M:=X (eY pl x);have z:=J (aa.new w 155 (bH (eY pl x)));rw[d8]at M z;have q:=J (mD c.Ax c.ys.length c.cx c.m a w1 o_ (by rw[d];have:=T.ok.n16;omega) (by have:=T.ok.n16;omega));rw[decide_eq_false o_]at q;have H:=J (h.below T.ok M);have c6:=J M;have u:=J T.ok;have HQ:Kp (∀w1 w' e,E w _->iH c w1 B V _ _ _ P _ _ _ e _->e = .returned _/\iH c w B V (U A pre.length cc) pre aS P (bZ fs (O.drop (a+1)) (a+1) K pre) (a+1) (aT fs K).length _ w'):=λw1 w' e M⟨e1,f5,V',f7,D',went',h1,h2,D⟩=>⟨e1,rfl,_,_,_,_,_,h1,((Mv.start _ w).below M).trans h2,D⟩;generalize f8:iH c w B V _ _ _ P _ _ _=Q at*;obtain⟨⟨b0,N,b2,b3,b4,Z,b6,b7⟩,_⟩:=Wt.eight H.box;rw[d]at N q;have U:=T.ok.n16;have U:IntKind.i64.wrap (a+1)=(a+1:Nat):=by rw[IntWalk.i64_in _ o_];omega
  clear f8 L d hx p h M X R HN T hm;generalize M:(eY _ x)=y at*;have L:pl x.child=y.child:=by rw[<-M];rfl
  rw[L]at G;clear L M;obtain⟨yk,L,L⟩:=y;generalize a+1=a1 at*;dsimp only[bH]at z G⊢;go_in;go_wp2_with fail;apply q.mono;rintro e w2⟨rfl,n⟩;have d3:=J (H.below u n);have y:=(z.under n).cell 1;have d5:=ay c6 n;clear b0 N b2 b3 b4 Z b6 b7 n;go_wp2_with fail;apply(G _ d3).mono;intro e w3 D;obtain⟨rfl,u⟩:=HQ _ _ _ d5 D;have Hq:=J u;clear D u y;go_wp2;go_end0;exact Hq
def zq(c:Wt)(s:aN)(fs:List Fa)(st:St)(b:List (au×Pk))(m:Nat)(pl:Nat->Nat)(a:Nat):Prop:=∀(K:cL)(pre aS:LN)(P:List (LN×Ag))(e V:Nat->Prop)(f:Value)(D:DataW Value)(w:World)(x:Cl)(d:au)(p:Pk)(t k key:Nat),
 b[a]? = some (d,p)->gj p=some t->(bL d p t)[k]? = some key->mQ c fs m (b.drop (a+1)) (a+1) (aT fs K).length (pre++fZ d p t key) aS P->aT fs K≠[]->lY s fs st a K x->c.Dy w e V f D pre aS P ->
 Calls prog 186 #[Y c.gw 0,N a,N k,.agg (bH (fb (decide (a+1=c.sns.length)) pl x))] w (iH c w e V f pre aS P (bZ fs (b.drop (a+1)) (a+1) K (pre++fZ d p t key)) (a+1) (aT fs K).length)
def ES{c s fs st Lq m top pl}(T:qO c s fs st Lq m top pl){a}(HC:uL c s fs st Lq m pl a):zq c s fs st Lq m pl a:=by
 intro K pre aS P Fs V kv D w x d p t k key hL ht hk d3 hK hx h;obtain⟨ha,e8⟩:=T.scan a _ hL;have q:=e8.dz;unfold ql at q;rw[ht]at q;dsimp only at q;have i5:=(aO hk).1;have HS:=J (λW O D' hd=>HC K _ _ P Fs V O D' W x d3 hK hx hd);obtain⟨A,cc,rfl⟩:=bY h.keys;have d7:=J T.ok;generalize fb _ _ x=y at*;have hb:=(ah _ w).alloc (ae _) (.cells (bH y) 155);have f4:=J (aa.new w 155 (bH y));have z:=J (h.below T.ok hb);have e7:=J hb;obtain⟨w1,o7⟩:=e_ (w.alloc (.cells (bH y) 155))
 rw[o7]at f4 z e7;obtain⟨b,off,eA,t0,c0,c1,c2⟩:=z.lR.scan a ha;obtain⟨⟨b0,b1,b2,b3,b4,b5,b6,b7⟩,_⟩:=Wt.eight z.box;rw[eA]at b3;have h0:0<=(a:Int):=o_
 have h1:a<(c.sns.length:Int):=o_
 have Hh:=J h;by_cases hg:p.g=true
 .obtain⟨Z,f2⟩:=e_ (fu d t p.bG key)
  have e1:fZ d p t key=[Z]:=by unfold fZ;grind
  rw[if_pos hg]at q;have g6:(an c.sns[a].dz)[k]? = some (N Z):=by
   rw[q];unfold an;rw[getElem?_map,getElem?_map,hk];show some (I ((fu d t p.bG key:Nat):Int))=_;rw[f2]
  have o2:k<c.sns[a].dz.length:=r_
  have k9:pre.length<=16:=by
   have:=d3.wd;rw[aE]at this;have:=T.wd;omega
  rw[e1]at HS⊢
  have HQ:Kp (∀w4 L w6 n1 A6 c6 u V' D' went',n1=pre.length+1->Mv _ w _ _->c.Dy _ u V' (U A6 n1 c6) D' (pre++[Z]) went' _->Mv (c.F Fs V L) w4 w6 (c.F u V' (U A6 n1 c6))->((∀j,j<a+1->went'[j]? = aS[j]?)/\∀ j x',went'[j]? = some x'->∃x,aS[j]? = some x/\x'<=x+(aT fs K).length)->iH c w Fs V (U A pre.length cc) _ _ P (bZ fs (Lq.drop (a+1)) (a+1) K (pre++[Z])) _ _ _ (w6.setCell _ (U A6 _ c6))):=(λw4 L w6 n1 A6 c6 u V' D' went' e hm hd p8 hw=>by
   subst e;have hp:=hd.pop T.ok rfl
   exact⟨rfl,u,_,_,_,_,hp.1,(hm.trans p8).trans hp.2,hw⟩)
  have n9:=J T.b;have HP:=J (λ(w0 wc w5:World) m4(hd:c.Dy _ Fs V (U A pre.length cc) D _ aS P)(hb:E w0 wc)(ho:w5.ownsRow _ 3 1 m4 _ (an pre++[N Z])) ha=>hd.push T.ok hb ho ha);have e0:=(z.lR.each _ (gM ha)).dz;have d4:=(aO g6).1;obtain⟨bi,oi,f8,t6,g3⟩:=e0.at_ d4;rw[(aO g6).2]at g3;have k2:Kp (c.R _):=.inr ⟨_,gM ha,.inr ⟨λe=>r_,_,f8⟩⟩;generalize f3:iH c w _ V _ _ _ P _ _ _=Q at*;obtain⟨nn,k3⟩:=e_ (c.sns[a].dz.length)
  rw[k3]at o2 c2;rw[f8]at c2;have q0:Kp (∀w4 L e w6,iH c _ Fs V L _ _ P (bZ fs (Lq.drop (a+1)) (a+1) K (pre++[Z])) _ _ e _->e = .returned _/\∃u V' O D' went',c.Dy _ u _ O _ (pre++[Z]) _ _/\Mv _ w4 w6 _/\((∀j,j<a+1->went'[j]? = aS[j]?)/\∀ j x',went'[j]? = some _->∃x,aS[j]? = some x/\x'<=x+(aT fs K).length)):=λw4 L e w6 h=>h;have e4:=J (λW(hd:c.Dy W Fs V (U A pre.length cc) D pre aS P)=>hd.keys);clear f3 k3 q e8 hL hk d3 hx hb ht h HC T e1 hK hg f2 g6 i5 e0 d4 f8;generalize c.sns[a]=sn at*;obtain⟨d6,At,f1,ct,Ai,it,ci⟩:=sn;dsimp only at c0 c1 c2;obtain⟨nt,c8⟩:=e_ f1.length
  rw[c8]at c1;clear c8;have G:=(ah _ w1).alloc (ae _) (.cells #[I d6,U At nt ct,U (some ⟨bi,oi,none⟩) nn ci] 203);have f0:=J (aa.new w1 203 #[I d6,U At nt ct,U (some ⟨bi,oi,none⟩) nn ci]);have b9:=J (z.below d7 G);have c3:=ay e7 G;have b8:=bu f4 G;have j2:=al G g3;have t8:((nn:Int) == 0)=false:=o_
  obtain⟨n,hn⟩:=e_ pre.length
  obtain⟨n1,d5⟩:=e_ (n+1)
  rw[hn]at HP HQ e4 b5 z b9 Hh k9;have Hn:=J hn;have c9:=J d5;clear hn d5;go_in;go_upto_region 4 with fail
  generalize f9:w1.alloc _=Y at*;generalize s6:w1.heap.size=g8 at*;clear f9 b0 b1 b2 b3 b4 b5 b6 b7 c0 c1 c2 G;have c4:=J (b9.below d7 bR.drew);have k6:bi<Y.heap.size:=by have:=f0.lt;omega
  have k7:=f0.lt;obtain⟨⟨b0,b1,b2,b3,b4,b5,b6,b7⟩,bf⟩:=Wt.eight c4.box;have e2:=(f0.under bR.drew).cell 2;have g9:Y.drew.cell? _=some _:=j2;have j0:0<=(k:Int):=o_
  have j1:k<(nn:Int):=o_
  obtain⟨i0,p5,p6,o1,q6⟩:=info_parts iK;have k1:=J (e4 _ c4);have q8:=kp (show c.B<=Y.drew.heap.size from by have h1:=n9.o;have h2:=c4.o.box.lt;omega);have d5:n<1048576*64:=o_
  have a0:Kp (∀j,(Value.slice A n _).ownBlock=some j->j≠c.gw/\j≠bi/\j≠g8):=λj hj=>⟨λe=>z.fk j hj (.inl e),λe=>z.ro _ k2 (.inr (.inr (.inr (e▸hj)))),λe=>by have:=z.kE hj;omega⟩;apply wp_region_noPanic;refine br (t:=14) (S:=(λw'=>C w' _ 5 (U A n _)/\C w' _ 2 (U _ _ _)/\C w' _ _ _)) k_ ⟨b5,e2,g9⟩ (λf=> ?_);have e3:=c4.box.lt;have k5:bi<Y.drew.heap.size:=k6;have l7:g8<Y.drew.heap.size:=k7;have d8:Kp (aa _ _ _ _):=b8.under bR.drew;have j3:Kp (E w _):=c3.trans (bR.drew.mono c3.size);generalize Y.drew=wd at*;apply tD 0 1 2 3 f;apply tD 4 5 6 7 f;apply tB 8 9 f;refine oT 10 (λK hK=> ?_)
  go_simp
  refine oK hK ?_ (λr=> ?_)
  .exact⟨al (bR.alloc o_ _) f.1,al (bR.alloc o_ _) f.2.1,al (bR.alloc o_ _) f.2.2⟩
  clear hK K f;clear r;refine oT 11 (λK hK=> ?_);apply jq rfl _ _ _ rfl _ 3 _ _ 8 underlying84 p5 p6 o1 q6 rfl _ _ rfl (U A n _) n _ rfl k1 rfl d5 d_ q8;intro v5 w5 X a9;obtain⟨A5,c5,h5⟩:=bY X;subst h5;have a8:=J X;have H:=J a9;clear X a9
  go_simp
  refine oK hK ?_ (λr=> ?_)
  .exact⟨(bF (H.bI e3 (λe=>(a0 _ e).1 rfl))).trans b5,(bF (H.bI l7 (λe=>(a0 _ e).2.2 rfl))).trans e2,(bF (H.bI k5 (λe=>(a0 _ e).2.1 rfl))).trans g9⟩
  clear hK K;have f:=r;clear r;have d1:= H.bI e3 (λe=>(a0 _ e).1 rfl);have p0:=J ((bF (a:=(M c.gw 5)) d1).trans b5);have f5:w5.frozen? (M c.gw 5)=false:=by have h:=bf 5;unfold World.frozen? at h⊢;rw[d1];omega
  obtain⟨k0,i9⟩:=HP _ _ _ _ c4 bR a8 H;have n7:=J k0;have q1:=J (((Mv.start _ w).below j3.out).trans i9);have d9:Kp (aa (w5.setCell (M c.gw 5) (U A5 (n+1) c5)) _ _ _):=aa.aJ ((H.bI d8.lt (λe=>by have:=Hh.kE e;omega)).trans d8) (by have:=Hh.box.lt;simp;omega) _;clear k0 i9 b0 b1 b2 b3 b4 b6 b7 bf;refine qx (i:=12) (oi:= ?op12) (v:= ?vp12) ?ap12 k_ k_ k_ k_ (λ_ _ _ h=>h) ?bp12 f ?cp12
  case ap12=>rfl
  case bp12=>(refine Or.inl ⟨o_,?_⟩;intro w g4;(try dsimp only at g4);go_simp;try rfl)
  try simp only[Act.put,setIfInBounds_toArray,set_cons_zero,set_cons_succ]
  apply tk 13 f;refine fC k_ (by first|exact g_|rfl) k_ (λK hK=> ?_)
  go_simp
  apply hK.out _ _;clear hK K f;apply NoPanic.normal
  clear b5 e2 g9 j2 g3 f5 d1;obtain⟨yk,yc,⟨ac,s0,n0,x0,s1,u2,x1,s2,n2,x2⟩⟩:=y;dsimp only[bH]at d9 HS⊢;generalize w5.setCell _ _=w6 at*;have aD:=(aa.gu d9).1;go_wp2_with fail;clear aD;apply(HS _ _ _ n7).mono;intro e w7 h7;obtain⟨rfl,u,V',u0,D',went',g0,i8,i6⟩:=q0 _ _ _ _ h7;clear h7;have a2:=g0.keys;rw[aE,Hn,length_singleton,c9]at a2;obtain⟨A7,c7,rfl⟩:=bY a2;obtain⟨g7,rfl⟩:∃g7,A7=some ⟨g7,0,none⟩:=by
   obtain⟨_,h0⟩|⟨g,cap,cur,hv,_⟩:=a2.2
   .have:=c9.o;omega
   grind
  have s3:=rH a2;have k4:=J (g0.below d7 bR.drew);have Hq:=J (HQ _ _ _ _ _ _ u _ _ _ (by rw[c9]) q1 k4 (i8.below bR.drew) i6);clear g0 i8 i6 a2;go_upto_region 6 with fail
  have t3:IntKind.i64.wrap (n1-1)=n:=by have:=c9.o;rw[IntWalk.i64_in _ o_];omega
  have l0:0<=(n:Int):=o_
  have l1:n<=(c7:Int):=by have:=c9.o;omega
  obtain⟨⟨b0,b1,b2,b3,b4,b5,b6,b7⟩,bf⟩:=Wt.eight k4.box;have f5:=bf 5;clear b0 b1 b2 b3 b4 b6 b7 bf;apply wp_region_noPanic;refine br (t:=14) (S:=(λw'=>C w' _ 5 (U _ _ _))) k_ b5 (λf=> ?_);generalize w7.drew=w8 at*;apply tD 0 1 2 3 f;apply tD 4 5 6 7 f;apply tD 8 9 10 11 f;refine qx (i:=12) (oi:= ?oq12) (v:= ?vq12) ?aq12 k_ k_ k_ k_ (λ_ _ _ h=>h) ?bq12 f ?cq12
  case aq12=>rfl
  case bq12=>(refine Or.inl ⟨o_,?_⟩;intro w g4;(try dsimp only at g4);go_simp;try rfl)
  try simp only[Act.put,setIfInBounds_toArray,set_cons_zero,set_cons_succ]
  apply tk 13 f;refine fC k_ (by first|exact g_|rfl) k_ (λK hK=> ?_)
  go_simp
  apply hK.out _ _;clear hK K f;apply NoPanic.normal
  clear b5 f5
  go_end0
  exact Hq
 .have e1:fZ d p t key=[]:=by unfold fZ;grind
  rw[if_neg hg]at q;rw[q]at c2;rw[e1,append_nil]at HS⊢;have HQ:Kp (∀w1 w' e,E w _->iH c w1 _ V _ _ _ P _ _ _ e _->e = .returned _/\iH c w Fs V (U A pre.length cc) pre aS P (bZ fs (Lq.drop (a+1)) (a+1) K pre) (a+1) (aT fs K).length _ w'):=λw1 w' e hb⟨e1,u,V',O,D',went',h1,h2,h3⟩=>⟨e1,rfl,u,_,O,_,_,h1,((Mv.start _ w).below hb).trans h2,h3⟩;generalize f3:iH c w _ V _ _ _ P _ _ _=Q at*;clear f3 q e8 hL hk d3 hx hb ht h HC T eA hK e1 hg;generalize c.sns[a]=sn at*;obtain⟨d6,At,f1,ct,Ai,it,ci⟩:=sn;dsimp only at c0 c1 c2;obtain⟨nt,c8⟩:=e_ f1.length
  rw[c8]at c1;clear c8;go_in;have G:=(ah _ w1).alloc (ae _) (.cells #[I d6,U At nt ct,U Ai (([]:LN)).length ci] 203);have b9:=J (z.below d7 G);have c3:=ay e7 G;have b8:=bu f4 G;go_upto_region 3 with fail
  dsimp only[length_nil,Int.ofNat_zero]at b9 c3 b8;obtain⟨yk,yc,⟨ac,s0,n0,x0,s1,n1,x1,s2,n2,x2⟩⟩:=y;dsimp only[bH]at b8 HS⊢;generalize f9:w1.alloc _=Y at*;clear f9 b0 b1 b2 b3 b4 b5 b6 b7 c0 c1 c2 G;have aD:=(aa.gu b8).1;go_wp2_with fail;apply(HS _ _ _ b9).mono;intro e w3 h3;obtain⟨rfl,hq⟩:=HQ _ _ _ c3 h3;have Hq:=J hq;clear h3 hq aD;go_wp2
  go_end0
  exact Hq
def oM(b off c:Nat):OA:=if c=1 then some ⟨b,off,none⟩else some ⟨b,off+12,none⟩
def PQ b off n c(h0:1<=n)(p:n<=c) w:(Instr.slice 223 (U (some ⟨b,off,none⟩) n c) (some (I 1)) none none).run prog w = .ok (U (oM b off c) (n-1) (c-1)) w:=by
 have h1:prog.cellsOf 155=12:=k_;obtain⟨q,e,f,d,g⟩:=info_parts o6;have m:1<=(n:Int):=o_;unfold oM;by_cases h:c=1<;>simp[go_sem,m]
def O'{w B b off c x xs}(h:Row w B (some ⟨b,off,none⟩) ((x::xs).flatMap ch))(q:xs.length+1<=c):Row w B (oM b off c) (xs.flatMap ch):=by
 unfold oM;by_cases h1:c=1
 .have:xs=[]:=length_eq_zero_iff.1 o_;subst this;exact .inl rfl
 .rw[if_neg h1];obtain h|⟨r,f,e,n,d⟩:=h
  .grind
  .injection e with e;injection e with g m _;subst g m;refine .inr ⟨b,_,rfl,n,λj v p=> ?_⟩;have:=d (12+j) v (by rw[flatMap_cons,getElem?_append_right o_,mr,Nat.add_sub_cancel_left];omega);grind
def Jf{b off c k x xs}(h:cE (oM b off c) (xs.flatMap ch) k):cE (some ⟨b,off,none⟩) ((x::xs).flatMap ch) k:=by
 obtain⟨_,o,e⟩:=h;refine⟨s_,off,?_⟩;unfold oM at e;grind
def KJ{d}(h:da d){a b key}(f:a<=b)(g:b<d.ai.length)(hk:key<(bE d a).length):fu d a b key<200:=by
 unfold fu;have c:a<d.ai.length:=o_;have e:a+(b-a)=b:=o_;have h1:(bE d a)=(d.ai[a]'c).ar:=by unfold bE;rw[gE c];rfl
 rw[h1]at hk;have h2:=rz h (k:=b-a) o_ hk;have m:=(h.ai (a+(b-a)) o_).n2;omega
section
variable{s:aN}{fs:List Fa}{st:St}{m:Nat}
def l6(fs:List Fa)(L:List (au×Pk))(d:au)(p:Pk)(a t:Nat)(K:cL)(pre:LN)(key:Nat):List (LN×Ag):=if aT fs (df d a t key K)=[]then []else bZ fs L (a+1) (df d a t key K) (pre++fZ d p t key)
def gQ(fs:List Fa)(L:List (au×Pk))(d:au)(p:Pk)(a t:Nat)(K:cL)(pre ks:LN):List (LN×Ag):=ks.flatMap (l6 fs L d p a t K pre)
def kX(fs:List Fa)(d:au)(a t:Nat)(K:cL)(ks:LN):Nat:=(ks.map λk=>(aT fs (df d a t k K)).length).sum
def DG(L:List (au×Pk))(d:au)(p:Pk)(a t:Nat)(K:cL)(pre ks:LN)(k:Nat):gQ fs L d p a t K pre (ks++[k])=gQ fs L d p a t K pre ks++l6 fs L d p a t K pre k:=by
 unfold gQ;simp
def xR(d:au)(a t:Nat)(K:cL)(ks:LN)(k:Nat):kX fs d a t K (ks++[k])=kX fs d a t K ks+(aT fs (df d a t k K)).length:=by
 unfold kX;simp
def Cy(d:au)(a t:Nat)(K:cL){ks:LN}(h:ks.Nodup):kX fs d a t K ks<=(aT fs K).length:=Dm _ d a t K h
def DF(h:il m fs)(L:List (au×Pk))(d:au)(p:Pk)(a t:Nat)(K:cL)(pre:LN):∀ks:LN,(gQ fs L d p a t K pre ks).length<=kX fs d a t K ks
 | []=>ae _
 |k::ks=>by
  have:=DF h L d p a t K pre ks;unfold gQ kX at this⊢;rw[flatMap_cons,aE,map_cons,sum_cons];have h1:(l6 fs L d p a t K pre k).length<=(aT fs (df d a t k K)).length:=by
   unfold l6;split
   .simp
   .exact rN h L _ _ _ ‹_›
  omega
def O7(h:il m fs)(L:List (au×Pk))(d:au)(p:Pk)(a t:Nat)(K:cL)(pre ks:LN):∀x∈gQ fs L d p a t K pre ks,GA m 2560 x.2:=λx hx=>by
 obtain⟨k,_,hx⟩:=mem_flatMap.1 hx;unfold l6 at hx;split at hx
 .grind
 .exact yw h L _ _ _ ‹_› x hx
def O8(L:List (au×Pk)){d:au}(p:Pk){a t:Nat}{K:cL}(pre:LN){l:List Cl}(g:vN s fs st d a t K l)(ks:LN)(n:Nat)(h2:∀y∈ks.drop n,y<200)(h:∀x∈l,∀y∈ks.drop n,x.key<y):gQ fs L d p a t K pre ks=gQ fs L d p a t K pre (ks.take n):=by
 have e:gQ fs L d p a t K pre (ks.drop n)=[]:=by
  unfold gQ;rw[flatMap_eq_nil_iff];intro y b;unfold l6;split
  .rfl
  .obtain⟨c,f,hk⟩:=g.has y (h2 y b) ‹_›;grind
 have:=congrArg (gQ fs L d p a t K pre) (take_append_drop n ks);rw[<-this];unfold gQ at e⊢;grind
def O5(L:List (au×Pk)){d:au}(p:Pk){a t:Nat}{K:cL}(pre:LN){l:List Cl}(f:vN s fs st d a t K l){key:Nat}(hk:key<200)(h:∀x∈l,x.key≠key):l6 fs L d p a t K pre key=[]:=by
 unfold l6;split
 .rfl
 .obtain⟨c,b,e⟩:=f.has key hk ‹_›;grind
def O6(L:List (au×Pk)){d:au}(p:Pk){a t:Nat}{K:cL}(pre:LN){key:Nat}(h:aT fs (df d a t key K)≠[]):l6 fs L d p a t K pre key=bZ fs L (a+1) (df d a t key K) (pre++fZ d p t key):=by
 unfold l6;grind
end
def Wn(a N:Nat)(b c:LN):Prop:=(∀j,j<a->c[j]? = b[j]?)/\∀(j d:Nat),c[j]? = some d->∃x,b[j]? = some x/\d<=x+(if j=a then 1 else N)
def Wn.first{a x b}(h:b[a]? = some x):Wn a 0 b (b.set a (x+1)):=by
 refine⟨λj d=>r_,λj c hx=> ?_⟩;grind
def Wn.next{a N m n c f}(h:Wn a N n c)(h1:∀j,j<a+1->f[j]? = c[j]?)(h2:∀(j b:Nat),f[j]? = some b->∃x,c[j]? = some x/\b<=x+m):Wn a (N+m) n f:=by
 refine⟨λj q=>(h1 j o_).trans (h.1 j q),λj b hx=> ?_⟩;by_cases e:j=a
 .rw[h1 j o_]at hx;obtain⟨x,d,g⟩:=h.2 j b hx;grind
 .obtain⟨y,d,g⟩:=h2 j b hx;obtain⟨x,p,r⟩:=h.2 j y d;grind
def Wn.same{a N c d f}(h:Wn a N d f)(n:N<=c):Wn a c d f:=by
 refine⟨h.1,λj m hx=> ?_⟩;obtain⟨x,g,b⟩:=h.2 j m hx;grind
def Wn.qZ{a N M c d}(h:Wn a N c d)(g:N<=M)(h1:1<=M):(∀j,j<a->d[j]? = c[j]?)/\∀(j b:Nat),d[j]? = some b->∃x,c[j]? = some x/\b<=x+M:=by
 refine⟨h.1,λj b hx=> ?_⟩;obtain⟨x,f,e⟩:=h.2 j b hx;grind
def mQ.Kc{c fs m}{e:List (au×Pk)}{a t key K pre aS went' P d p ks}(h:mQ c fs m (e.drop a) a (aT fs K).length pre aS P)(v:il m fs)(A:e[a]? = some (d,p))(hd:da d)(n:gz d p)(ht:gj p=some t)(hk:key∈bL d p t)(B:(ks++[key]).Nodup)(r:Wn a (kX fs d a t K ks) aS went') :
 mQ c fs m (e.drop (a+1)) (a+1) (aT fs (df d a t key K)).length (pre++fZ d p t key) went' (P++gQ fs (e.drop (a+1)) d p a t K pre ks):=by
 obtain⟨u,s⟩:=aO A;have q:=Cy (fs:=fs) d a t K B;rw[xR]at q;have f:e.drop a=(d,p)::e.drop (a+1):=by rw[drop_eq_getElem_cons u,s]
 have g:=h.wd;rw[f,ze]at g;obtain⟨t1,t2,D⟩:=lU n ht;refine⟨?_,λy b=> ?_,?_,λx hx=> ?_,λj E x hx=> ?_⟩
 .rw[aE];unfold fZ;grind
 .obtain b|b:=mem_append.1 b
  .exact h.key y b
  .unfold fZ at b;split at b
   .rw[mem_singleton.1 b];exact KJ hd (D ‹_›) n.bG (uu hk)
   .cases b
 .rw[aE];have:=DF v (e.drop (a+1)) d p a t K pre ks;have:=h.yj;omega
 .obtain hx|hx:=mem_append.1 hx
  .exact h.ga x hx
  .exact O7 v _ _ _ _ _ _ _ _ x hx
 .obtain⟨y,z,C⟩:=r.2 j x hx;rw[if_neg o_]at C;have:=h.aS j o_ y z;omega
def Lb(last:Bool)(pl:Nat->Nat)(n:aQ):(cH last pl n).lists=n.lists.map (·.map (fb last pl))/\(cH last pl n).all=fb last pl n.all/\(cH last pl n).aj=n.aj:=by
 unfold cH fb;cases last
 .simp
 simp
def La(last:Bool)(pl:Nat->Nat)(x:Cl):(fb last pl x).key=x.key:=by
 unfold fb;cases last<;>rfl
structure lG(c:Wt)(w:World)(F:Nat->Prop)(A:OA)(n cc:Nat)(l:List Cl):Prop where
 len:l.length=n
 cap:n<=cc
 row:Row w w.heap.size A (l.flatMap ch)
 off:∀k,cE A (l.flatMap ch) k->¬F k
def lG.mv{c:Wt}{w w':World}{F b:Nat->Prop}{A:OA}{n cc:Nat}{l:List Cl}(h:lG c w F A n cc l)(d:Mv F w w' b):lG c w' b A n cc l:=
 have h1:=d.row h.row h.off;⟨h.len,h.cap,h1.1,h1.2⟩
def lG.tail{c:Wt}{w:World}{F:Nat->Prop}{b off n cc:Nat}{x:Cl}{l:List Cl}(h:lG c w F (some ⟨b,off,none⟩) n cc (x::l)):lG c w F (oM b off cc) (n-1) (cc-1) l:=by
 have d:=h.len;have e:=h.cap;rw[length_cons]at d;exact⟨o_,o_,O' h.row o_,λk hk=>h.off k (Jf hk)⟩
def ET{c:Wt}{s:aN}{fs:List Fa}{st:St}{O:List (au×Pk)}{m:Nat}{top:Int}{pl:Nat->Nat}(T:qO c s fs st O m top pl){a:Nat}(q7:a<c.sns.length)(HC:uL c s fs st O m pl a)(HI:zq c s fs st O m pl a):vv c fs st O m pl a:=by
 intro K pre aS P Fs V kv D w id a8 m8 h;obtain⟨n,hn,Z,a6,hK⟩:=T.nY.wC T.dw m8;obtain⟨j3,f9⟩:=T.node _ n hn;have p9:a<c.ys.length:=o_
 have i2:im (decide (a+1=c.ys.length)) (c.ys[a]'p9).keys c.m (cH (decide (a+1=c.sns.length)) pl n):=r_
 clear f9 j3;obtain⟨⟨d,p⟩,hL⟩:∃x,O[a]? = some x:=⟨_,gE (by rw[T.len,T.lens];omega)⟩
 obtain⟨i9,q3⟩:=T.af _ _ hL;obtain⟨ha,h7⟩:=T.scan _ _ hL;have E4:=length_pos_iff.2 hK;obtain⟨x,hx⟩:∃x,aS[a]? = some x:=⟨_,gE (by rw[h.lV];omega)⟩
 have z5:=a8.aS a o_ x hx;have HG:=J (QF T.src T.ok h hn Z p9 i2 hx o_);have s4:=J T.ok;have hd:da d:=by
  have h1:=aO i9;have h2:=T.bO.af _ h1.1;rw[h1.2]at h2;omega
 obtain⟨k9,t8⟩:=aO hL;have f7:O.drop a=(d,p)::O.drop (a+1):=by rw[drop_eq_getElem_cons k9,t8]
 obtain⟨ml,f4⟩:=e_ (decide (a+1=c.sns.length))
 obtain⟨m1,m2,m3⟩:=Lb ml pl n;rw[f4]at HG;dsimp only at h7 q3 i9;have t3:=h7.t;have l4:=h7.take;have d4:=J a8;have E3:=J m8;have Hn:=J hn;have u6:=J a6;have HL:=J hL;have Hx:=J hx;have HT:=J T;have a9:=J f7;have m0:=J hd;have i1:=J q3;have A4:=J i9;have HK:=J hK;have r7:=J f4;have Hm:Kp (_/\_/\_):=⟨m1,m2,m3⟩;have x8:=J HC;have x5:=J HI;have o7:=J t3;have k6:=J l4;have h0:0<=(a:Int):=o_
 have h1:a<(c.sns.length:Int):=o_
 have D4:Kp (∀l∈n.lists,l.length<=1000000):=(λl hl=>by
  have h2:=i2.rB (l.map (fb ml pl)) r_;grind)
 have z3:Kp (n.lists.length<=4):=(by
  have h2:=i2.n4;grind)
 have Ha:=J ha;clear h a8 m8 hn a6 hL hx T f7 hd q3 i9 hK f4 m1 m2 m3 HC HI t3 l4 h7 i2 z5 E4 t8 k9 q7 p9;generalize r1:iH c w _ V _ _ _ P _ a _=Q at*;have s5:=J r1;clear r1;clear Z;go_in;go_wp2_with fail;apply HG.mono;rintro e w1⟨nd,a0,rfl,v1,r3,v3,s6,b8,f8⟩;have d5:=(ah _ w1).alloc (ae _) (.cells (aZ nd) 157);have A7:=J (aa.new w1 157 (aZ nd));have p5:=J (b8.below s4 d5);have z6:=J (f8.below d5);have v0:=J ((r3.below d5).more d5.size);have j0:=J v1;have z8:=J v3;have F0:=J s6;have B0:Kp (∀k,c.F _ V _ k\/c.R k->k<w1.heap.size):=λk hk=>hk.elim b8.fY b8.qj;have G2:=J d5;clear v1 r3 v3 s6 b8 f8 d5 HG;have ha:=Ha.o;obtain⟨b,off,eA,S8,c0,c1,c2⟩:=p5.lR.scan a ha;obtain⟨⟨b0,b1,b2,b3,b4,b5,b6,b7⟩,_⟩:=Wt.eight p5.box;rw[eA]at b3;have k3:Kp (∀W a0 V' B1 D' y3 P',c.Dy W a0 V' B1 D' pre y3 P'->Row W _ _ _):=λW _ _ _ _ _ _ hd=>(hd.lR.each _ (gM ha)).take;generalize D5:(c.sns[a]'ha)=sn at*;have E7:=e_ (w1.alloc (.cells (aZ nd) 157))
 obtain⟨h5,At,t6,ct,Ai,it,ci⟩:=sn;dsimp only at c0 c1 c2 o7 k6 k3;obtain⟨nt,q0⟩:=e_ t6.length
 obtain⟨ni,r0⟩:=e_ it.length
 rw[q0]at c1;rw[r0]at c2;have m4:=J q0;clear q0 r0 D5 Ha;have d3:=(ah _ (w1.alloc (.cells (aZ nd) 157))).alloc (ae _) (.cells #[I h5,U At nt ct,U Ai ni ci] 203);have i7:=J (aa.new (w1.alloc (.cells (aZ nd) 157)) 203 #[I h5,U At nt ct,U Ai ni ci]);have g7:=bu A7 d3;have i0:=J (p5.below s4 d3);have g9:=J (z6.below d3);have c6:=J ((v0.below d3).more d3.size);have p8:(w1.alloc (.cells (aZ nd) 157)).heap.size=w1.heap.size+1:=s_
 clear d3;obtain⟨G4,nA,ls,nc,⟨ak,ac,ag⟩⟩:=nd;dsimp only[aZ]at i7 g7 i0 g9 c6 p8⊢;go_upto_region 4 with fail
 rw[p8]at i7;clear c0 c1 c2 b0 b1 b2 b3 b4 b5 b6 b7;have f5:⟨ak,ac,ag⟩=fb ml pl n.all:=by
  rw[<-Hm.2.1,<-j0];rfl
 have f3:Kp (ls.map _=n.lists.map _):=(by
  rw[<-Hm.1,<-j0]
  rfl)
 have n3:=J f5;clear f5;generalize A1:(w1.alloc _).alloc _=w3 at*;generalize y6:w1.heap.size=gN at*;clear A1 E7 p8 y6;have y1:=J (Wn.first Hx);rcases ht:gj p with _|t
 .have x4:h5 = -1:=by rw[o7];unfold iN;rw[ht]
  subst x4;have r2:bZ fs (O.drop a) a K pre=bZ fs (O.drop (a+1)) (a+1) K pre:=by
   rw[a9,bZ,ht]
  have t7:p.g=false:=by
   unfold gj at ht;split at ht
   .grind
   .grind
  have o2:=d4.wd;rw[a9,ze,t7]at o2;have k4:mQ c fs m (O.drop (a+1)) (a+1) _ _ (aS.set a (x+1)) P:=⟨r_,d4.key,d4.yj,d4.ga,λj hj y hy=>d4.aS j o_ y r_⟩
  have l7:=J (x8 K _ _ P _ V _ D _ _ k4 HK u6 i0);rw[r7,<-n3]at l7
  have HQ:Kp (∀e w',iH c w3 a0 V kv pre (aS.set a (x+1)) P (bZ fs (O.drop (a+1)) (a+1) K pre) (a+1) (aT fs K).length e w'->e = .returned _/\Q _ _):=λe w'⟨e1,_,_,_,_,_,h1,h2,h3,h4⟩=>⟨e1,by
   rw[<-s5,r2];have h6:=length_pos_iff.2 HK;have hw:=Wn.next (Wn.first Hx) h3 h4;rw[Nat.zero_add]at hw
   exact⟨rfl,_,_,_,_,_,h1,g9.trans h2,hw.qZ o_ h6⟩⟩
  clear r2 k4 o2 ht t7;dsimp only[bH]at l7;have qD:=(aa.bK g7).1;obtain⟨d0,d1,d2,_⟩:=i7.three;go_wp2_with fail;apply l7.mono;intro e w4 h4;obtain⟨rfl,hq⟩:=HQ _ _ h4;have Hq:=J hq;clear h4 hq qD d0 d1 d2;go_wp2
  go_end0
  exact Hq
 .obtain⟨U2,l,i6,_,g8,c3⟩:=HT.nY.OX HT.bO HT.fact HT.dw E3 A4 (lU i1 ht).1;rw[Hn]at i6;injection i6 with i6
  subst i6;have H:t<ls.length:=by
   have h2:=congrArg length f3;rw[lM,lM]at h2;have:=(aO g8).1;omega
  have a4:(ls[t]'H).cs=l.map (fb ml pl):=by
   have h2:=congrArg (λz=>z[t]?) f3;rw[getElem?_map,getElem?_map,g8,gE H]at h2;grind
  have z0:h5=t:=by rw[o7];unfold iN;rw[ht]
  subst z0;have E1:t6=bL d p t:=by rw[k6];unfold nG;rw[ht]
  subst E1;have l0:bZ fs (O.drop a) a K pre=gQ fs (O.drop (a+1)) d p a t K pre (bL d p t):=by
   rw[a9,bZ,ht];rfl
  have Z:(bL d p t).Nodup:=by unfold bL;exact List.Nodup.sublist filter_sublist nodup_range
  have s3:=Ei d p t;have k8:∀y∈bL d p t,y<200:=λy hy=>by
   have h2:=uu hy;obtain⟨t1,_,_⟩:=lU i1 ht;have h3:(bE d t)=(d.ai[t]'t1).ar:=by unfold bE;rw[gE t1];rfl
   rw[h3]at h2;have:=(m0.ai t t1).n2;omega
  have HQ:Kp (∀wr B V1 E D1 q k,c.Dy _ B V1 E D1 _ q _->Mv _ w _ _->Wn a (kX _ d a t K ((bL d p t).take k)) _ q->gQ _ _ d p a t K _ _=gQ fs (O.drop (a+1)) d p a t K pre ((bL d p t).take k)->Q _ wr):=(λwr B V1 E D1 q k h1 h2 h3 h4=>by
   rw[<-s5,l0,h4]
   exact⟨rfl,B,_,E,_,q,h1,h2,h3.qZ (Cy d a t K (Z.sublist (take_sublist _ _))) (length_pos_iff.2 HK)⟩)
  have x7:=J (λks key q hk(hn:(ks++[key]).Nodup) i3=>d4.Kc (went':=q) HT.dw HL m0 i1 ht hk hn i3);have p6:=J (λW B V1 E D1 q P1(k key) y hk hy(he:y.key=key) a8 hd=>x5 (df d a t key K) pre q P1 B V1 E D1 W y d p t k key HL ht hk a8 (by rw[<-he];exact(c3.cell y hy).2.1) (by rw[<-he];exact(c3.cell y hy).2.2) hd);have c5:=J c3;have z4:=J Z;have m5:=J s3;have j1:=J k8;have u8:=D4 l (mem_of_getElem? g8);obtain⟨bn,on,eN,P3,n0⟩:=c6.row.at_ (by rw[lM];exact H);rw[getElem_map]at n0;dsimp only at eN;subst eN;unfold dq at n0;have HR:Kp (lG c w3 _ (ls[t]'H).A l.length (ls[t]'H).c (l.map (fb ml pl))):=⟨o_,by have:=F0 _ (gM H);grind,by have:=c6.each _ (gM H);grind,λk hk=>(z8 k (.inr ⟨_,gM H,r_⟩)).2⟩;have k7:(ls[t]'H).cs.length=l.length:=r_
  rw[k7]at n0;generalize(ls[t]'H).A=lA at*;generalize(ls[t]'H).c=lc at*;have k5:ls.length<=4:=by
   have h2:=congrArg length f3;rw[lM,lM]at h2;rw[h2];exact z3
  obtain⟨nl,p4⟩:=e_ l.length
  rw[p4]at n0 HR u8;have H5:nt<=1000000:=by
   rw[<-m4];have:=EL (d:=d) (p:=p) (t:=t);obtain⟨t1,_,_⟩:=lU i1 ht;have h3:(bE d t)=(d.ai[t]'t1).ar:=by unfold bE;rw[gE t1];rfl
   rw[h3]at this;have:=(m0.ai t t1).n2;omega
  obtain⟨lx,u3⟩:=e_ ls.length
  rw[u3]at g7 H k5⊢;clear c3 Z s3 k8 l0 ht p4 a4 k7 u3 g8 k5;have u0:0<=(t:Int):=o_
  have u1:t<(lx:Int):=o_
  have u2:decide ((t:Int)<0)=false:=o_;have qD:=(aa.bK g7).1;obtain⟨d0,d1,d2,_⟩:=i7.three;go_wp2;clear qD d0 d1 d2
  go_loopw [9,49] (λv9 p0 wr=>∃(k j nj:Nat)(A9:OA)(c9:Nat)(B V1:Nat->Prop)(E:Value)(D1:DataW Value)(q:LN),k<=nt/\p0 = N k/\v9 = U A9 nj c9/\lG c wr (c.F B V1 E) A9 nj c9 ((l.drop j).map (fb ml pl))/\(∀y∈l.take j,∀z∈(bL d p t).drop k,y.key<z)/\c.Dy wr B V1 E D1 pre q (P++gQ fs (O.drop (a+1)) d p a t K pre ((bL d p t).take k))/\Mv (c.F Fs V kv) w wr (c.F B V1 E)/\Wn a (kX fs d a t K ((bL d p t).take k)) aS q) (λ_ p0 _=>nt-(intOf p0).toNat)
  case atStart=>exact⟨0,0,_,_,_,_,V,_,D,_,o_,rfl,rfl,HR,λy hy=>r_,(by rw[take_zero];show c.Dy w3 a0 V kv D pre (aS.set a (x+1)) (P++[]);rw[append_nil];exact i0),g9,y1⟩
  .obtain⟨k,j,nj,A9,c9,B,V1,E,D1,q,hk,rfl,rfl,Y,f1,b8,f8,i3⟩:=hrel;obtain⟨wo,rfl⟩:∃wo,wo=wr:=⟨_,rfl⟩
   have f:=J Y;have m6:=J f1;have d6:=J b8;have i4:=J f8;have g0:=J i3;clear Y f1 b8 f8 i3 HR i0 g9 c6;by_cases x6:k<nt
   .have X:k<(bL d p t).length:=by rw[m4];omega
    obtain⟨bt,ot,rfl,O2,t0⟩:=(k3 _ _ _ _ _ _ _ d6).at_ (by unfold an;rw[lM];omega);have hy:(an _)[k]'(by unfold an;rw[lM];omega) = I ((bL d p t)[k]'X:Nat):=by unfold an;simp
    rw[hy]at t0;obtain⟨key,a5⟩:=e_ ((bL d p t)[k]'X)
    have g4:=kp (show(bL d p t)[k]? = some key from r_);have h9:=kp (show(bL d p t).drop k=key::(bL d p t).drop (k+1)from by rw[drop_eq_getElem_cons X,a5]);have g3:=kp (show(bL d p t).take _=(bL d p t).take k++[key]from by rw[take_succ_eq_append_getElem X,a5]);have n9:=j1 _ (mem_of_getElem? g4);rw[a5]at t0;clear hy a5;have k0:0<=(k:Int):=o_
    have k1:k<(nt:Int):=o_
    go_wp2
    go_loopw [9] (λv9 wq=>∃(j nj:Nat)(A9:OA)(c9:Nat),v9 = .slice A9 nj c9/\lG c wq (c.F B V1 E) A9 nj c9 ((l.drop j).map (fb ml pl))/\(∀y∈l.take j,y.key<key)/\wo=wq) (λv9 _=>(match v9 with| .slice _ n _=>n|_=>0))
    case atStart=>exact⟨j,_,_,_,rfl,f,λy hy=>m6 y hy _ (by rw[h9];simp),rfl⟩
    .clear f t0 ;obtain⟨j2,M,A2,g5,rfl,Y,c4,rfl⟩:=hrel;have f:=J Y;have L:=J c4;clear Y c4;obtain⟨_,_,_,_,_,_,_,b7⟩:=(Wt.eight d6.box).1;rcases hr:l.drop j2 with _|⟨y,r⟩
     .have y9:M=0:=by have:=f.len;rw[hr]at this;exact this.symm
      subst y9;have a6:l.take j2=l:=by have h2:=take_append_drop j2 l;rw[hr,append_nil]at h2;omega
      have Hq:=J (HQ _ _ _ _ _ _ k d6 i4 g0 (O8 _ p _ c5 _ k (λz G=>j1 z (mem_of_mem_drop G)) (λy hy z G=>by
       rw[<-a6]at hy;have h1:=L y hy;rw[h9]at G;obtain rfl|G:=mem_cons.1 G
       .omega
       .have h4:=m5.o;rw[<-take_append_drop k (bL d p t),h9,pairwise_append]at h4;have:=(pairwise_cons.1 h4.2.1).1 z G
        omega)))
      clear a6 hr;go_wp2
      go_end0
      exact Hq
     .have q5:y∈l:=by have h2:=take_append_drop j2 l;rw[hr]at h2;rw[<-h2];simp
      have a1:=f.len;have n8:=f.cap;have f2:j2<l.length:=by
       obtain h2|h2:=Nat.lt_or_ge j2 l.length
       .omega
       .rw[drop_eq_nil_of_le h2]at hr;cases hr
      have t4:l.drop (j2+1)=r:=by rw[drop_eq_getElem_cons f2]at hr;injection hr
      have v4:l[j2]'f2=y:=by rw[drop_eq_getElem_cons f2]at hr;injection hr
      have q9:l.take (j2+1)=l.take j2++[y]:=by rw[take_succ_eq_append_getElem f2,v4]
      rw[hr,map_cons]at a1;rw[length_cons]at a1;have h8:Kp _:=(by have h2:=f.o;rw[hr,map_cons]at h2;exact h2);obtain⟨bo,oo,rfl,T8,e0⟩:=h8.row.at_ (k:=0) (by rw[flatMap_cons,aE,mr];omega)
      have u:Kp (∀i v,(ch _)[i]? = some v->C _ _ _ v):=(λi v hv=>by
       obtain h|⟨b',o',e,_,hc⟩:=h8.row
       .simp at h
       .injection e with e
        injection e with e1 e2 _
        subst e1 e2
        exact hc i v (by rw[flatMap_cons,getElem?_append_left (aO hv).1];omega))
      have p7:=J h8.tail;have t5:(fb ml pl y).key=y.key:=La _ _ _;have y8:=J q5;have A6:=J t4;have A5:=J q9;have D6:=J hr;have r6:0<(M:Int):=o_
      have H4:((M:Int) == 0)=false:=o_
      have u4:=J (λW P1 a8 he hd=>p6 W B V1 E D1 q P1 k _ y g4 q5 he a8 hd);rw[r7]at u4;have v7:=J (PQ bo oo M _ o_ n8);clear hr q5 t4 q9 v4 f2 a1 e0 h8;generalize r4:fb _ _ y=xx at*;obtain⟨xk,xc,⟨T7,T1,R3,K3,T0,S1,T4,L1,T6,S6⟩⟩:=xx;dsimp only at t5;subst t5;have e0:=u 0 _ rfl;have e1:=u 1 _ rfl;have e2:=u 2 _ rfl;have e3:=u 3 _ rfl;have e4:=u 4 _ rfl;have e5:=u 5 _ rfl;have e6:=u 6 _ rfl;have e7:=u 7 _ rfl;have e8:=u 8 _ rfl;have e9:=u 9 _ rfl;have n6:=u 10 _ rfl;have q1:=u 11 _ rfl;rw[Nat.add_zero]at e0;have S0:=J r4;clear r4;by_cases a4:y.key<key
      .have F6:=v7 wo;clear e1 e2 e3 e4 e5 e6 e7 e8 e9 n6 q1 b7;have u5:M-1<M:=o_
       go_wp2;refine⟨⟨_,_,_,_,rfl,by rw[A6];exact p7,λz G=> ?_,trivial⟩,u5⟩;rw[A5]at G;obtain G|G:=mem_append.1 G
       .exact L z G
       .rw[mem_singleton.1 G];omega
      .have r9:decide ((y.key:Nat)<(key:Int))=false:=o_;have H3:=decide_eq_false a4
       have f6:Kp (∀z∈l.take _,∀z'∈(bL d p t).drop _,z.key<z'):=(λz G z' B6=>by
        have h1:=L z G;have h4:=m5.o;rw[<-take_append_drop k (bL d p t),h9,pairwise_append]at h4;have:=(pairwise_cons.1 h4.2.1).1 _ B6
        omega)
       have h6:k+1<=nt:=o_
       have H1:nt-(k+1)<nt-k:=o_
       by_cases f0:y.key=key
       .have t9:((y.key:Nat) == (key:Int))=true:=o_
        have y5:=J f0;have Hq:=J (u4 _ _ (x7 _ _ q (mem_of_getElem? g4) (by rw[<-g3];exact z4.sublist (take_sublist _ _)) g0) y5 d6);have D7:Kp (aT _ _≠[]):=(by have:=(c5.cell y y8).2.1;rw[f0]at this;exact this);clear f0;dsimp only[bH]at Hq;go_wp2_with fail;apply Hq.mono;rintro e w6⟨rfl,i8,V2,i5,D2,q6,s8,m9,s7,v2⟩;have B2:=J (f.mv m9)
        have n5:Kp (c.Dy _ _ _ _ _ _ _ (P++gQ _ _ d p a t K _ ((bL d p t).take _))):=(by
         rw[g3,DG,O6 _ _ _ D7,<-append_assoc]
         exact s8)
        have y0:=J (i4.trans m9)
        have o4:Kp (Wn a (kX _ d a t K ((bL d p t).take _)) _ _):=(by
         rw[g3,xR]
         exact Wn.next g0 s7 v2)
        clear s8 m9 s7 v2 e0 e1 e2 e3 e4 e5 e6 e7 e8 e9 n6 q1 b7;go_wp2;exact⟨⟨_,_,M,_,_,_,_,_,_,_,h6,o_,rfl,B2,f6,n5,y0,o4⟩,o_⟩
       .have t9:((y.key:Nat) == (key:Int))=false:=o_
        have z2:Kp _:=(O5 (O.drop (a+1)) p pre c5 n9 λz G z1=>by
         have h3:=c5.ja;rw[<-take_append_drop j2 l]at G h3;rw[D6]at G h3;obtain G|G:=mem_append.1 G
         .have:=L z G;omega
         .obtain rfl|G:=mem_cons.1 G
          .omega
          .have:=(pairwise_cons.1 (pairwise_append.1 h3).2.1).1 z G
           omega)
        have n5:Kp (c.Dy _ B _ E _ _ q (P++gQ _ _ d p a t K _ ((bL d p t).take _))):=(by
         rw[g3,DG,z2,append_nil]
         omega)
        have o4:Kp (Wn a (kX fs d a t K ((bL d p t).take _)) _ q):=(by
         rw[g3,xR]
         exact g0.same o_)
        clear f0 e1 e2 e3 e4 e5 e6 e7 e8 e9 n6 q1;go_wp2;exact⟨⟨_,_,M,_,_,B,_,E,_,q,h6,o_,rfl,f,f6,n5,i4,o4⟩,o_⟩
   .obtain rfl:k=nt:=o_
    have Hq:=J (HQ _ _ _ _ _ _ k d6 i4 g0 (by rw[take_of_length_le (by rw[m4];omega)]));go_wp2
    go_end0
    exact Hq
end Tc
end Go.Proofs.YtibjlpkpljnicaaGreatDoor
