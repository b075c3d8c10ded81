/- Parts. -/
import Derived.Test.YtibjlpkpljnicaaGreatDoorR19
import Derived.Test.YtibjlpkpljnicaaGreatDoorR20
import Derived.LoopN
set_option maxRecDepth 100000
set_option maxHeartbeats 8000000
set_option linter.all false
namespace Go.Proofs.YtibjlpkpljnicaaGreatDoor
namespace Tc
open List Go.RowKit Base Go.Proofs.Tryz
def BH:(prog.info? 5).map (λi=>(i.zero,i.size,i.bytes))=some (some (.int .u8 0),1,1):=k_
def gL(at_:Nat)(part:LN):List UInt8:=UInt8.ofNat at_::part.flatMap λi=>[UInt8.ofNat (i / 256),UInt8.ofNat i]
def mS(l:List UInt8):LV:=l.map λb=> .int .u8 (b.toNat:Int)
def Ld{at_}{part:LN}{k}(hk:k<part.length):gL at_ (part.take (k+1))=gL at_ (part.take k)++[UInt8.ofNat (part[k] / 256),UInt8.ofNat part[k]]:=by
 unfold gL;rw[take_succ_eq_append_getElem hk,flatMap_append];rfl
def CD at_ part:(gL at_ part).length=1+part.length*2:=by
 unfold gL;rw[length_cons];have:(part.flatMap λi=>[UInt8.ofNat (i / 256),UInt8.ofNat i]).length=part.length*2:=by
  induction part with
  |nil=>rfl
  |cons a l b=>grind
 omega
def mo i:(((UInt8.ofNat i).toNat:Nat):Int)=(i:Int) % 256:=by
 rfl
def GH l i j:mS (l++[UInt8.ofNat i,UInt8.ofNat j])=mS l++[.int .u8 ((i:Int) % 256),.int .u8 ((j:Int) % 256)]:=by
 unfold mS;simp
def GI i:mS [UInt8.ofNat i]=[.int .u8 ((i:Int) % 256)]:=by
 rfl
def Le A c at_ part w(hr:Row w w.heap.size A (an part))(hn:part.length<=100000)(a9:at_<=1000000)(hp:∀i∈part,i<=1000000) :
 Calls Tryz.prog 145 #[.int .i64 (at_:Nat),.slice A part.length c] w λe w'=>e = .returned (.string ⟨(gL at_ part).toArray⟩)/\Below w.heap.size w w':=by
 obtain⟨V,C,E,G,D⟩:=info_parts BH;have N:=kp (λk=>CD at_ (part.take k));generalize u:(λ(e:Ending) w'=>e = .returned _/\Below _ w _)=Q;have HQ:=kp (show∀w',Below w.heap.size w w'->Q (.returned (.string ⟨(gL at_ part).toArray⟩)) w' fromλw' J=>r_);clear u;obtain⟨n,O⟩:∃n,part.length=n:=⟨_,rfl⟩;rw[O]at hn⊢;have u:IntKind.i64.wrap _=2*n:=IntWalk.i64_in _ o_;have u:IntKind.i64.wrap _=2*n+1:=IntWalk.i64_in _ o_;go_enter Tryz.func145,Tryz.ntmps145;go_wp2_with(first
  |(at_make;refine wpList_make_own _ rfl _ _ _ rfl _ 5 V _ 1 Tryz.underlying148 C E G _ _ _ (2*n+1) rfl rfl o_ r_ (by unfold maxLen;omega) (ae _) ?_;intro u s B;have p:=kp s;have v:=kp B;clear s B)
  |(at_builtin;refine iP rfl _ _ _ rfl _ 5 V _ 1 Tryz.underlying148 C E G D rfl u _ rfl (.slice _ 0 _) 0 _ rfl p rfl o_ d_ v.o.size ?_;intro z u d f;obtain⟨y,u,Y⟩:=bY d;subst Y;have F:=kp d;have U:=kp (f.below ((bR.grown v o_ (λk hk=>r_))) p o_ v.o.size);clear d f))
 go_loopw [5,20] (λz H wr=>∃(k:Nat)(M:OA)(L:Nat),k<=n/\H = .int .i64 k/\z = .slice M (1+k*2) L/\wr.ownsRow w.heap.size 5 1 (.slice M (1+k*2) L) (1+k*2) (mS (gL at_ (part.take k)))/\Below w.heap.size w wr) (λ_ H _=>n-(intOf H).toNat)
 case atStart=>exact⟨0,y,u,o_,rfl,rfl,by have:=F.o;unfold gL;rw[take_zero,flatMap_nil,GI];exact this,U⟩
 case round=>
  obtain⟨k,M,L,hk,rfl,rfl,m,q⟩:=hrel;have r:=kp m;clear m;by_cases u:k<n
  .have y:k<part.length:=o_
   obtain⟨b,off,u,J,c0⟩:=Row.at_ ((hr.below q).more q.size) (by rw[ia];omega);unfold an at c0;rw[getElem_map]at c0;subst u;have W:=kp (Ld (at_:=at_) y);generalize(part[k]'y)=x at*;have u:0<=(k:Int):=o_
   have u:k<(n:Int):=o_
   have R:=kp q.size;have Z:1+k*2+2<1048576*64:=o_
   go_wp2_with(at_builtin;refine nL rfl _ _ _ rfl _ 5 V _ 1 1 Tryz.underlying148 C E G D rfl d_ _ (.slice M _ L) _ _ rfl (r.o.alloc _) _ 2 2 _ [.int _ _,.int _ _] rfl rfl (uj _ _ 5) (by intro u u;simp at u;rcases u with rfl|rfl<;>rfl) Z d_ (by simp;have:=R.o;omega) ?_;intro z u d f;obtain⟨y,u,Y⟩:=bY d;subst Y;have I:=kp d;have X:=kp ((zX f).below q r o_ R);clear d f);refine⟨⟨k+1,y,u,o_,o_,?_,?_,X⟩,o_⟩
   .grind
   .rw[W,GH,show 1+(k+1)*2=1+k*2+2 by omega];have:=I.o;grind
  .obtain rfl:k=n:=o_
   have z:=N k;rw[take_of_length_le o_]at z;have m:=r.o;rw[take_of_length_le o_]at m;rw[O]at z;have D:=kp (HQ _ q);obtain⟨g,cap,cur,E,y,G,O,u,U,ht⟩:∃g cap cur,Value.slice M _ L = .slice _ _ _/\w.heap.size<=g/\wr.heap[g]? = some _/\_/\_/\_/\_:=by
    obtain⟨_,h0⟩|h:=m.2
    .omega
    . omega
   injection E with E _ T;subst E T;have J:=run_convert_bytes_back _ 148 9 5 _ L _ Tryz.underlying148 Tryz.underlying5 Tryz.underlying9 (λj E=>by
    have:=m.cells (g:=g) rfl j (.int .u8 (((gL at_ part)[j]).toNat)) (by unfold mS;grind);omega)
   rw[z]at J;clear m z y G O u U ht;go_wp2;exact D
section
attribute [local go_sem] Oper.semAt_some
def Ie(nn:Nat)(hn:1<=nn)(u f b off n cap size:Nat)(a0:1<=size)(c7:size<=1000000)(c4:n<=1000000)(d1:n<=cap)(c8:cap<=9223372036854775807)(w:World)(a5:u<w.heap.size)(b0:f<w.heap.size)
 (A:OA)(hA:n=0\/A=some ⟨b,off,none⟩)(a4:C w u 0 (U A n cap))(b1:C w f 0 (I size)) :
 SeqStopsK Fence.wide nn prog 265 #[Y u 0,Y f 0] (λx:Part n size=>#[iy b off 1 n size x.1]) (jN u f) (λxs=>xs.map (·.1)=range xs.length/\n<=xs.length*size) (λ_=>True) (n+1) w:=by
 intro l J Jx W hW a6 _ hY h0;have a8:=kp a6;have HY:=kp hY;have O:=(hW.cell (p:=(M u 0)) a5).trans a4;have m:=(hW.cell (p:=(M f 0)) b0).trans b1;refine callsIn_of_wp func265 rfl trivial ?_ rfl;simp only[ntmps265,size_toArray,length_cons,length_nil,Array.replicate_succ,Array.replicate_zero,push_toArray,append_toArray,nil_append,cons_append];gi_wp2;gi_loopw [4] (λi wr=>∃(k q:Nat)(pre:List (Part n size)),q=k*size/\pre.length=k/\pre.map (·.1)=range k/\k<=n/\i = I (q:Int)/\q<=n+size/\J pre wr/\jN u f W wr)
  (λi _=>n+size-(intOf i).toNat)
 case atStart=>exact⟨0,0,_,s_,rfl,rfl,o_,rfl,o_,h0,rfl,rfl⟩
 .obtain⟨k,q,pre,hq,R,N,hk,rfl,c3,L,v⟩:=hrel;have c1:C _ u 0 _:=(bF v.1).trans O;have c2:C _ f 0 _:=(bF v.2).trans m;obtain⟨H,s,B,V,HJ⟩:=j5_ hq R N v L;clear hq R N v L;by_cases a7:q<n
  .obtain rfl:=hA.resolve_left o_;obtain⟨r,hr⟩:=e_ (n-q);have d7:¬cap=q:=o_;have b8:1<=r:=o_;have c9:q+r=n:=o_;have E:k*size<n:=by rw[<-H];omega
   have Z:=kp (a8 _ _ wr.drew none HJ ⟨rfl,rfl,rfl,o_,λ_ _ _=>rfl⟩ (λr e=>r_));have y:=kp (HY _ ⟨k,E⟩ _ Z (by rw[s];omega));have b6:k+1<=n:=by
    have h1:=Nat.mul_le_mul_left k a0;omega
   by_cases hm:r<size
   .have hx:iy b off 1 n size k = U (some ⟨b,off+q,none⟩) r r:=by
     unfold iy;rw[<-H,Nat.mul_one,hr,Nat.min_eq_right o_]
    have c:=y.o;dsimp only at c;rw[hx]at c;obtain⟨fn,tmps,z,body,hy,T⟩:=c;have HR:=kp T;clear hx y T;have a3:IntKind.i64.wrap _=q+r:=IntWalk.i64_in _ o_;gi_wp2;gi_region;gi_wp2;apply HR.mono;rintro e X(⟨rfl,G,D⟩|⟨rfl,d⟩)
    .have a1:=kp G;have g:=kp (V.trans (D));have d2:C X f 0 _:=(bF g.2).trans m;gi_wp2;go_roundw
     case rel=>exact⟨k+1,_,_,by rw[Nat.add_mul,Nat.one_mul,<-H],by rw[aE,s];rfl,by rw[map_append,B,range_succ];rfl,o_,s_,o_,a1,g⟩
     case measure=>simp[intOf];omega
    .have F:=kp d;clear d;gi_wp2;apply bodyPost_ret (results_none rfl _ _ _) rfl;exact⟨⟨_,rfl⟩,.inr ⟨_,trivial,F⟩⟩
   .have hx:iy b off 1 n size k = U (some ⟨b,off+q,none⟩) size size:=by
     unfold iy;rw[<-H,Nat.mul_one,hr,Nat.min_eq_left o_]
    have c:=y.o;dsimp only at c;rw[hx]at c;obtain⟨fn,tmps,z,body,hy,T⟩:=c;have HR:=kp T;clear hx y T;have a3:IntKind.i64.wrap _=q+size:=IntWalk.i64_in _ o_;gi_wp2;gi_region;gi_wp2;apply HR.mono;rintro e X(⟨rfl,G,D⟩|⟨rfl,d⟩)
    .have g:=kp (V.trans (D));have d2:C X f 0 _:=(bF g.2).trans m;gi_wp2;go_roundw
     case rel=>exact⟨k+1,_,_,by rw[Nat.add_mul,Nat.one_mul,<-H],by rw[aE,s];rfl,by rw[map_append,B,range_succ];rfl,o_,s_,o_,G,g⟩
     case measure=>simp[intOf];omega
    .have F:=kp d;gi_wp2;apply bodyPost_ret (results_none rfl _ _ _) rfl;grind
  .have Hl:=kp (show n<=pre.length*size by rw[s,<-H];omega);gi_wp2;go_end0;exact⟨⟨_,rfl⟩,.inl ⟨_,⟨by rw[B,s],Hl⟩,HJ⟩⟩
def Ic(A:OA)(n c size:Nat)(b:1<=size)(w:World):Calls prog 200 #[U A n c,I size] w λe w'=>e = .returned (.func (.func 265) #[] #[Y w.heap.size 0,Y (w.heap.size+1) 0])/\w'=(w.alloc (.cells #[U A n c] 236)).alloc (.cells #[I size] 3):=by
 have h1:¬(size:Int)<1:=o_;go_in;go_wp2;go_ret;simp
end
section
attribute [local go_sem] Oper.semAt_some
def mF(rs:List Rn)(size i:Nat):List Rn:=(rs.drop (i*size)).take size
def zy(rs:List Rn)(size n0 B c:Nat)(d:World)(pre:List (Part rs.length size))(W:World):Prop:=
 (∃(v:Value)(out:List Rn),Boxed W B 236 v/\W.ownsRow c 34 1 v out.length (out.map fy)/\(∀r∈out,fJ W v r/\∀b,cz r.A r.fs b->c<=b)/\(out.length=pre.length/\∀i(h:i<out.length),cZ (out[i]'h).fs/\∀j,pre[i]?.map (·.1)=some j->(aw (out[i]'h).fs).Perm (de (mF rs size j)))/\c<=W.heap.size)/\Below n0 d W
def N9 rs size n0 B u D s(A:n0<=s.heap.size)(x:n0<=D):OwnFrom D (zy rs size n0 B u s):=by
 refine OwnFrom.and (Own.from (λpre W F row z c e=> ?_) _) (ownFrom_below A x);obtain⟨v,out,h1,h2,m,E,C⟩:=z;refine⟨v,_,h1.kept c (λq=> ?_),h2.kept c ?_,λr b=>⟨⟨?_,(m r b).1.2⟩,(m r b).2⟩,E,aF C c.size⟩
 .obtain⟨o,d,p⟩:=e B q.symm;rw[h1]at d;cases d;cases p
 .obtain⟨rfl,_⟩|⟨g,cap,cur,rfl,_,n,_⟩:=h2.2
  .exact .inl rfl
  .refine .inr λq=> ?_;obtain⟨o,d,p⟩:=e g (by simpa[Value.ownBlock]using q.symm);rw[n]at d;cases d;cases p
 .exact bM.more ⟨oJ (m r b).1.1.row c e,λf y=>oJ ((m r b).1.1.keys f y) c e⟩ c.size
def iU.sub{w B b off rs}(h:iU w B (some ⟨b,off,none⟩) rs) i e:iU w B (some ⟨b,off+i,none⟩) ((rs.drop i).take e):=by
 refine⟨?_,λr m=>h.each r (mem_of_mem_drop (mem_of_mem_take m))⟩;obtain h0|⟨s,f,d,q,p⟩:=h.row
 .have:rs=[]:=by simpa using h0
  subst this;exact .inl s_
 .injection d with d;injection d with n g _;subst n g;refine .inr ⟨b,_,rfl,q,λj v c=> ?_⟩;rw[List.map_take,map_drop,getElem?_take]at c;grind
def iU.below{w w' B A rs}(h:iU w B A rs)(b:Below B w w'):iU w' B A rs:=⟨h.row.below b,λr c=>(h.each r c).below b⟩
def iU.more{w B b A rs}(h:iU w B A rs)(c:B<=b):iU w b A rs:=⟨h.row.more c,λr d=>(h.each r d).more c⟩
def js(ps:List (LN×Ag))(w:World)(e:Ending)(w':World):Prop:=∃(v:Value)(n:Int)(l:List Fa),e = .returned (.tuple #[v,I n,I 0])/\(l.map pl).Perm ps/\cZ l/\bj w' w.heap.size v l/\eC w.heap.size l/\E w w'
def js.mk{ps w v n b w'}(h1:(b.map pl).Perm ps)(h2:cZ b)(c:bj w' w.heap.size v b)(d:eC w.heap.size b)(e:E w w'):js ps w (.returned (.tuple #[v,I n,I 0])) w':=⟨v,n,b,rfl,h1,h2,c,d,e⟩
def Nb A rs(c d:Nat) w(q:2<=d)(R:d<=1000000)(h1:rs.length<=1)(F:iU w w.heap.size A rs)(H:∀r∈rs,qM r) :
 Calls prog 133 #[I d,U A rs.length c] w (js (de rs) w):=by
 have L:=J pH;have x:¬(d:Int)<2:=o_;obtain _|⟨r,_|⟨T,rs⟩⟩:=rs
 .have y:Kp (∀n:Int,js (de []) w (.returned (.tuple #[Z,I n,I 0])) w):=λn=>js.mk o_ List.Pairwise.nil ⟨cK _ _ _ _,λf q=>r_⟩ (λf q=>r_) bR;generalize N:js _ w=Q at*;rw[show([]).length=0 from rfl];go_in;go_wp2;apply wp_loop_rounds 1;rw[rounds_succ];go_wp2;refine bodyPost_ret (by simp[results,go_sem]) rfl (y 0)
 .have p:=F.row;have B:=F.each r s_;have g:=H r s_;obtain⟨b,off,O,V,c0⟩:=Row.at_ p (k:=0) s_;have c1:C w b off (U _ _ _):=c0;subst O;have s:=J (L _ _ r.c w (aF g.len o_) g.keys B);have y:Kp (∀ n v m w',m.map pl=r.fs.map _->bj _ _ v m->eC _ m->E w _->js (de [r]) w (.returned (.tuple #[v,I n,I 0])) w'):=λn v m w' h1 h2 u z=>js.mk (by rw[h1];simp[de,aw]) (yQ h1 g.sorted) h2 u z;generalize N:js _ w=Q at*;rw[show [r].length=1 from rfl];go_in;go_wp2;apply wp_loop_rounds 1;rw[rounds_succ];go_wp2_with fail;apply s.mono;rintro e M⟨v,m,rfl,h1,h2,u,z⟩;have D:=J (λn=>y n v m M h1 h2 u z);go_wp2;refine bodyPost_ret (by simp[results,go_sem]) rfl (D 0)
 .grind
def Nc A rs(c d:Nat) w(hf:2<=d)(k0:d<=1000000)(h2:rs.length=2)(i7:rs.length<=c)(i9:c<=9223372036854775807)(z:iU w w.heap.size A rs)(X:∀r∈rs,qM r) :
 Calls prog 133 #[I d,U A rs.length c] w (js (de rs) w):=by
 have HC:=J pH;have i6:=J KY;have i2:=J Ic;have Hr:=J z;obtain⟨i0,i3,l4,m0,i5⟩:=info_parts BI;have k8:¬(d:Int)<2:=o_
 obtain⟨b,off,hA⟩:∃b off,A=some ⟨b,off,none⟩:=by
  obtain⟨b,off,hA,_⟩:=Row.at_ z.row (k:=0) (by rw[lM];omega);grind
 subst hA;have g0:=J (Ef o_ (λr z=>(X r z).len));clear z;have HQ:Kp (∀v n l' w',(l'.map pl).Perm (de rs)->cZ _->bj _ _ v _->eC _ l'->E w _->js _ w (.returned (.tuple #[v,I n,I 0])) w'):=λv n l' w' h1 h2 h3 h4 hb=>js.mk h1 h2 h3 h4 hb;generalize hQ:js _ w=Q at*;clear hQ;obtain⟨m,hm⟩:=e_ rs.length
 have Hm:=J hm;have d3:=J h2;have q0:1<m:=o_
 have p8:m<=2:=o_
 rw[hm]at i7⊢;clear h2 hm;apply(callsIn_wide (n:=9)).1;refine callsIn_of_wp_marks func133 rfl trivial ?_ rfl;simp only[ntmps133,size_toArray,length_cons,length_nil,Array.replicate_succ,Array.replicate_zero,push_toArray,append_toArray,nil_append,cons_append]
 gi_wp2
 apply wpIn_loop_rounds 2;rw[roundsIn_succ]
 gi_wp2_with (refine⟨trivial,?_⟩;gi_at_call 200;refine(callsIn_wide.2 (i2 _ m c d o_ _)).mono ?_;rintro e w'⟨rfl,rfl⟩)
 obtain⟨W0,R⟩:=e_ (((w.alloc (.cells #[.slice none 0 0] 236)).alloc (.cells #[.slice (some ⟨b,off,none⟩) m c] 236)).alloc (.cells #[.int .i64 d] 3))
 have p3:W0.heap.size=w.heap.size+3:=by rw[<-R];simp
 have j1:E w W0:=by rw[<-R];exact((bR.alloc o_ _).alloc s_ _).alloc o_ _
 have k7:Boxed W0 w.heap.size 236 Z:=by rw[<-R];exact((Boxed.new w _ _).alloc _).alloc _
 have k1:aa W0 (w.heap.size+1) 236 #[U (some ⟨b,off,none⟩) m c]:=by
  rw[<-R];exact aa.alloc (aa.lay s_) _
 have l0:aa W0 (w.heap.size+1+1) 3 #[I d]:=by
  rw[<-R];exact aa.lay s_
 rw[R];clear R;have b6:=Ie 8 o_ (w.heap.size+1) _ b _ rs.length c d o_ k0 (by have:=Hm.o;omega) (by have:=Hm.o;omega) i9 _ o_ o_ _ (.inr rfl) (by rw[Hm];exact k1.one.1) l0.one.1;refine wpIn_rangeFunc_ownF rfl o_ rfl trivial (enters_of func265 k_ rfl)
  b6 (λh k=>h.trans k) (BX o_ o_) bR (λ_=>rfl)
  _ (λ_ _ _=>False) (N9 _ d _ _ (w.heap.size+3) _ w o_ o_) (λ_ _ _ _ _ hs _ _=>hs)
  ⟨⟨Z,[],k7,cK _ _ _ _,(λr z=>r_),⟨rfl,λi h=>r_⟩,o_⟩,j1⟩
  (λx=>{ tmps:=#[I d,U (some ⟨b,off,none⟩) m c,undef,undef,Z,I 0,I 0,I 0,Y w.heap.size 0,iy b off 1 rs.length d x.1,I d,.bool false,U (some ⟨b,off,none⟩) m c,I m,.bool true,undef,undef,U (some ⟨b,off,none⟩) m c,I d,.func (.func 265) #[] #[Y (w.heap.size+1) 0,Y (w.heap.size+1+1) 0],iy b off 1 rs.length d x.1,undef,undef,undef,undef,undef,undef,undef,undef,undef,undef,undef,undef,undef,undef,undef],defers:=[] }) ?assign ?body ?done ?stop
 .intro lp x W K hK
  gi_wp2
  omega
 .rintro lp pre x W⟨⟨v,out,O,u,a2,b9,b5⟩,H⟩ f3;obtain⟨i,hi⟩:=x;have f4:=((Hr.below H).more H.size).sub (i*d) d;have g6:iy b off 1 rs.length d i = U (some ⟨b,off+i*d,none⟩) (mF rs d i).length (mF rs d i).length:=by
   unfold iy mF;simp
  have d7:=J (λW'(hb:E W _)=>i6 _ (mF _ d i) (mF rs d i).length W' (by unfold mF;rw[length_take,length_drop];have:=Hm.o;omega) ((f4.below hb).more hb.size) (λr z=>(J X) r (mem_of_mem_drop (mem_of_mem_take z))));have a1:=J b9;have f5:=J H;obtain⟨Av,cv,rfl⟩:=bY u;have c0:=O.cell;have f0:=O.frozen;dsimp only;rw[g6];clear b9 H f4 g6;have a8:=(J O).lt
  gi_wp2
  refine Fo (t:=5) (S:=(λw'=>C w' _ 0 (U _ _ _)/\w'.frozen? (M _ 0)=false)) k_ k_ ⟨c0,f0⟩ (λq=> ?_);apply tB 0 1 q;refine oT 2 λK hK=>?_
  go_simp
  apply(d7 _ bR.drew).mono;rintro e w2⟨v2,l2,rfl,e5,f2,L,c7,h7⟩;obtain⟨A2,c2,rfl⟩:=L.form;have F:Kp (E W _):=bR.drew.trans h7;clear h7;refine oK hK ?_ λs=>?_
  .exact⟨al F c0,by rw[iJ F _ _ a8];omega⟩
  replace q:=s;clear hK K s;have a0:=bh a8 F.size;have a7:=J (bS (J u) F);have f8:=J (λr z=>((J a2) r z).1.below F);have g9:Kp (fJ _ (U _ _ _) _):=fJ.new (J L) (J c7) (λj hj=>((J u).lt j hj).2);have e9:=J (f5.trans (F.mono o_));have V:Kp (∀j,j<w.heap.size+3->(Value.slice _ _ _).ownBlock≠some j):=(λj hj hh=>by have:=((J u).lt j hh).1;omega);have e7:Kp _:=aF b5 F.size;have m4:=kp (show out.length<1048576*64 from by have:=f3;have:=a1.1;have:=Hm.o;omega);refine oT 3 λK hK=>?_
  go_simp
  refine oK hK ?_ λs=>?_
  .exact⟨al (bR.alloc o_ _) q.1,by rw[iJ (bR.alloc o_ _) _ _ a0];exact q.2⟩
  replace q:=s;clear hK K s;refine oT 4 λK hK=>?_
  apply jq rfl _ _ _ rfl _ 34 _ _ _ underlying236 i3 l4 m0 i5 rfl _ _ rfl (U _ _ _) _ _ rfl a7 rfl m4 d_ e7;intro v5 w5 N a9;obtain⟨A5,c5,h5⟩:=bY N;subst h5;have G:=J a9;clear a9
  go_simp
  refine oK hK ?_ λs=>?_
  .have e1:=(G.bI a0 (V _ o_))
   have e2:=(Below.heap_alloc _ (.cells #[U A2 l2.length c2] 34) _ a0)
   exact⟨(bF (e1.trans e2.symm)).trans q.1,by have h:=q.2;unfold World.frozen? at h⊢;grind⟩
  replace q:=s;clear hK K s;refine fC (o:= ?op5) k_ ?ap5 k_ (λK hK=> ?bp5)
  case ap5=>rfl
  obtain⟨j0,n8⟩:=q
  go_simp
  apply hK.out _ _;clear hK K;apply kR.normal
  have f1:Kp (Boxed (w5.setCell (M _ 0) (U A5 (out.length+1) c5)) _ _ _):=Boxed.set _ ((G.bI a0 (V _ o_)).trans ((F.block _ a8).trans (J O)));have k9:=J (grownBy_setCell' w5 w.heap.size (U A5 (out.length+1) c5));have b2:Kp (∀k,k<W.heap.size->k≠w.heap.size->(Value.slice _ _ _).ownBlock≠some k->(w5.setCell _ (U A5 (out.length+1) c5)).heap[k]? = W.heap[k]?):=λk hk h1 h2=>(Below.heap_setCell _ (M w.heap.size 0) _ k h1).trans ((G.bI (bh hk F.size) h2).trans (F.block k hk));have e4:Kp _:=aF F.size G.grown.size;refine⟨⟨by simp;exact e4,λk o X hc=> ?_⟩,⟨b2 _ o_ o_ (V _ o_),b2 _ o_ o_ (V _ o_)⟩,⟨_,out++[⟨A2,l2,c2⟩],f1,?_,?_,?_,by simp;exact aF b5 e4⟩,?_⟩
  .have i1:=(Array.getElem?_eq_some_iff.1 X).1;refine(b2 k i1 (λe=> ?_) (λe=> ?_)).trans X
   .subst e;have:=O;unfold Boxed at this;rw[this]at X;injection X with X
    rw[<-X]at hc;cases hc
   .rcases(J u).2 with⟨h0,_⟩|⟨g,cap,cur,h0,_,j2,_⟩
    .rw[h0]at e;cases e
    .rw[h0]at e;injection e with e
     subst e;rw[j2]at X;injection X with X
     rw[<-X]at hc;cases hc
  .rw[aE,map_append];exact(J N).kept k9 (.inr (λe=>by have:=((J N).lt _ e).1;omega))
  .intro r z;have g4:∀b,cz r.A r.fs b->w.heap.size+3<=b:=λb hb=>by
    obtain z|z:=mem_append.1 z
    .grind
    .rw[mem_singleton.1 z]at hb;exact aF b5 (o3 (J L) (J c7) hb)
   have b0:fJ w5 (U A5 (out.length+1) c5) r:=by
    obtain z|z:=mem_append.1 z
    .exact(f8 r z).app G
    .rw[mem_singleton.1 z];exact g9.app G
   refine⟨⟨?_,b0.2⟩,g4⟩;have e:(w5.setCell (M w.heap.size 0) (U A5 (out.length+1) c5)).heap.size=w5.heap.size:=s_
   rw[e];exact b0.1.same λb hb=>Below.heap_setCell _ _ _ b r_
  .refine⟨by rw[aE,aE,a1.1];rfl,λi' d5=> ?_⟩;by_cases d6:i'<out.length
   .rw[getElem_append_left d6];obtain⟨g1,g2⟩:=a1.2 _ d6;refine⟨g1,λj hj=>g2 j ?_⟩;rw[getElem?_append_left (by rw[<-a1.1];omega)]at hj;omega
   .have g8:i'=out.length:=r_
    have k2:(out++[⟨A2,l2,c2⟩])[i']'d5=⟨A2,l2,c2⟩:=r_
    rw[k2];refine⟨(J f2),λj hj=> ?_⟩;rw[getElem?_append_right (by rw[<-a1.1];omega),g8,a1.1,Nat.sub_self]at hj;have j3:i=j:=r_
    subst j3;exact(J e5)
  .exact(G.ew e9 a7 o_ o_).setCell o_ _
 .rintro D xs W hD⟨b7,d4⟩⟨⟨v,out,O,u,a2,b9,b5⟩,H⟩ hK;have h6:xs.length=1:=by
   obtain _|⟨x,_|⟨y,xs⟩⟩:=xs
   .simp at d4;have:=d3.o;grind
   .rfl
   .have e:y.1=1:=by
     simp only[map_cons,length_cons]at b7;have:=congrArg (λl=>l[1]?) b7;simp at this;omega
    have:=y.2;rw[e]at this;have:=d3.o;omega
  have g3:(xs[0]?).map (·.1)=some 0:=by
   have:=congrArg (λl=>l[0]?) b7;rw[h6]at this;grind
  obtain⟨f9,g7⟩:=b9;rw[h6]at f9;obtain⟨r0,k6⟩:=length_eq_one_iff.1 f9;subst k6;obtain⟨d2,e6⟩:=g7 0 s_;have a3:=e6 0 g3;have a6:mF rs d 0=rs:=by
   unfold mF;rw[Nat.zero_mul,drop_zero,take_of_length_le r_]
  rw[a6]at a3;simp at d2 a3;obtain⟨Av,cv,rfl⟩:=bY u;have c0:=O.cell;obtain⟨bo,oo,i4,o2,d0⟩:=Row.at_ (dF u) (k:=0) s_;subst i4;have d1:C W _ oo (U _ _ _):=d0;have b0:=(a2 r0 s_).1;have k4:r0.fs.length<=1000000:=by
   have h1:=a3.length_eq;unfold aw at h1;rw[lM]at h1;have:=g0.o;omega
  have d7:=J (HC _ _ r0.c W k4 (λf hf=>Ee (λr z=>((J X) r z).keys) (a3.mem_iff.1 (mem_map_of_mem hf))) b0.1);have k5:=(Array.getElem?_eq_some_iff.1 hK).1;clear g3 g7 e6 a6 u a2 d0 b0 b7 d4;rw[show [r0].length=1 from rfl]at c0
  gi_wp2
  rw[roundsIn_succ]
  gi_wp2_with (refine⟨trivial,?_⟩;gi_at_call 136;apply(callsIn_wide.2 d7).mono;rintro e w2⟨v,l',rfl,c9,a5,c8,f6⟩;have c4:=J c9;have T:=J a5;have g5:=J c8;have e8:=J f6;clear c9 a5 c8 f6)
  have b8:=(e8.block D k5).trans (J hK);refine⟨s_,.inl ⟨_,_,rfl,run_takeDeferred b8,?_⟩⟩;have hg:=grownBy_putObj' w2 D (.deferred none);have l7:∀r,some D=some r->∃o:Obj,w2.heap[r]? = some o/\o.isCells=false:=λr e=>by cases e;exact⟨_,b8,rfl⟩
  refine⟨_,by simp[results,go_sem],HQ v 1 _ _ ?_ (yQ c4 (J d2)) ⟨?_,λf hf=>⟨?_,(T.2 f hf).2⟩⟩ (λf hf b off e k3=>aF (J H).size (g5 f hf b _ e k3)) ?_⟩
  .rw[c4];exact(J a3)
  .exact dZ (ownsRow_putObj T.1 _ b8 rfl) (J H).size
  .exact(oJ (T.2 f hf).1 hg l7).more o_
  .exact((J H).trans (e8.mono (J H).size)).trans (belowK_b (ae _) _ D _ _ o_ b8 rfl rfl)
 simp
end
section
attribute [local go_sem] Oper.semAt_some
def uZ(ps:List (LN×Ag))(w:World)(e:Ending)(w':World):Prop:=∃(v:Value)(l:List Fa),e = .returned (.tuple #[v,I 0])/\(l.map pl).Perm ps/\cZ l/\bj w' w.heap.size v l/\eC w.heap.size l/\E w w'
def Po{l rs}(n:l.length<=64)(h1:∀i(h:i<rs.length),(aw rs[i].fs).Perm (aw (eQ l 32 i)))(h2:l.length<=rs.length*32)(f:∀i,i<rs.length->i*32<l.length):rs.length<=2/\(de rs).Perm (aw l):=by
 have d:rs.length<=2:=r_
 refine⟨d,?_⟩;obtain _|⟨a,_|⟨b,_|⟨c,rs⟩⟩⟩:=rs
 .have:l=[]:=eq_nil_of_length_eq_zero r_;subst this;rfl
 .have h:=h1 0 s_;have e:eQ l 32 0=l:=by
   unfold eQ;rw[Nat.zero_mul,drop_zero,take_of_length_le o_]
  rw[e]at h;simpa[de]using h
 .have g:=h1 0 s_;have m:=h1 1 s_;have e:aw l=aw (eQ l 32 0)++aw (eQ l 32 1):=by
   unfold eQ aw;rw[Nat.zero_mul,drop_zero,Nat.one_mul,<-map_append,take_of_length_le (l:=l.drop _) o_,take_append_drop]
  rw[e];simpa[de]using g.append m
 .grind
def bj.base{w B b v l}(h:bj w B v l)(c:b<=B):bj w b v l:=⟨dZ h.1 c,h.2⟩
def Nf A rs(c b:Nat) w(n:2<=b)(d:b<=1000000)(h2:rs.length<=2)(e:rs.length<=c)(f:c<=9223372036854775807)(m:iU w w.heap.size A rs)(g:∀r∈rs,qM r) :
 Calls prog 133 #[I b,U A rs.length c] w (js (de rs) w):=by
 obtain h|h:=Nat.lt_or_ge rs.length 2
 .exact Nb A _ c b w n d o_ m g
 .exact Nc A _ c b w n d o_ e f m g
def Kd A l c w(hn:l.length<=64)(C:l.length<=c)(T:c<=9223372036854775807)(hk:∀f∈l,f.keys.length<=1000000)(s:bM w w.heap.size A l) :
 Calls prog 58 #[I 32,I 4,U A l.length c] w (uZ (aw l) w):=by
 have Z:=J (Pn A l c 32 w o_ o_ o_ C T hk s);have L:=J Nf;have G:=J hn;have y:Kp (∀v u w',(u.map pl).Perm (aw l)->cZ u->bj _ _ v u->eC _ u->E w _->uZ _ w _ w'):=λv u w' h1 h2 R z D=>⟨v,u,rfl,h1,h2,R,z,D⟩;generalize u:uZ _ w=Q at*;obtain⟨m,D⟩:=e_ l.length;rw[D]at Z;rw[D]at hn C⊢;go_in;go_wp2_with fail;apply Z.mono;rintro e O⟨A1,c1,rs,rfl,H,⟨x,X⟩,d,F,V,g⟩;obtain⟨h2,p⟩:=Po G (λi h=>(d i h).2.1) F V;have q:∀r∈rs,∀f∈r.fs,f.keys.length<=1000000:=λr s f N=>by
  obtain⟨i,hi,rfl⟩:=getElem_of_mem s;have D:pl f∈aw _:=mem_map_of_mem N;have R:=(d i hi).2.1.mem_iff.1 D;obtain⟨Y,M,e⟩:=mem_map.1 R;have u:Y.keys=f.keys:=congrArg Prod.fst e;rw[<-u];exact(J hk) Y (mem_of_mem_drop (mem_of_mem_take M))
 have G:∀r∈rs,qM r:=λr s=>by
  have hk:=q r s;obtain⟨i,hi,rfl⟩:=getElem_of_mem s;refine⟨(d i hi).1,(d i hi).2.2,hk,?_⟩;have:=(d i hi).2.1.length_eq;have z:(eQ l 32 i).length<=32:=by unfold eQ;rw[length_take];omega
  unfold aw at this;grind
 have B:=J (L _ _ _ 4 O o_ o_ h2 x X H G);obtain⟨k,hk⟩:=e_ rs.length;rw[hk]at B;rw[hk]at x⊢;go_wp2_with fail;apply B.mono;rintro e u⟨D,n2,l2,rfl,L,W,n,z,O⟩;have G:=J (y D _ u (L.trans (J p)) W (n.base (J g).size) (λf N b off h1 h2=>aF (J g).size (z f N b _ h1 h2)) ((J g).trans (O.mono (J g).size)));go_wp2;exact G
end
def Fk{a}(h:(Lit.int .i64 a).wf=true):fit a:=by
 have:=bounds_i64 h;unfold fit;omega
def mg(l:List (LN×Ag)):Prop:=l.Pairwise λa b=>aI a.1 b.1<=0
def yR{l}(h:cZ l):mg (l.map pl):=pairwise_map.2 h
def jk(s:aN)(rows:List Rw)(ps:List (LN×Ag)):Prop:=∃l:List Fa,kn s rows rows.length l/\aw l=ps
def mH{l}(h:∀x∈l,fit x) i:fit (pv l i):=by
 unfold pv;rcases hx:l[i]? with _|x
 .unfold fit;simp
 grind
def zJ{l}(h:∀x∈l,fit x):cB (dM l):=by
 have h1:fit 1:=by unfold fit;omega
 unfold dM fW;rw[take_of_length_le o_];exact⟨h1,mH h 0,mH h 0,mH h 0,mH h 1,mH h 1,mH h 1,mH h 2,mH h 2,mH h 2⟩
def qF(B:Nat)(ps:List (LN×Ag))(e:Ending)(w':World):Prop:=
 match dT [] ps with
 |none=>e = .returned (.tuple #[Z,I 12])
 |some b=>∃(v:Value)(l:List Fa),e = .returned (.tuple #[v,I 0])/\l.map pl=b/\bj w' B v l/\eC B l
def gV.at_{ps w w' e B}(h:gV ps w e w')(m:B<=w.heap.size):qF B ps e w'/\E w w':=by
 unfold gV at h;unfold qF;cases g:dT [] ps with
 |none=>grind
 |some r=>
  simp only[g]at h⊢;obtain⟨v,l,h1,h2,d,p,n⟩:=h;exact⟨⟨v,l,h1,h2,⟨dZ d.1 m,d.2⟩,λf q b off e c=>aF m (p f q b _ e c)⟩,n⟩
def gV.form{ps w w' e}(h:gV ps w e w'):∃(v:Value)(n:Int),e = .returned (.tuple #[v,I n]):=by
 unfold gV at h;grind
def uY(s:aN)(rows:List Rw)(w:World)(e:Ending)(w':World):Prop:=∃ps b,jk s rows ps/\b.Perm ps/\mg b/\qF w.heap.size b e w'/\E w w'
def JS s A rows c w(h:cQ w w.heap.size s)(Y:fT w w.heap.size A rows)(ho:iC s rows)(hn:rows.length<=64) :
 Calls prog 33 #[.agg (aG s),U A rows.length c] w (uY s rows w):=by
 have N:Kp (∀ps R e w',jk s _ _->R.Perm ps->mg R->qF _ R e _->E w _->uY s rows w e w'):=λps R e w' h1 h2 C y u=>⟨_,R,h1,h2,C,y,u⟩;have b:=(ah _ w).alloc (ae _) (.cells (aG s) 25);have V:=J b;have y:=J (aa.new w 25 (aG s));have u:=J (Gt s A _ c _ ((h.below b).more o_) ((Y.below b).more o_) ho);have HK:=J Kd;have Z:=J J7;have M:Kp (∀l:List _,kn s _ rows.length l->(∀f∈l,cB f.ag)/\∀f∈l,f.keys.length<=1000000):=(λl z=>by
  have key:∀f∈l,∃r∈rows,eE s r f.keys/\f.ag=dM r.cj:=λf p=>by
   obtain⟨i,hi,rfl⟩:=getElem_of_mem p;have O:i<rows.length:=by rw[<-z.1];omega
   exact⟨_,gM O,z.2 i _ _ (gE O) (gE hi)⟩
  refine⟨λf p=> ?_,λf p=> ?_⟩
  .obtain⟨r,H,h1,h2⟩:=key f p;rw[h2];exact zJ (λx hx=>Fk ((Y.each r H).wf x hx))
  .obtain⟨r,H,h1,h2⟩:=key f p;have:=h1.n;have:=ho.bO.n2;omega)
 clear h Y ho b;generalize z:uY s _ w=Q at*;obtain⟨m,G⟩:=e_ rows.length;rw[G]at u hn⊢;unfold aG at y V u⊢;obtain⟨z,z,_,_⟩:=y.two;go_in;go_wp2_with fail;apply u.mono;generalize w.alloc _=u at*;rintro e z⟨A1,c1,B,rfl,X,u,⟨L,y⟩,a3⟩;obtain⟨a2,T⟩:=M B u;have D:B.length<=64:=by have:=u.1;have:=G;omega
 have I:=J (HK _ B _ z D L y T X);have O:=ay V a3;obtain⟨n1,y⟩:=e_ B.length;rw[y]at I L D⊢;go_wp2_with fail;apply I.mono;rintro e L⟨y,l2,rfl,z,V,g,y,M⟩;obtain⟨A2,c2,rfl⟩:=g.form;have y:∀f∈l2,∃v∈B,v.keys=f.keys/\v.ag=f.ag:=λf p=>by
  have C:=z.mem_iff.1 (mem_map_of_mem p);obtain⟨v,d,e⟩:=mem_map.1 C;exact⟨v,d,congrArg Prod.fst e,congrArg Prod.snd e⟩
 have D:l2.length<=64:=by
  have:=z.length_eq;unfold aw at this;rw[lM,lM]at this;omega
 have F:=J (Z _ _ c2 L o_ (λf p=>r_) (λf p=>r_) g.jW);have q:=ay O M;have G:=J (λe W(h:gV _ L e W)=>N _ _ e W ⟨B,(J u),rfl⟩ z (yR V) (h.at_ q.size).1 (q.trans ((h.at_ q.size).2.mono q.size)));obtain⟨n2,Z⟩:=e_ l2.length;rw[Z]at F⊢;go_wp2_with fail;apply F.mono;intro e W C;have u:=J (G e W C);obtain⟨y,y,rfl⟩:=C.form;go_wp2;exact u
end Tc
end Go.Proofs.YtibjlpkpljnicaaGreatDoor
