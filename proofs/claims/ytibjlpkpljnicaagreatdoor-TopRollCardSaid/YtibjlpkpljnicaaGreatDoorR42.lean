/- Parts. -/
import Derived.Test.YtibjlpkpljnicaaGreatDoorR31
import Derived.Test.YtibjlpkpljnicaaGreatDoorR34
import Derived.Test.YtibjlpkpljnicaaGreatDoorR41
import Derived.Lib.RowBridge
set_option maxRecDepth 100000
set_option maxHeartbeats 8000000
set_option linter.all false
namespace Go.Proofs.YtibjlpkpljnicaaGreatDoor
namespace Tc
open List Go.RowKit Base Go.Maps Go.WideMaps Go.Proofs.Tryz
abbrev dm(zs:List Int):LV:=zs.map (.int .i64)
def Ints(w:World)(v:Value)(os:List Int):Prop:=(v = Z/\os=[])\/∃(g:Nat)(zs:List Int),v = U (some ⟨g,0,none⟩) os.length zs.length/\aa w g 3 (dm zs).toArray/\zs.take os.length=os/\zs.length<=maxLen
def Ints.lt{w v os k}(h:Ints w v os)(hk:v.ownBlock=some k):k<w.heap.size:=by
 obtain⟨rfl,_⟩|⟨g,zs,rfl,b,_⟩:=h
 .cases hk
 .injection hk with hk;subst hk;exact b.lt
def Ints.same{w w' v os}(h:Ints w v os)(b:∀k,v.ownBlock=some k->w'.heap[k]? = w.heap[k]?):Ints w' v os:=by
 obtain h|⟨g,zs,rfl,c,h⟩:=h
 .exact .inl h
 .exact .inr ⟨g,_,rfl,(b g rfl).trans c,h⟩
def Ints.form{w v os}(h:Ints w v os):∃A c,v = U A os.length c:=by
 obtain⟨rfl,rfl⟩|⟨g,zs,rfl,_⟩:=h
 .simp
 simp
def iZ(zs:List Int)(o:Nat)(b:List Int):List Int:=zs.take o++(b++zs.drop (o+b.length))
def Ki zs o:iZ zs o []=zs:=by unfold iZ;simp
def Kh zs o v b(h:o<zs.length):iZ (zs.set o v) (o+1) b=iZ zs o (v::b):=by
 unfold iZ;rw[take_succ_eq_append_getElem o_,getElem_set_self,take_set_of_le o_,drop_set_of_lt o_,append_assoc,length_cons];grind
def mY zs o b(h:o+b.length<=zs.length):(iZ zs o b).length=zs.length:=by
 unfold iZ;grind
def ints_set g:∀(b:List Int)(o:Nat)(w:World)(zs:List Int),o+b.length<=zs.length->aa w g 3 (dm zs).toArray->aa (w.setCells g o (dm b)) g 3 (dm (iZ zs o b)).toArray
 | [],o,w,zs,_,h=>by rw[Ki];exact h
 |v::b,o,w,zs,c,h=>by
  rw[length_cons]at c;have h1:=h.set o (I v);rw[show(dm _).toArray.setIfInBounds o _=(dm (zs.set o v)).toArray by simp]at h1;rw[<-Kh _ o v b o_];exact ints_set g b _ _ _ o_ h1
def oN{p g x}(c:p g):∀(b:LV)(o:Nat)(w:World),aq p x w->aq p x (w.setCells g o b)
 | [],_,_,h=>h
 |v::b,o,w,h=>oN c b (o+1) _ (h.trans (aq.set w (M g o) v c))
def ints_at{w g zs}(h:aa w g 3 (dm zs).toArray) j(b:j<zs.length):w.cell? ⟨g,0+j,none⟩=some (.int .i64 (zs.getD j 0)):=by
 rw[Nat.zero_add,h.cell];grind
def xo{w g zs}(h:aa w g 3 (dm zs).toArray){k} j v(b:(dm (zs.take k))[j]? = some v):w.cell? ⟨g,0+j,none⟩=some v:=by
 rw[Nat.zero_add,h.cell,getElem?_toArray,<-b];grind
def BP zs:∀v∈dm zs,v.oneCell'=true:=λv b=>by
 obtain⟨z,_,rfl⟩:=mem_map.1 b;rfl
def qG(v:Value)(w:World)(os:List Int)(e:Ending)(w':World):Prop:=∃b,e = .returned b/\Ints w' b os/\aq (λk=>v.ownBlock=some k) w w'/\∀k,b.ownBlock=some k->v.ownBlock=some k\/w.heap.size<=k
def JH os x:(x∉os/\Lib.idxOf os x = -1)\/∃k:Nat,k<os.length/\Lib.idxOf os x=(k:Int)/\os[k]? = some x:=by
 have gen:∀ os i,(x∉os/\Lib.idxFrom os x i = -1)\/∃k:Nat,k<os.length/\Lib.idxFrom os x i=(i+k:Nat)/\os[k]? = some x:=by
  intro os;induction os with
  |nil=>exactλi=> .inl ⟨not_mem_nil,rfl⟩
  |cons z os d=>
   intro i;by_cases b:z=x
   .exact .inr ⟨0,s_,by simp[Lib.idxFrom,b],o_⟩
   .obtain⟨h1,h2⟩|⟨k,h1,h2,c⟩:=d (i+1)
    .exact .inl ⟨λh=>(mem_cons.1 h).elim (λh=>b h.symm) h1,by simp only[Lib.idxFrom,if_neg b,h2]⟩
    .exact .inr ⟨k+1,o_,by simp only[Lib.idxFrom,if_neg b,h2];congr 1;omega,c⟩
 obtain h|⟨k,h1,h2,c⟩:=gen os 0
 .exact .inl h
 .exact .inr ⟨k,h1,by rw[Nat.zero_add]at h2;exact h2,c⟩
def JJ{w v os}(h:Ints w v os) x:Calls prog 149 #[v,I x] w λe w'=>e = .returned (I (Lib.idxOf os x))/\w=w':=by
 obtain⟨rfl,rfl⟩|⟨g,zs,rfl,f,ht,b⟩:=h
 .exact(Tryz.slices_Index_int_empty _ 0 x w).mono λe w'⟨h1,h2⟩=>⟨h1,h2.symm⟩
 .have d:os.length<=zs.length:=r_
  have:=Tryz.slices_Index_int g 0 _ zs.length _ x w d (by unfold maxLen at b;omega) (λj c=>ints_at f j c);grind
def ID{w v os}(h:Ints w v os){i}(hi:i<os.length):Calls prog 367 #[v,N i,I ((i+1:Nat):Int)] w (qG v w (os.take i++os.drop (i+1))):=by
 obtain⟨rfl,rfl⟩|⟨g,zs,rfl,r,ht,s⟩:=h
 .grind
 .have x:os.length<=zs.length:=r_
  have f:=Lib.holds_of_ints x (λj y=>ints_at r j y) (λj _=>r.free _);rw[ht]at f;refine(Tryz.slices_Delete_int g 0 _ i (i+1) _ w f x (by unfold maxLen at s;omega) o_ hi).mono ?_;rintro e w'⟨rfl,q,rfl⟩;have d:(os.take i++os.drop (i+1)).length=os.length-(i+1-i):=o_;have c:(os.take i++os.drop (i+1)++replicate (i+1-i) 0).length=os.toArray.size:=o_
  rw[Lib.putRow_eq_setCells _ w g 0 _ _ q f c];have u:(os.take i++os.drop _++replicate _ 0).length=os.length:=o_
  have m:=ints_set g (os.take i++os.drop (i+1)++replicate (i+1-i) 0) 0 (w.drewN q) _ o_ r;refine⟨_,rfl,.inr ⟨g,_,?_,m,?_,?_⟩,oN (p:=λk=>(Value.slice _ _ _).ownBlock=some k) rfl _ _ _ ((aq.refl _ w).drewN q),λk hk=> .inl hk⟩
  .rw[mY _ _ _ o_,d]
  .unfold iZ;grind
  .rw[mY _ _ _ o_];omega
def zk k:(Builtin.zeroCells (I 0).cells k).toList=dm (replicate k 0):=by
 unfold Builtin.zeroCells dm;simp[Value.cells];refine ext_getElem s_ λi h1 h2=>r_
def JV{w v os}(h:Ints w v os){m x}(C:aa w m 3 #[I x])(F:v.ownBlock≠some m)(X:os.length<=1000) :
 Calls prog 368 #[v,I 0,U (some ⟨m,0,none⟩) 1 1] w (qG v w (x::os)):=by
 have y:∀j u,([I x])[j]? = some u->w.cell? ⟨m,0+j,_⟩=some u:=λj u n=>by
  rw[Nat.zero_add,C.cell];grind
 have f:∀u∈[I x],u.oneCell'=true:=λu W=>by rw[mem_singleton.1 W];rfl
 have q:∀(A:OA) c,os=[]->v = U A 0 c->c=0->Calls _ 368 #[v,I 0,U _ 1 1] w (qG v w (x::os)):=λA c h0 E R=>by
  subst h0 E R;have:=Any2.slices_Insert_int_end_grow Tryz.tC A 0 0 m 0 1 1 [] _ w o_ o_ o_ o_ rfl rfl (λ_=>rfl) (λa _ j u n=>r_) y f;apply this.mono;rintro e w'⟨rfl,rfl⟩;have J:=grownCap_ge w (0+1) 0 (Tryz.o8.t 3);have M:=grownCap_le_maxLen w (0+1) 0 (Tryz.o8.t 3) (by unfold maxLen;omega);generalize grownCap w _ 0 _=G at*;have b:=aa.new w.drew 3 (([]++[I x]).toArray++Builtin.zeroCells (I 0).cells (G-(0+1)));have H:([]++[I x]).toArray++Builtin.zeroCells (I 0).cells (G-(0+1))=(dm (x::replicate (G-1) 0)).toArray:=by
   apply Array.toList_inj.1;rw[Array.toList_append,zk];rfl
  rw[H]at b⊢;refine⟨_,rfl,?_,(aq.refl _ w).drew.alloc _,λk hk=> .inr (by injection hk with hk;grind)⟩;refine .inr ⟨w.heap.size,_,?_,b,rfl,?_⟩
  .grind
  grind
 obtain⟨rfl,rfl⟩|⟨g,zs,rfl,r,ht,D⟩:=h
 .grind
 have V:os.length<=zs.length:=r_
 have N:m≠g:=λe=>F (by rw[e];rfl);by_cases h0:os.length=0
 .obtain rfl:=length_eq_zero_iff.1 h0;by_cases O:zs.length=0
  .grind
  .have:=Any2.slices_Insert_int_end_room Tryz.tC g 0 0 zs.length m 0 1 1 _ w o_ o_ (by unfold maxLen at D;omega) rfl (λj n=>by rw[show 0+0+j=0+j by omega,ints_at r j o_];rfl) (λj n=>r.free _) y f;apply this.mono;rintro e w'⟨rfl,rfl⟩;have b:=ints_set g [x] 0 w _ o_ r;refine⟨_,rfl,.inr ⟨g,_,?_,b,?_,?_⟩,oN (p:=λk=>(Value.slice _ _ _).ownBlock=some k) rfl _ _ _ (aq.refl _ w),λk hk=> .inl hk⟩
   .rw[mY _ _ _ o_];rfl
   .rfl
   .rw[mY _ _ _ o_];omega
 by_cases z:os.length+1<=zs.length
 .have:=Any2.slices_Insert_int_shift Tryz.tC g 0 _ _ 0 m 0 1 1 _ _ w o_ o_ z (by unfold maxLen at D;omega) N o_ rfl (λj u n=>xo r (k:=os.length) j u r_) (λj n=>by rw[ints_at r j o_];rfl) (λj n=>r.free _) y (BP os) f
   3 3 1 zs.length (by unfold World.shape?;rw[C];rfl) (by unfold World.shape?;rw[r];simp) o_ (C.free 0) (C.free 1)
  apply this.mono;rintro e w'⟨rfl,rfl⟩;rw[drop_zero];have B:=ints_set g os (0+(0+1)) w.drew _ o_ r;have d:=mY zs (0+(0+1)) os o_;have b:=ints_set g [x] (0+0) _ _ r_ B;have s:=mY (iZ zs (0+(0+1)) os) (0+0) [x] r_;refine⟨_,rfl,.inr ⟨g,_,?_,b,?_,o_⟩,oN (p:=λk=>(Value.slice _ _ _).ownBlock=some k) rfl _ _ _ (oN (p:=λk=>(Value.slice _ _ _).ownBlock=some k) rfl _ _ _ (aq.refl _ w).drew),λk hk=> .inl hk⟩
  .grind
  .show(x::(iZ zs 1 os).drop 1).take (os.length+1)=x::os;rw[take_succ_cons];congr 1;unfold iZ;grind
 .have:=Any2.slices_Insert_int_grow Tryz.tC g 0 _ _ 0 m 0 1 1 _ _ w o_ o_ V o_ o_ o_ rfl (λj u n=>xo r (k:=os.length) j u r_) y (BP os) f;apply this.mono;rintro e w'⟨rfl,rfl⟩;have J:=grownCap_ge w (os.length+1) zs.length (Tryz.o8.t 3);have M:=grownCap_le_maxLen w (os.length+1) zs.length (Tryz.o8.t 3) (by unfold maxLen;omega);generalize grownCap w _ _ _=G at*;have H:((dm os).take 0).toArray++Builtin.zeroCells (I 0).cells (os.length+1-0)++Builtin.zeroCells (I 0).cells (G-(os.length+1))=(dm (replicate G 0)).toArray:=by
   apply Array.toList_inj.1;rw[Array.toList_append,Array.toList_append,zk,zk];simp only[take_zero,nil_append,Nat.sub_zero];show dm (replicate (os.length+1) 0)++dm (replicate (G-(os.length+1)) 0)=dm (replicate G 0);unfold dm;rw[<-map_append,replicate_append_replicate,show os.length+1+(G-(os.length+1))=G by omega]
  rw[H,drop_zero];have L:=aa.new w 3 (dm (replicate G 0)).toArray;have B:=ints_set _ [x] 0 (w.alloc _).drew _ o_ L;have d:=mY (replicate G 0) 0 [x] o_;rw[length_replicate]at d;have b:=ints_set _ os (0+1) _ _ o_ (show aa (((w.alloc _).drew.setCells _ 0 (dm [x])).drew) _ 3 _ from B);have s:=mY (iZ (replicate G 0) 0 [x]) (0+1) os o_;refine⟨_,rfl,.inr ⟨_,_,?_,b,?_,o_⟩,?_,λk hk=> .inr (by injection hk with hk;grind)⟩
  .grind
  .show((iZ (replicate G 0) 0 [x]).take 1++(os++_)).take (os.length+1)=x::os;have:(iZ (replicate G 0) 0 [x]).take 1=[x]:=rfl;grind
  .have ht:aq (λk=>k=w.heap.size) w (((w.alloc (.cells (dm (replicate G 0)).toArray 3)).drew.setCells _ 0 (dm [x])).drew.setCells _ (0+1) (dm os)):=oN (p:=λk=>k=w.heap.size) rfl _ _ _ (oN (p:=λk=>k=w.heap.size) rfl _ _ _ ((aq.refl _ w).alloc _).drew).drew;exact⟨ht.os,ht.tape,ht.output,o_,λk hk _=>ht.block k hk (λe=>o_)⟩
end Tc
namespace Tc
open List Go.RowKit Base Go.Maps Go.WideMaps Crc Pg Go.Proofs.Tryz
def aa.ne{w g c t d cs b}(h:aa w g t cs)(h':aa w c d b)(ht:t≠d):g≠c:=λe=>by
 subst e;have h1:=Option.some.inj (h.symm.trans h');grind
def aY.ne{w g b n t k cs D}(h:aa w g t cs)(h':aY w k b n D):g≠b:=λe=>by
 subst e;obtain⟨c,cl,h1,_⟩:=h';have h2:=Option.some.inj (h.symm.trans h1);cases h2
def Ints.ne{w g t cs v os}(h:Ints w v os)(h':aa w g t cs)(ht:t≠3):v.ownBlock≠some g:=λe=>by
 obtain⟨rfl,_⟩|⟨g2,zs,rfl,b,_⟩:=h
 .cases e
 .injection e with e;exact aa.ne h' b ht e.symm
def tE{w g n v os k D}(h:Ints w v os)(h':aY w k g n D):v.ownBlock≠some g:=λe=>by
 obtain⟨rfl,_⟩|⟨g2,zs,rfl,b,_⟩:=h
 .cases e
 .injection e with e;exact aY.ne b h' e
structure dd where
 gp:Nat
 gd:Nat
 gs:Nat
 gc:Nat
 gt:Nat
 gl:Nat
 gr:Nat
 cs:Nat
 st:Int
 sec:List ByteArray
 rg:Int
 rp:Int
 rm:Int
 rt:Int
 ow:Value
 off:Nat
 cl:Nat
 lcs:AV
 list:LN
 b:List UInt8
def dd.P(c:dd)(d:Int):AV:=#[Y c.gd 0,I c.rg,I c.rp,I c.rm,I 1,I c.b.length,I c.rt,c.ow,U (some ⟨c.gl,c.off,none⟩) c.list.length c.cl,Y c.gr 0,Y c.gc 0,I d,.bool false]
def iM(b:List UInt8):Nat->List UInt8
 |0=>pg 67 0 [99]
 |i+1=>pg 78 i (di b i)
def kU(b:List UInt8):Nat->List UInt8
 |0=>[99]
 |i+1=>di b i
structure dd.Ok(c:dd):Prop where
 OI:1<=c.rg
 Lc:c.sec.length=500
 len:c.list.length=1+Pg.pn c.b.length
 sO:c.b.length<=49200
 list:∀(i p:Nat),c.list[i]? = some p->c.lcs[c.off+i]? = some (N p)/\p<249/\∃x y,c.sec[2+2*p]? = some x/\c.sec[2+2*p+1]? = some y/\x++y=str (iM c.b i)
def dd.tx(c:dd)(i:Nat):Option ByteArray:=if i<c.list.length then some (str (kU c.b i))else none
abbrev gB(b:Value)(gt:Nat)(h m:Int):AV:=#[I 8,b,.map (some gt),I h,I m]
def sr(D:DataW Value)(os:List Int):Prop:=(∀kl,has D kl=true->∃x∈os,kl = .int .i64 x)/\∀x∈os,0<=x/\x<4096
structure bT(c:dd)(w:World)(r fe:Int)(kv:Value)(os:List Int)(D:DataW Value)(n:Nat)(h m:Int):Prop where
 dev:aa w c.gd 170 (pF c.gs 500 c.cs r c.st)
 sec:aa w c.gs 9 (c.sec.map Value.string).toArray
 box:aa w c.gp 176 (c.P fe)
 list:aa w c.gl 3 c.lcs
 cache:aa w c.gc 274 (gB kv c.gt h m)
 order:Ints w kv os
 dw:os.length<=8
 keys:sr D os
 map:aY w 3 c.gt n D
 ok:jL D c.tx
 kl:kv.ownBlock≠some c.gl
def dd.own(c:dd)(b:Value)(k:Nat):Prop:=k=c.gd\/k=c.gp\/k=c.gc\/k=c.gt\/b.ownBlock=some k
def dd.F(c:dd)(b:Value)(k:Nat):Prop:=c.own b k\/k=c.gs\/k=c.gl
def eU(c:dd)(w:World)(F:Nat->Prop):Prop:=∃(r d:Int)(b:Value)(os:List Int)(D:DataW Value)(n:Nat)(h m:Int),bT c w r d b os D n h m/\F=c.F b
section
variable{c:dd}{w w':World}{r fe r' fe' h m h' m':Int}{kv kv':Value}{os os':List Int}{k n n':Nat}{D D':DataW Value}{F S:Nat->Prop}
def aY.lt(h:aY w 3 k n D):k<w.heap.size:=by
 obtain⟨b,cl,h1,_⟩:=h;grind
def bT.fY(d:bT c w r fe kv os D n h m){j:Nat}(b:c.F kv j):j<w.heap.size:=by
 obtain(rfl|rfl|rfl|rfl|e)|rfl|rfl:=b
 .exact d.dev.lt
 .exact d.box.lt
 .exact d.cache.lt
 .exact aY.lt d.map
 .exact d.order.lt e
 .exact d.sec.lt
 .exact d.list.lt
def bT.fix(d:bT c w r fe kv os D n h m){j:Nat}(b:j=c.gs\/j=c.gl):¬c.own kv j:=λe=>by
 obtain rfl|rfl:=b
 .obtain e|e|e|e|e:=e
  .exact aa.ne d.sec d.dev d_ e
  .exact aa.ne d.sec d.box d_ e
  .exact aa.ne d.sec d.cache d_ e
  .exact aY.ne d.sec d.map e
  .exact d.order.ne d.sec d_ e
 .obtain e|e|e|e|e:=e
  .exact aa.ne d.list d.dev d_ e
  .exact aa.ne d.list d.box d_ e
  .exact aa.ne d.list d.cache d_ e
  .exact aY.ne d.list d.map e
  .exact d.kl e
def bT.same(d:bT c w r fe kv os D n h m)(b:∀j,c.F kv j->w'.heap[j]? = w.heap[j]?):bT c w' r fe kv os D n h m:=
 ⟨(b _ (.inl (.inl rfl))).trans d.dev,(b _ (.inr (.inl rfl))).trans d.sec,(b _ (.inl (.inr (.inl rfl)))).trans d.box,(b _ (.inr (.inr rfl))).trans d.list,(b _ (.inl (.inr (.inr (.inl rfl))))).trans d.cache,d.order.same λj e=>b j (.inl (.inr (.inr (.inr (.inr e))))),d.dw,d.keys,d.map.same (b _ (.inl (.inr (.inr (.inr (.inl rfl)))))),d.ok,d.kl⟩
def bT.below(d:bT c w r fe kv os D n h m)(b:E w w'):bT c w' r fe kv os D n h m:=d.same λj e=>b.block j (d.fY e)
def bT.next(d:bT c w r fe kv os D n h m)(ht:aq S w w')(b:∀j,S j->c.own kv j)(h1:aa w' c.gd 170 (pF c.gs 500 c.cs r' c.st))(h2:aa w' c.gp 176 (c.P fe'))(v:aa w' c.gc 274 (gB kv' c.gt h' m'))(f:Ints w' kv' os')(s:os'.length<=8)(p:sr D' os')(u:aY w' 3 c.gt n' D')(g:jL D' c.tx)(hk:∀j,kv'.ownBlock=some j->kv.ownBlock=some j\/w.heap.size<=j) :
 bT c w' r' fe' kv' os' D' n' h' m'/\Mv (c.F kv) w w' (c.F kv'):=by
 refine⟨⟨h1,(ht.block _ d.sec.lt (λe=>d.fix (.inl rfl) (b _ e))).trans d.sec,h2,(ht.block _ d.list.lt (λe=>d.fix (.inr rfl) (b _ e))).trans d.list,v,f,s,p,u,g,λe=> ?_⟩,⟨ht.more λj e=> .inl (b j e),λj e=> ?_⟩⟩
 .obtain q|q:=hk _ e
  .exact d.kl q
  .have:=d.list.lt;omega
 .obtain(e|e|e|e|e)|e:=e
  .exact .inl (.inl (.inl e))
  .exact .inl (.inl (.inr (.inl e)))
  .exact .inl (.inl (.inr (.inr (.inl e))))
  .exact .inl (.inl (.inr (.inr (.inr (.inl e)))))
  .obtain q|q:=hk _ e
   .exact .inl (.inl (.inr (.inr (.inr (.inr q)))))
   .exact .inr ⟨q,f.lt e⟩
  .exact .inl (.inr e)
end
def nQ(c:dd)(F:Nat->Prop)(v:Value)(w:World)(e:Ending)(w':World):Prop:=e = .returned v/\∃b,eU c w' b/\Mv F w w' b
section
variable{c:dd}{w w':World}{r fe h m:Int}{kv:Value}{os:List Int}{n:Nat}{D:DataW Value}{F:Nat->Prop}
def bT.cells(d:bT c w r fe kv os D n h m):C w c.gp 0 (Y c.gd 0)/\C w c.gp 1 (I c.rg)/\C w c.gp 2 (I c.rp)/\C w c.gp 3 (I c.rm)/\C w c.gp 4 (I 1)/\C w c.gp 5 (I c.b.length)/\C w c.gp 6 (I c.rt)/\C w c.gp 8 (U (some ⟨c.gl,c.off,none⟩) c.list.length c.cl)/\C w c.gp 9 (Y c.gr 0)/\C w c.gp 10 (Y c.gc 0)/\C w c.gp 11 (I fe)/\C w c.gp 12 (.bool false)/\w.frozen? (M c.gp 11)=false:=
 ⟨d.box.cell 0,d.box.cell 1,d.box.cell 2,d.box.cell 3,d.box.cell 4,d.box.cell 5,d.box.cell 6,d.box.cell 8,d.box.cell 9,d.box.cell _,d.box.cell _,d.box.cell _,d.box.free _⟩
def yu(d:bT c w r fe kv os D n h m):Calls prog 115 #[Y c.gp 0] w λe w'=>e = .returned (.bool true)/\w=w':=by
 obtain⟨z,y,v,q,u,x,A,s,B,g,p,b,f⟩:=d.cells;go_in;go_wp2;go_ret;simp
def Nn(d:bT c w r fe kv os D n h m)(ok:c.Ok):Calls prog 168 #[Y c.gp 0] w λe w'=>e = .returned (.bool true)/\w=w':=by
 have b:=J (yu d);obtain⟨B,A,y,s,x,z,C,v,E,p,q,f,g⟩:=d.cells;have u:decide (0<c.rg)=true:=decide_eq_true (by have:=ok.OI;omega);clear ok;go_in;go_wp2_with fail;apply b.mono;rintro e w'⟨rfl,rfl⟩;go_wp2;go_ret;simp
def Dz(d:bT c w r fe kv os D n h m):Calls prog 47 #[Y c.gp 0] w (R_ (.agg #[.int .i64 c.rg,.int .i64 c.rp,.int .i64 c.rm,.int .i64 1,.int .i64 c.b.length,.int .i64 c.rt]) w):=by
 have g:=(ah _ w).alloc (ae _) (.cells #[I 0,I 0,I 0,I 0,I 0,I 0] 122);have p:=J (aa.new w 122 #[I 0,I 0,I 0,I 0,I 0,I 0]);generalize F:w.alloc _=y at*;have u:=J g;have q:=J (d.below g);have x:=J (yu q);obtain⟨z,z,V,U,z,W,z,z,z,H,T,z,R⟩:=q.cells;obtain⟨z,⟨z,z,z,X,Z,z⟩⟩:=Dv.aa.dL p;clear d g;go_in;go_wp2_with fail;apply x.mono;rintro e w'⟨rfl,rfl⟩;obtain⟨s,f⟩:=e_ (aH y w.heap.size 0 [.int .i64 c.rg,.int .i64 c.rp,.int .i64 c.rm,.int .i64 1,.int .i64 c.b.length,.int .i64 c.rt]);have A:=J (show E w s by rw[<-f];exact fq o_ _ _ _ u);have B:=J (show aa s _ _ #[I _,I _,I _,I 1,I _,I _] by rw[<-f];exact dS p _ rfl);simp only[aH,Nat.zero_add,Nat.reduceAdd]at f;obtain⟨⟨M,L,N,O,C,G⟩,_⟩:=Dv.aa.dL B;go_wp2;refine bodyPost_ret (v:= .agg #[I _,I _,I _,I 1,I _,I _]) ?_ rfl ⟨rfl,A⟩;simp[results,go_sem,M,L,N,O,C,G]
def Dx(d:bT c w r fe kv os D n h m)(ok:c.Ok):Calls prog 88 #[Y c.gp 0] w λe w'=>e = .returned (I 0)/\w=w':=by
 obtain⟨f,g,b⟩:=j3_ (yu d) (Nn d ok) (Dv.Da _ _ _ _ _ 0 r _ _ w d.dev d_ d_);obtain⟨C,B,z,v,y,A,E,x,F,s,u,p,q⟩:=d.cells;clear ok;go_in;go_wp2_with fail;apply f.mono;rintro e w'⟨rfl,rfl⟩;go_wp2_with fail;apply b.mono;rintro e w'⟨rfl,rfl⟩;go_wp2_with fail;apply g.mono;rintro e w'⟨rfl,rfl⟩;go_wp2;go_ret;simp
def bT.read(d:bT c w r fe kv os D n h m){b:Int}(f:aa w' c.gd 170 (pF c.gs 500 c.cs b c.st))(ht:aq (·=c.gd) w w'):bT c w' b fe kv os D n h m/\Mv (c.F kv) w w' (c.F kv):=
 d.next ht (λj e=> .inl e) f (d.box.ax ht (aa.ne d.box d.dev d_)) (d.cache.ax ht (aa.ne d.cache d.dev d_)) (d.order.same λj e=>ht.block j (d.order.lt e) (λq=>d.order.ne d.dev d_ (q▸e))) d.dw d.keys (d.map.same (ht.block _ (aY.lt d.map) (λq=>aY.ne d.dev d.map q.symm))) d.ok (λj e=> .inl e)
def bT.count(d:bT c w r fe kv os D n h m)(x:Int):bT c (w.setCell (M c.gp 11) (I x)) r x kv os D n h m/\Mv (c.F kv) w (w.setCell (M c.gp 11) (I x)) (c.F kv):=by
 have ht:aq (·=c.gp) w (w.setCell (M c.gp 11) (I x)):= .set _ _ _ rfl;exact d.next ht (λj e=> .inr (.inl e)) (d.dev.ax ht (aa.ne d.dev d.box d_)) (d.box.set _ _) (d.cache.ax ht (aa.ne d.cache d.box d_)) (d.order.same λj e=>ht.block j (d.order.lt e) (λq=>d.order.ne d.box d_ (q▸e))) d.dw d.keys (d.map.same (ht.block _ (aY.lt d.map) (λq=>aY.ne d.box d.map q.symm))) d.ok (λj e=> .inl e)
def qV(x y:ByteArray):Nat->ByteArray
 |0=>⟨#[]⟩
 |1=>x
 |_=>x++y
def GW{x y} k(hk:k<2) s(b:if k=0 then s=x else s=y):qV x y k++s=qV x y (k+1):=by
 match k,hk with
 |0,_=>rw[if_pos rfl]at b;rw[b];rfl
 |1,_=>rw[if_neg d_]at b;rw[b];rfl
def GX{x y} k(hk:k<2) s(b:if k=0 then s=x else s=y)(h:x.size+y.size<=1000):(qV x y k).size+s.size<=1000:=by
 match k,hk with
 |0,_=>rw[if_pos rfl]at b;rw[b];show 0+x.size<=_;omega
 |1,_=>rw[if_neg d_]at b;rw[b];exact h
def GV{c:dd}{x y b} k(hk:k<2)(hx:c.sec[b]? = some x)(d:c.sec[b+1]? = some y):∃s,c.sec[b+k]? = some s/\(if k=0 then s=x else s=y):=by
 grind
def NL(d:bT c w r fe kv os D n h m)(ok:c.Ok){p:Nat}(hp:p<249){x y:ByteArray}(hx:c.sec[2+2*p]? = some x)(hy:c.sec[2+2*p+1]? = some y)(B:x.size+y.size<=1000) :
 Calls prog 162 #[Y c.gp 0,N p] w λe w'=>e = .returned (.tuple #[T (x++y),I 0])/\∃H g,bT c w' H g kv os D n h m/\Mv (c.F kv) w w' (c.F kv):=by
 have HS:=J (Dv.yO _ _ _ _ _ 0 r _ _ w d.dev d_ d_);have E:=J (λW=>Dt (500:Nat) W);have u:=J (λW=>Dn p W);rw[show ue _=249 from rfl]at E;rw[show pZ _=(2+2*p:Nat) by unfold pZ;omega]at u;have V:=J (λW G(z:bT c W G fe kv os D n h m) i s(L:c.sec[i]? = some s)=>(IH z.dev z.sec ok.Lc d_ L));have M:=J d;have M0:=J (Mv.start (c.F kv) w);obtain⟨b0,b1,R,O,b4,U,b6,b8,b9,b,A,v,z⟩:=d.cells;have G:decide ((p:Int)<0)=false:=o_;have G:decide (249<=(p:Int))=false:=o_;obtain⟨G,a1,Hy⟩:=j3_ hx B hy;clear d ok hx hy B;go_in;go_wp2_with fail;apply HS.mono;rintro e w'⟨rfl,rfl⟩;go_wp2_with fail;apply(E _).mono;rintro e w'⟨rfl,rfl⟩;go_wp2_with fail;apply(u _).mono;rintro e w'⟨rfl,rfl⟩;clear b0 b1 R O b4 U b6 b8 b9 b A v z;go_wp2;go_loopw [7,25] (λu q wr=>∃(i:Nat)(H:Int),i<=2/\q = N i/\u = T (qV x y i)/\Kp (bT c wr H fe kv os D n h m)/\Kp (Mv (c.F kv) w wr (c.F kv))) (λ_ q _=>2-(intOf q).toNat)
 case atStart=>exact⟨0,r,o_,rfl,rfl,M,M0⟩
 .obtain⟨i,H,hi,rfl,rfl,M,M1⟩:=hrel;obtain⟨b0,b1,R,O,b4,U,b6,b8,b9,b,A,v,z⟩:=M.cells;by_cases u:i<2
  .obtain⟨s,L,f⟩:=GV i u G Hy;have E:=J (V _ H M _ s L);have Hc:=J (GW i u s f);have G:=GX i u s f a1;have u:IntKind.i64.wrap ((2+2*p:Nat)+i)=(2+2*p+i:Nat):=by rw[IntWalk.i64_in _ o_];omega
   have u:decide ((i:Int)<2)=true:=o_;clear L f;generalize qV x y i=ci at*;go_wp2_with fail;apply E.mono;rintro e u⟨rfl,u,G,C⟩;obtain⟨E,m2⟩:=M.read G C;have X:=J E;have V:=J (M1.trans m2);clear E m2 G C b0 b1 R O b4 U b6 b8 b9 b A v z;go_wp2;exact⟨⟨i+1,u,o_,o_,by rw[Hc],X,V⟩,o_⟩
  .obtain rfl:i=2:=o_;obtain⟨g,u⟩:=e_ (IntKind.i64.wrap (fe+1));obtain⟨E,m2⟩:=M.count g;have X:=J E;have V:=J (M1.trans m2);clear E m2;go_wp2;go_ret2;exact⟨rfl,_,_,X,V⟩
def Nj(d:bT c w r fe kv os D n h m)(ok:c.Ok){i:Nat}(hi:i<c.list.length) :
 Calls prog 336 #[Y c.gp 0,N i] w λe w'=>e = .returned (.tuple #[T (str (kU c.b i)),I 0])/\∃r' E,bT c w' r' E kv os D n h m/\Mv (c.F kv) w w' (c.F kv):=by
 obtain⟨M,z,x,y,hx,y,u⟩:=ok.list i _ (gE hi);have L:(iM c.b i).length=256:=by
  cases i with
  |zero=>rfl
  |succ i=>exact qb _ i _ (by rw[rK];omega)
 have V:=J (NL d ok z hx y (by have:=congrArg ByteArray.size u;rw[ByteArray.size_append]at this;rw[this];show(iM c.b i).length<=_;rw[L];decide));rw[u]at V;have z:=ok.sO;have z:=ok.len;have z:Pg.pn c.b.length<=200:=by unfold Pg.pn;omega
 have g:jY (iM c.b i)=true/\ft (iM c.b i)=(if i=0 then 67 else 78)/\Pg.idxOf (iM c.b i)=i-1/\iW (iM c.b i)=kU c.b i:=by
  cases i with
  |zero=>exact BR _ 0 _ d_ d_ d_
  |succ i=>exact BR _ i _ d_ o_ (by rw[rK];omega)
 have C:=J (λW=>J' (str (iM _ i)) _ _ W g.1 g.2.1 (by rw[show(str (iM _ i)).data.toList=iM _ i from rfl,g.2.2.1]));have O:Kp (iW (str (iM _ i)).data.toList=kU _ i):=g.2.2.2;rw[O]at C;have HC:=J (λW=>oF 1 W d_);rw[show gP 1=1 from rfl]at HC;obtain⟨G,b1,X,U,O,Z,b6,L,b9,z,B,v,A⟩:=d.cells;have hc:w.cell? ⟨c.gl,c.off+i,none⟩=some (.int .i64 (c.list[i])):=by rw[d.list.cell];omega
 have i0:0<=(i:Int):=o_;have i1:i<(c.list.length:Int):=o_;clear g hx y u d ok M;generalize c.list[i]=p at*;generalize str _=s at*;generalize str _=t at*;go_in;go_wp2_with fail;apply V.mono;rintro e u⟨rfl,u,u,R,m2⟩;have H:=J R;have u:=J m2;clear R m2 G b1 X U O Z b6 L b9 z B v A hc;obtain⟨G,b1,X,U,O,Z,b6,L,b9,z,B,v,A⟩:=H.cells;go_wp2_with fail;apply(HC _).mono;rintro e y⟨rfl,rfl⟩;by_cases h0:i=0
 .subst h0;go_wp2_with fail;apply(C _).mono;rintro e y⟨rfl,f⟩;have M:=J (H.below f);have G:=J (u.below f);clear f;go_wp2;go_ret2;exact⟨rfl,_,_,M,G⟩
 .have q:decide (1<=(i:Int))=true:=o_;have z:IntKind.i64.wrap (i-1)=(i-1:Nat):=by rw[IntWalk.i64_in _ o_];omega
  rw[if_neg h0]at C;go_wp2_with fail;apply(C _).mono;rintro e y⟨rfl,f⟩;have M:=J (H.below f);have G:=J (u.below f);clear f;go_wp2;go_ret2;exact⟨rfl,_,_,M,G⟩
end
end Tc
namespace Tc
open List Go.RowKit Base Go.Maps Go.WideMaps Go.Proofs.Tryz
structure ji(gc gt:Nat)(h m:Int)(kv:Value)(w w':World)(kv':Value)(os':List Int):Prop where
 box:aa w' gc 274 (gB kv' gt h m)
 ord:Ints w' kv' os'
 ax:aq (λk=>k=gc\/kv.ownBlock=some k) w w'
 sub:∀k,kv'.ownBlock=some k->kv.ownBlock=some k\/w.heap.size<=k
section
variable{gc gt:Nat}{h m:Int}{kv kv1 kv2:Value}{w w1 w2 w3:World}{os os1 os2:List Int}
def ji.start(b:aa w gc 274 (gB kv gt h m))(hi:Ints w kv os):ji gc gt h m kv w w kv os:=⟨b,hi,aq.refl _ _,λ_ e=> .inl e⟩
def ji.ne(o:ji gc gt h m kv w w1 kv1 os1):kv1.ownBlock≠some gc:=o.ord.ne o.box d_
def ji.next(o:ji gc gt h m kv w w1 kv1 os1)(d:E w1 w2)(g:Ints w3 kv2 os2)(ht:aq (λk=>kv1.ownBlock=some k) w2 w3)(hk:∀k,kv2.ownBlock=some k->kv1.ownBlock=some k\/w2.heap.size<=k) :
 aa w3 gc 274 (gB kv1 gt h m)/\ji gc gt h m kv w (w3.setCell (M gc 1) kv2) kv2 os2:=by
 have r:=d.size;have n:=o.ax.size;have c:=o.box.under d;have b:=c.ax ht o.ne;refine⟨b,b.set 1 _,g.same λk e=>Below.heap_setCell _ _ _ k λq=>g.ne b d_ r_,?_,λk e=> ?_⟩
 .have t2:=o.ax.trans (aq.below d);have p:aq (λk=>k=gc\/kv.ownBlock=some k) w _:=⟨ht.os.trans t2.os,ht.tape.trans t2.tape,ht.output.trans t2.output,aF o_ ht.size,λk hk f=>(ht.block k o_ (λe=>by
   obtain q|q:=o.sub k e
   .grind
   .omega)).trans (t2.block k hk f)⟩
  exact p.trans (.set _ _ _ (.inl rfl))
 .obtain q|q:=hk k e
  .exact o.sub k q
  omega
end
def uU(gc gt:Nat)(h m:Int)(d:Value)(os:List Int)(i:Int)(w:World)(e:Ending)(w':World):Prop:=e = .returned (.tuple #[])/\∃c b,ji gc gt h m d w w' c b/\(∀x,x∈b↔x=i\/x∈os)/\b.length<=os.length+1/\(i∈os->b.length=os.length)
def IT{os:List Int}{k i}(hk:os[k]? = some i) x:x∈i::(os.take k++os.drop (k+1))↔x=i\/x∈os:=by
 obtain⟨b,rfl⟩:=aO hk;have e:x∈os↔x∈os.take k++os.drop k:=o_
 rw[e,drop_eq_getElem_cons b,mem_cons,mem_append,mem_append,mem_cons];grind
def rb{gc gt h m d w os}(N:aa w gc 274 (gB d gt h m))(hi:Ints w d os)(hk:os.length<=8) i :
 Calls prog 362 #[Y gc 0,I i] w (uU gc gt h m d os i w):=by
 have HQ:Kp (∀w' y g,ji _ _ h m d w _ y g->(∀x,x∈g↔x=i\/x∈os)->g.length<=os.length+1->(i∈os->g.length=os.length)->uU gc gt h m d _ i w _ w'):=λw' y g h1 h2 n u=>⟨rfl,y,g,h1,h2,n,u⟩;have L:=J (JJ hi i);have O:=J (ji.start N hi);have c1:C w _ 1 d:=N.cell 1;generalize uU _ _ h m d _ i w=Q at*;have s:Kp (∀ p c b,ji gc gt h m d w p c b->b.length<=8->Calls _ _ _ _ _):=(λp c b o u=>by
  have u:=o.ord.same (w':=p.alloc (.cells #[I i] 3)) (λk e=>Below.heap_alloc p _ k (o.ord.lt e));exact JV u (aa.new p _ _) (λe=>by have:=o.ord.lt e;omega) o_)
 have u:Kp (∀ p r c f b,ji _ _ h m d w p c b->qG c (p.alloc (.cells #[I i] 3)) _ (.returned f) r->aa r _ _ _/\ji gc gt h m d w _ f (i::b)):=(λp r c f b o y=>by
  obtain⟨z,e,h1,h2,n⟩:=y;injection e with e;subst e;exact o.next (bR.alloc o_ _) h1 h2 n)
 obtain⟨H,hx⟩|⟨k,V,hx,z⟩:=JH os i
 .rw[hx]at L;have T:=J H;have X:=J (s w d _ O hk);clear N hi H hx;go_in;go_wp2_with fail;apply L.mono;rintro e w'⟨rfl,rfl⟩;go_wp2_with fail;apply X.mono;rintro e r⟨f,rfl,h1,h2,n⟩;obtain⟨A2,c2,rfl⟩:=h1.form;obtain⟨v,D⟩:=u w r d _ _ O ⟨_,rfl,h1,h2,n⟩;have f3:=v.free 1;have c3:C r _ 1 d:=v.cell 1;have B:=J (HQ _ _ _ D (λx=>mem_cons) s_ (λh=>absurd h T));clear h1 h2 n v D c1;go_wp2;first|exact B|(go_end0;exact B)
 .rw[hx]at L;have y:=J (ID hi V);have E:IntKind.i64.wrap (k+1)=(k+1:Nat):=by rw[IntWalk.i64_in _ o_];omega
  have q:=J (show(os.take k++os.drop (k+1)).length+1=os.length by simp;omega);have F:=J (IT z);generalize os.take k++os.drop _=b at*;obtain⟨n1,G⟩:=e_ b.length;have E:=J G;clear N hi hx z G;go_in;go_wp2_with fail;apply L.mono;rintro e w'⟨rfl,rfl⟩;go_wp2_with fail;apply y.mono;rintro e y⟨c,rfl,h1,h2,n⟩;obtain⟨A1,z,rfl⟩:=h1.form;rw[E]at*;obtain⟨R,Z⟩:=O.next bR h1 h2 n;have z:=R.free 1;have c2:C y _ 1 d:=R.cell 1;have W:=J Z;clear h1 h2 n R Z c1;go_upto_region 3 with fail
  clear z c2;generalize y.setCell _ _=A at*;have c2:C A _ 1 _:=W.box.cell 1;have X:=J (s A _ _ W (by have:=q.o;omega));go_wp2_with fail;apply X.mono;rintro e r⟨f,rfl,h1,h2,n⟩;obtain⟨A2,y,rfl⟩:=h1.form;obtain⟨v,D⟩:=u A r _ _ _ W ⟨_,rfl,h1,h2,n⟩;have f3:=v.free 1;have c3:C r _ 1 _:=v.cell 1;have B:=J (HQ _ _ _ D F (by have:=q.o;grind) (λ_=>by rw[length_cons];exact q));clear h1 h2 n v D c2;go_wp2;first|exact B|(go_end0;exact B)
def RD w:(zeroValue 9).run prog w = .ok (T ⟨#[]⟩) w:=k_
def xy i(hi:i<4096):keyOf prog 3 (.int .i64 (i:Nat))=some (.int .i64 (i:Nat)):=keyOf_int_mk underlying3 (WalkArith.wf_i64 o_)
section
variable{c:dd}{w w':World}{r fe h m h' m':Int}{kv kv':Value}{os os':List Int}{n n':Nat}{D D':DataW Value}
def wU{gc gt:Nat}(b:aa w gc 274 (gB kv gt h m)):Calls prog 179 #[Y gc 0] w λe w'=>e = .returned (.bool true)/\w=w':=by
 have c0:C w _ 0 (I 8):=b.cell 0;go_in;go_wp2;go_ret;simp
def bT.look(d:bT c w r fe kv os D n h m){i:Nat}(hi:i<4096):∃(s:ByteArray),(Instr.lookup 272 (.map (some c.gt)) (.int .i64 (i:Nat)) true).run prog w = .ok (.tuple #[.string s,.bool (has D (.int .i64 (i:Nat)))]) w/\(has D (.int .i64 (i:Nat))=true->c.tx i=some s/\(i:Int)∈os):=by
 obtain⟨v,h1,h2,u⟩:=d.map.look lL underlying272 (RD w) (xy i hi);rcases f:has D _ with _|_
 .grind
 .obtain⟨j,s,_,g,q,p⟩:=d.ok.ok _ f;have b:D.atKey _ (.held (.string ⟨#[]⟩)) = .held _:=p;rw[h2]at b;injection b with b;subst b;rw[f]at h1;injection g with _ g;have:i=j:=o_;subst this;obtain⟨x,hx,e⟩:=d.keys.1 _ f;grind
def bT.tR(d:bT c w r fe kv os D n h m)(ht:aq (λj=>j=c.gc\/j=c.gt\/kv.ownBlock=some j) w w')(v:aa w' c.gc 274 (gB kv' c.gt h' m'))(p:Ints w' kv' os')(s:os'.length<=8)(g:sr D' os')(u:aY w' 3 c.gt n' D')(f:jL D' c.tx)(hk:∀j,kv'.ownBlock=some j->kv.ownBlock=some j\/w.heap.size<=j) :
 bT c w' r fe kv' os' D' n' h' m'/\Mv (c.F kv) w w' (c.F kv'):=by
 have hd:∀{j}{t}{cs:AV},aa w j t cs->t≠274->t≠3->¬(j=c.gc\/j=c.gt\/kv.ownBlock=some j):=λb h1 h2 q=>q.elim (aa.ne b d.cache h1) λq=>q.elim (aY.ne b d.map) (d.order.ne b h2);exact d.next ht (λj e=>e.elim (λe=> .inr (.inr (.inl e))) λe=>e.elim (λe=> .inr (.inr (.inr (.inl e)))) λe=> .inr (.inr (.inr (.inr e)))) (d.dev.ax ht (hd d.dev d_ d_)) (d.box.ax ht (hd d.box d_ d_)) v p s g u f hk
def bT.tick(d:bT c w r fe kv os D n h m)(b:aa w' c.gc 274 (gB kv c.gt h' m'))(ht:aq (·=c.gc) w w'):bT c w' r fe kv os D n h' m'/\Mv (c.F kv) w w' (c.F kv):=
 d.tR (ht.more λj e=> .inl e) b (d.order.same λj e=>ht.block j (d.order.lt e) (λq=>d.order.ne d.cache d_ (q▸e))) d.dw d.keys (d.map.same (ht.block _ (aY.lt d.map) (λq=>aY.ne d.cache d.map q.symm))) d.ok (λj e=> .inl e)
def bT.ord(d:bT c w r fe kv os D n h m)(o:ji c.gc c.gt h m kv w w' kv' os')(g:os'.length<=8){i:Nat}(hi:i<4096)(f:∀x,x∈os'↔x=(i:Int)\/x∈os):bT c w' r fe kv' os' D n h m/\Mv (c.F kv) w w' (c.F kv'):=by
 refine d.tR (o.ax.more λj e=>e.elim .inl λe=> .inr (.inr e)) o.box o.ord g ⟨λkl b=> ?_,λx hx=> ?_⟩ (d.map.same (o.ax.block _ (aY.lt d.map) λq=> ?_)) d.ok o.sub
 .obtain⟨x,hx,e⟩:=d.keys.1 _ b;grind
 .rcases(f x).1 hx with rfl|hx
  .omega
  .exact d.keys.2 x hx
 .obtain q|q:=q
  .exact aY.ne d.cache d.map q.symm
  .exact tE d.order d.map q
def GO(d:bT c w r fe kv os D n h m){i:Nat}(hi:i<4096):Calls prog 353 #[Y c.gc 0,N i] w λe w'=>∃s b,e = .returned (.tuple #[T s,.bool b])/\(b=true->c.tx i=some s)/\∃p q h' m',bT c w' r fe p q D n h' m'/\Mv (c.F kv) w w' (c.F p):=by
 have H:=J (wU d.cache);obtain⟨s,f,z⟩:=d.look hi;have c2:C w _ 2 (.map _):=d.cache.cell 2;have c3:C w _ 3 (I h):=d.cache.cell 3;have u:C w _ 4 (I m):=d.cache.cell 4;have u:=d.cache.free 3;have u:=d.cache.free 4;rcases v:has D (.int .i64 i)with _|_
 .rw[v]at f;obtain⟨m',U⟩:=e_ (IntKind.i64.wrap (m+1));obtain⟨g,m1⟩:=d.tick (w':=w.setCell (M _ 4) (I m')) (d.cache.set 4 _) (.set _ _ _ rfl);have y:=J g;have B:=J m1;clear d g m1 z v;go_in;go_wp2_with fail;apply H.mono;rintro e w'⟨rfl,rfl⟩;go_wp2;go_ret2;exact⟨_,_,rfl,λe=>r_,_,_,_,_,y,B⟩
 .rw[v]at f;obtain⟨u,x⟩:=z v;have A:=J u;have E:=J x;obtain⟨h',R⟩:=e_ (IntKind.i64.wrap (h+1));obtain⟨g,m1⟩:=d.tick (w':=w.setCell (M _ 3) (I h')) (d.cache.set 3 _) (.set _ _ _ rfl);obtain⟨y,B,W⟩:=j3_ g m1 (rb g.cache g.order g.dw i);clear d g m1 z v u x;go_in;go_wp2_with fail;apply H.mono;rintro e w'⟨rfl,rfl⟩;go_wp2_with fail;apply W.mono;rintro e u⟨rfl,p,q,o,O,_,L⟩;obtain⟨G,m2⟩:=y.ord o (by rw[L E];exact y.dw) hi O;have X:=J G;have V:=J (B.trans m2);clear o O L G m2;go_wp2;go_ret2;exact⟨_,_,rfl,λ_=>A,_,_,_,_,X,V⟩
def JW A n c k(h:k<=c) W:(Instr.slice 84 (U A n c) none (some (N k)) none).run prog W = .ok (U A k c) W:=by
 have h1:k<=(c:Int):=o_;simp[go_sem,h]
def bT.NT(d:bT c w r fe kv os D n h m){i n1:Nat}{s:ByteArray}{p v:World}{f:Value}{b:List Int}(hi:i<4096)(z:c.tx i=some s)(g1:w.grownBy p (some c.gt))(m1:aY p 3 c.gt n1 (D.put (.int .i64 (i:Nat)) (.held (.string s))))(o:ji c.gc c.gt h m kv p v f b)(u:∀x,x∈b↔x=(i:Int)\/x∈os) :
 aq (λj=>j=c.gc\/j=c.gt\/kv.ownBlock=some j) w v/\aY v 3 c.gt n1 (D.put (.int .i64 (i:Nat)) (.held (.string s)))/\jL (D.put (.int .i64 (i:Nat)) (.held (.string s))) c.tx/\sr (D.put (.int .i64 (i:Nat)) (.held (.string s))) b/\∀j,f.ownBlock=some j->kv.ownBlock=some j\/w.heap.size<=j:=by
 have t1:aq (λj=>j=c.gc\/j=c.gt\/kv.ownBlock=some j) w p:=⟨g1.os,g1.tape,g1.output,g1.size,λk hk y=>g1.block k hk (λe=>y (.inr (.inl r_)))⟩;refine⟨t1.trans (o.ax.more λj e=>e.elim .inl λe=> .inr (.inr e)),m1.same (o.ax.block _ (aY.lt m1) λq=> ?_),d.ok.put hi z,⟨λkl g=> ?_,λx hx=> ?_⟩,λj e=> ?_⟩
 .obtain q|q:=q
  .exact aY.ne d.cache d.map q.symm
  .exact tE d.order d.map q
 .by_cases e:kl = .int .i64 (i:Nat)
  .grind
  .rw[has_put_other e]at g;obtain⟨x,hx,e⟩:=d.keys.1 _ g;grind
 .rcases(u x).1 hx with rfl|hx
  .omega
  .exact d.keys.2 x hx
 .obtain q|q:=o.sub j e
  .grind
  .have:=g1.size;omega
def IA{A n b w}(h:Ints w (U A b.length n) b)(d:b.length=9):∃(g:Nat)(x:Int),x∈b/\A=some ⟨g,0,none⟩/\8<=n/\C w g 8 (I x)/\Ints w (U A 8 n) (b.take 8)/\∀y∈b,y≠x->y∈b.take 8:=by
 obtain⟨e,h0⟩|⟨g,zs,e,p,ht,r⟩:=h
 .grind
 .injection e with s _ q;subst s q;have u:9<=zs.length:=r_
  have f:8<b.length:=o_;refine⟨g,_,gM f,rfl,o_,?_,.inr ⟨g,_,o_,p,?_,r⟩,λy c m=> ?_⟩
  .have:=xo p (k:=b.length) 8 (I b[8]) r_;omega
  .grind
  .have e:b=b.take 8++[b[8]]:=by
    rw[<-take_succ_eq_append_getElem,take_of_length_le o_]
   grind
end
section
variable{c:dd}{w w':World}{r fe h m h' m':Int}{kv kv':Value}{os os':List Int}{n n':Nat}{D D':DataW Value}
def uN(c:dd)(r p h m:Int)(g:Value)(w:World)(e:Ending)(w':World):Prop:=e = .returned (.tuple #[])/\∃b d n f,bT c w' r p b d n f h m/\Mv (c.F g) w w' (c.F b)
def GU(d:bT c w r fe kv os D n h m){i:Nat}{s:ByteArray}(hi:i<4096)(hs:c.tx i=some s):Calls prog 354 #[Y c.gc 0,.int .i64 (i:Nat),T s] w (uN c r fe h m kv w):=by
 have G:=J (wU d.cache);have HQ:Kp (∀w' L z u y,bT c _ r _ L z u y h m->Mv _ w _ _->uN c r fe h m kv w _ w'):=λw' L z u y h1 h2=>⟨rfl,L,z,u,y,h1,h2⟩;generalize uN c r _ h m _ w=Q at*;have y:=J d.map.tight;have u:=kp (show Maps.size D<maxLen from by
  have:=d.map.dw (N:=4096) (λkl hk=>by
   obtain⟨j,_,h1,h2,_⟩:=d.ok.ok _ hk;grind)
  unfold maxLen;omega)
 have c2:C w _ 2 (.map _):=d.cache.cell 2;have Hd:=J d;have O:=J hs;have c3:=J (xy i hi);clear d hs;go_in;go_wp2_with fail;apply G.mono;rintro e w'⟨rfl,rfl⟩;go_wp2_with(at_mapUpdate;apply wpList_mapUpdate_own _ rfl _ _ _ _ rfl 3 9 lL underlying272 _ _ _ D rfl y u (.int _ _) (T s) _ rfl rfl c3 _ _ rfl;intro y H u;have a5:=J H;have p:=J u;clear H u);have u:aq (·=c.gt) w y:=⟨p.os,p.tape,p.output,p.size,λk hk hn=>p.block k hk (λe=>hn r_)⟩;have G:=Hd.cache.ax u (λe=>aY.ne Hd.cache Hd.map e);have b9:=Hd.order.same (λk e=>u.block k (Hd.order.lt e) (λq=>tE Hd.order Hd.map (q▸e)));apply(rb G b9 Hd.dw _).mono;rintro e L⟨rfl,y,A,o,V,b3,_⟩;obtain⟨t2,m2,y,Z,z⟩:=Hd.NT hi O p a5 o V;obtain⟨A2,f,rfl⟩:=o.ord.form;have dw:=Hd.dw;have c0:C L _ 0 (I 8):=o.box.cell 0;have c1:C L _ 1 (U _ _ f):=o.box.cell 1;have O:=J o;have T2:=J t2;have M2:=J m2;have c7:=J y;have K2:=J Z;have S2:=J z;clear u G b9 o V t2 m2 y Z z c2;by_cases Z:A.length=9
 .obtain⟨g,x,hx,rfl,z,y,hcut,u⟩:=IA O.ord Z;have Hx:=J (K2.2 x hx);have a0:=J hcut;have e8:=J u;have H9:=J Z;rw[Z]at c1;have G:∀W,(Instr.slice _ _ _ (some (I 8)) _).run _ W = .ok _ W:=λW=>JW (some ⟨g,0,none⟩) 9 f 8 z W;clear hx hcut u Z b3;go_upto_region 3 with fail;go_quiet (fail);generalize B:L.drewN _=u at*;have b5:C u c.gc 0 (I 8):=by rw[<-B];exact c0
  have b1:C u c.gc 1 (U (some ⟨g,0,none⟩) 9 f):=by rw[<-B];exact c1
  have e0:C u g 8 (I x):=by rw[<-B];exact y
  have G:=J (show E L u by rw[<-B];exact below_drewN bR _);clear c0 c1 y B;go_upto_region 4 with fail;go_quiet (fail);generalize V:u.drewN _=u at*;have c0:C u c.gc 0 (I 8):=by rw[<-V];exact b5
  have c1:C u c.gc 1 (U (some ⟨g,0,none⟩) 9 f):=by rw[<-V];exact b1
  have z:=J (show E L u by rw[<-V];exact G.trans ((below_drewN bR _).mono G.size));have y:=O.box.under z;have i4:=a0.same (λk e=>z.block k (a0.lt e));rw[H9]at y;have f4:=y.free 1;have d0:=J z.drew;have G:Kp (aa u.drew _ _ _):=y;have I5:Kp (Ints u.drew _ _):=i4;clear y i4 b5 b1 e0 V;have y:u.drew.frozen? (M _ 1)=false:=f4;clear f4;go_upto_region 5 with fail;apply wp_region_noPanic;refine uG (t:=12) (S:=(λw'=>(C w' _ 0 _/\C w' _ 1 _)/\w'.frozen? _=false)) k_ ⟨⟨c0,c1⟩,y⟩ (λb=> ?_);generalize u.drew=wd at*;apply tu 0 b;apply tu 1 b;apply tu 2 b;apply tu 3 b;apply tu 4 b;apply tu 5 b;apply tu 6 b;apply tu 7 b;apply tu 8 b;apply tu 9 b;apply tu 10 b;apply tu 11 b;refine zg (o:= ?op12) k_ ?ap12 ⟨k_,k_⟩ (λK hK=> ?bp12)
  case ap12=>rfl
  go_simp;apply hK.out _ _;clear hK K b;apply NoPanic.normal
  clear c0 c1 y;have z:∀k,k≠c.gc->(wd.setCell _ (U (some ⟨g,0,none⟩) 8 f)).heap[k]? = wd.heap[k]?:= λk hk=>Below.heap_setCell _ (M c.gc 1) _ k hk;have B6:Kp (aa (wd.setCell (M _ 1) _) _ _ (gB (U (some ⟨g,0,none⟩) 8 f) _ h m)):=G.set 1 _;have V:=J (I5.same λk e=>z k λq=>I5.ne G d_ (q▸e));have u:c.gt≠c.gc:=λe=>aY.ne Hd.cache Hd.map e.symm;have M6:=J (M2.same ((z _ u).trans (d0.block _ (aY.lt M2))));have T6:Kp (aq (λj=>j=c.gc\/j=c.gt\/kv.ownBlock=some j) w (wd.setCell (M c.gc 1) (U (some ⟨g,0,none⟩) 8 f))):=(T2.trans (aq.below d0)).trans (.set _ _ _ (.inl rfl));generalize wd.setCell _ _=w6 at*;obtain⟨y,rfl⟩:∃y:Nat,x=y:=⟨x.toNat,by have:=Hx.o;omega⟩;have e2:=J (xy y (by have:=Hx.o;omega));have c2:C _ _ 2 (.map _):=B6.cell 2;clear z u G I5;go_wp2_with(at_delete;apply wpList_delete_own _ rfl _ _ _ 3 rfl 9 lL underlying272 _ _ _ _ rfl M6 (.int _ _) _ rfl e2;intro z v u;have a6:=J v;have G:=J u.grown;clear v u);have u:aq (·=c.gt) _ z:=⟨G.os,G.tape,G.output,G.size,λk hk hn=>G.block k hk (λe=>hn r_)⟩;have G:=B6.ax u (λe=>aY.ne B6 M6 e);have i7:=V.same (λk e=>u.block k (V.lt e) (λq=>tE V M6 (q▸e)));obtain⟨d7,v7⟩:=Hd.tR (T6.trans (u.more λj e=> .inr (.inl e))) G i7 o_ ⟨λkl R=>(by
   by_cases e:kl = .int .i64 (y:Nat)
   .subst e;rw[has_del_same]at R;cases R
   .rw[has_del_other e]at R;obtain⟨y,z,V⟩:=K2.1 _ R;exact⟨y,e8 y z (λq=>e r_),V⟩),λy z=>K2.2 y (mem_of_mem_take z)⟩ a6 (c7.del _) S2
  have y:=J d7;have z:=J v7;clear u G i7 d7 v7
  first|exact HQ _ _ _ _ _ y z|(go_end0;exact HQ _ _ _ _ _ y z)
 .have q:decide (8<(A.length:Int))=false:=o_;obtain⟨u,y⟩:=Hd.tR T2 O.box O.ord o_ K2 M2 c7 S2;have z:=J u;have G:=J y;clear u y Z b3;go_upto_region 3 with fail;go_quiet (fail);have X:=J (below_drewN (ah L.heap.size L) nq);clear c0 c1;go_wp2;first|exact HQ _ _ _ _ _ (z.below X) (G.below X)|(go_end0;exact HQ _ _ _ _ _ (z.below X) (G.below X))
end
end Tc
namespace Tc
open List Go.RowKit Base Go.Maps Go.WideMaps Crc Pg Txt Go.Proofs.Tryz
def IX:∀(args:AV)(w:World),(callFunc 336 args).run prog w = .ok (.enter 336 args) w:=by
 simp
section
variable{c:dd}{w w':World}{r fe h m:Int}{kv:Value}{os:List Int}{n:Nat}{D:DataW Value}{F:Nat->Prop}
def eU.below{w w':World}{F:Nat->Prop}(g:eU c w F)(e:Below w.heap.size w w'):eU c w' F:=by
 obtain⟨r,f,b,os,D,n,h,m,d,rfl⟩:=g;exact⟨r,f,b,_,D,n,h,m,d.below e,rfl⟩
def QG(d:bT c w r fe kv os D n h m)(ok:c.Ok){i:Nat}(hi:i<c.list.length) :
 Calls Tryz.prog 335 #[.pointer (some ⟨c.gc,0,none⟩),.int .i64 (i:Nat),.func (.func 336) #[.pointer (some ⟨c.gp,0,none⟩)] #[]] w (nQ c (c.F kv) (.tuple #[.string (str (kU c.b i)),.int .i64 0]) w):=by
 have hi4:i<4096:=by
  have h1:=ok.len;have h2:=ok.sO;unfold Pg.pn at h1;omega
 have htx:c.tx i=some _:=if_pos hi;have HG:=J (GO d o_);have HF:=J (λW kv1 os1 h1 m1(d1:bT c W r fe kv1 os1 D n h1 m1)=>Nj d1 ok hi);have HP:=J (λW r1 fe1 kv1 os1 h1 m1(d1:bT c W r1 fe1 kv1 os1 D n h1 m1)=>GU d1 o_ htx);have hent:=IX;generalize str _=t at*;have HQ:Kp (∀w' r1 fe1 kv1 os1 D1 n1 h1 m1,bT c _ _ _ _ _ _ _ _ _->Mv _ w _ _->nQ c (c.F kv) (.tuple #[T t,I 0]) w _ w'):=λw' r1 fe1 kv1 os1 D1 n1 h1 m1 d1 v1=>⟨rfl,_,⟨r1,fe1,kv1,os1,D1,n1,h1,m1,d1,rfl⟩,v1⟩;have Htx:=J htx;generalize nQ c _ _ w=Q at*;clear d ok hi hi4 htx;go_in;go_wp2_with fail;apply HG.mono;rintro e w1⟨s,b,rfl,hb,kv1,os1,h1,m1,d1,v1⟩;cases b with
 |true=>
  have e:=(hb rfl).symm.trans Htx;injection e with e
  subst e;have Hf:=J (HQ _ _ _ _ _ _ _ _ _ d1 v1);clear d1 v1 hb;go_wp2;exact Hf
 |false=>
  have HF1:=J (HF _ _ _ _ _ d1);have V1:=J v1;clear d1 v1 hb
  go_wp2_with(simp only[hent])
  apply HF1.mono;rintro e w2⟨rfl,r2,fe2,d2,v2⟩;have HP2:=J (HP _ _ _ _ _ _ _ d2);have V2:=J (V1.trans v2);clear d2 v2;go_wp2_with fail;apply HP2.mono;rintro e w3⟨rfl,kv3,os3,D3,n3,d3,v3⟩;have Hf:=J (HQ _ _ _ _ _ _ _ _ _ d3 (V2.trans v3));clear d3 v3;go_wp2;exact Hf
def NK(v:eU c w F)(ok:c.Ok){i:Nat}(hi:i<c.list.length) :
 Calls prog 294 #[.pointer (some ⟨c.gp,0,none⟩),.int .i64 (i:Nat)] w (nQ c F (.tuple #[.string (str (kU c.b i)),.int .i64 0]) w):=by
 obtain⟨r,B,A,os,D,n,h,m,d,rfl⟩:=v;have x:=J (Dx d ok);have p:=J (QG d ok hi);obtain⟨M,z,N,y,E,C,R,L,I,s,f,q,u⟩:=d.cells;have O:decide ((i:Int)<0)=false:=o_;have G:decide (c.list.length<=i)=false:=o_;generalize str _=t at*;clear d ok;go_in;go_wp2_with fail;apply x.mono;rintro e w'⟨rfl,rfl⟩;go_wp2_with fail;apply p.mono;rintro e T⟨rfl,g,h1,h2⟩;go_wp2;go_ret2;exact⟨rfl,g,h1,h2⟩
def NN(hI:eU c w F)(ok:c.Ok){at_ k:Nat}(hk:at_+k<=c.b.length) :
 Calls prog 252 #[.pointer (some ⟨c.gp,0,none⟩),.int .i64 1,.int .i64 c.b.length,.int .i64 (at_:Nat),.int .i64 (k:Nat)] w (nQ c F (.tuple #[.string (str ((c.b.drop at_).take k)),.int .i64 0]) w):=by
 have U:=kp (λW m(u:eU c W m) i(hi:i<c.list.length)=>NK u ok hi);have g:=ok.len;have r:=ok.sO;unfold Pg.pn at g;have J:decide ((at_:Int)<0)=false:=o_;have M:decide ((k:Int)<0)=false:=o_;have z:decide ((c.b.length:Nat)<(at_:Int))=false:=o_;have y:decide (c.b.length<at_)=false:=o_;have E:IntKind.i64.wrap ((c.b.length:Nat)-at_)=(c.b.length-at_:Nat):=by rw[IntWalk.i64_in _ o_];omega
 have u:decide ((c.b.length-at_:Nat)<(k:Int))=false:=o_;have D:decide (c.b.length-at_<k)=false:=o_;have G:=kp hI;have L:=kp (Mv.start F w);clear hI ok;obtain⟨N,Y⟩:=e_ c.b.length;have O:=kp Y;rw[Y]at hk g r z y E u D⊢;clear Y;go_in;go_wp2;clear J M z y E u D;go_loopw [12] (λp wr=>∃(o:Nat)(m:Nat->Prop),o<=k/\p = .string (str ((c.b.drop at_).take o))/\Kp (eU c wr m)/\Kp (Mv F w wr m)) (λp _=>k-rW p)
 case atStart=>exact⟨0,F,o_,rfl,G,L⟩
 .obtain⟨o,m,u,rfl,J,M1⟩:=hrel;have z:=kp (show(str ((c.b.drop at_).take o)).size=o by rw[dR,length_take,length_drop,O];omega);by_cases u:o<k
  .obtain⟨s1,s2,I,M,D⟩:=Q6 _ (by rw[O];omega) u;obtain⟨q,y⟩:=e_ ((at_+o) / 246);obtain⟨rm,s⟩:=e_ ((at_+o) % 246);have H:=Nat.div_add_mod (at_+o) 246;have u:=Nat.mod_lt (at_+o) (show 0<246 by decide);rw[y,s]at H s2 I M D;rw[y]at s1;rw[s]at u;have u:(at_+o) / 246=(q:Int):=o_
   have u:(at_+o) % 246=(rm:Int):=o_
   have v:=kp (U _ m J (q+1) o_);rw[show kU _ _=di _ q from rfl,show(q+1:Nat)=1+(q:Int) by omega]at v;obtain⟨u,d⟩:=e_ ((di c.b q).length);rw[d,O]at s1;rw[d]at s2;have V:=kp (λW=>pC (di c.b q) rm _ rfl o_ W);obtain⟨cl,f⟩:=e_ (((di c.b q).drop rm).length);have E:cl=u-rm:=r_
   rw[f]at I M D;obtain⟨mn,x⟩:=e_ (min cl (k-o));rw[x]at I M D;have X:=kp (λW=>qY ((di c.b q).drop rm) mn _ rfl o_ W);have a4:=kp (show str _++str _=str _ by rw[lS,I]);have L:=kp (show(str _).size=u by rw[dR,d]);have Z:=kp (show(str _).size=cl by rw[dR,f]);have U:Kp (rW (.string (str ((c.b.drop at_).take (o+mn))))=o+mn):=(by show(str _).size=_;rw[dR,length_take,length_drop,O];omega);have D:IntKind.i64.wrap _=at_+o:=IntWalk.i64_in _ o_;have D:IntKind.i64.wrap _=1+q:=IntWalk.i64_in _ o_;have D:IntKind.i64.wrap _=q*246:=IntWalk.i64_in _ o_;have wd:IntKind.i64.wrap _=N-q*246:=IntWalk.i64_in _ o_;have D:min 246 (N-(q:Int)*246)=u:=o_
   have wf:IntKind.i64.wrap _=k-o:=IntWalk.i64_in _ o_;have D:min (cl:Int) (k-o)=mn:=o_
   have T:=kp (show(str _).extract 0 _=str (((di c.b q).drop rm).take mn) by rw[pG,ig];rfl);clear y s s1 I H f x;generalize y:str ((c.b.drop _).take o)=A at*;generalize hB:str (di _ q)=B at*;generalize O:str ((di _ q).drop _)=C at*;generalize hE:str (((di _ q).drop _).take _)=E at*;generalize D:str ((c.b.drop _).take (o+mn))=G at*;have E:=V.o;have E:=L.o;have E:=Z.o;have V:=z.o;have R:=a4.o;have L:Kp _:=D.symm;clear y hB O hE D;go_wp2_with fail;apply v.o.mono;rintro e D⟨rfl,G,D,m2⟩;have E:=kp D;have O:=kp (M1.o.trans m2);clear D m2;go_wp2;have D:(min (((u-rm:Nat)):Int) (k-o)).toNat=mn:=o_
   rw[D,T,R];exact⟨⟨_,G,M,by rw[L],E,O⟩,by rw[U];show _<k-A.size;omega⟩
  .obtain rfl:o=k:=o_
   have V:=z.o;generalize y:str _=A at*;clear y;go_wp2;go_ret2;exact⟨rfl,m,J,M1⟩
def Ng(q:eU c w F)(ok:c.Ok){at_ k:Nat}(hk:at_+k<=c.b.length) :
 Calls Tryz.prog 190 #[.pointer (some ⟨c.gp,0,none⟩),.int .i64 (at_:Nat),.int .i64 (k:Nat)] w (nQ c F (.tuple #[.string (str ((c.b.drop at_).take k)),.int .i64 0]) w):=by
 have A:=J (λW(z:E w W)=>NN (q.below z) ok hk);have G:=J (λW=>oF 1 W d_);rw[show gP 1=1 from rfl]at G;have u:=J (λW(z:E w W)=>q.below z);obtain⟨r,T,B,os,D,n,h,m,d,rfl⟩:=q;have z:=J (Dx d ok);obtain⟨b0,O,b2,N,L,H,b6,Z,Y,x,u,v,y⟩:=d.cells;have R:Kp (∀W M,eU c W M->C W _ 4 _/\C W _ 5 _):=(λW M q=>by
  obtain⟨r,T,B,os,D,n,h,m,d,rfl⟩:=q;exact⟨d.cells.2.2.2.2.1,d.cells.2.2.2.2.2.1⟩)
 generalize str _=t at*;clear d ok hk;go_in;go_wp2_with fail;apply z.mono;rintro e w'⟨rfl,rfl⟩;go_upto_region 4 with fail;apply wp_region_noPanic;refine br (t:=99) (S:=(λw'=>C w' _ 4 _/\C w' _ 5 _)) k_ ⟨L,H⟩ (λf=> ?_);have p:Kp (E w _):=bR.drew;generalize w.drew=wd at*;apply tD 0 1 2 3 f;apply tD 4 5 7 8 f;apply tD 9 10 11 12 f;apply tk 13 f;refine oT 6 (λK hK=> ?_);go_simp;apply(G _).mono;rintro e z⟨rfl,rfl⟩;try go_simp
 refine oK hK ?_ (λg=> ?_)
 . omega
 clear hK K f;clear g;refine oT 14 (λK hK=> ?_);go_simp;apply(A _ p).mono;rintro e z⟨rfl,X,s,m2⟩;try go_simp
 refine oK hK ?_ (λg=> ?_)
 .exact R _ _ s
 clear hK K;have f:=g;clear g;apply tD 15 16 17 18 f;refine bQ k_ ?_ _;try clear f
 apply NoPanic.normal;have U:=J s;have V:=J (((Mv.start _ w).below p).trans m2);clear s m2 b0 O b2 N L H b6 Z Y x u v y;go_wp2;go_ret2;exact⟨rfl,X,U,V⟩
end
end Tc
end Go.Proofs.YtibjlpkpljnicaaGreatDoor
