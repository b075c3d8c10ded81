/- Parts. -/
import Derived.Test.YtibjlpkpljnicaaGreatDoorR35
import Derived.Test.YtibjlpkpljnicaaGreatDoorR36
import Derived.Test.YtibjlpkpljnicaaGreatDoorR42
import Derived.Test.YtibjlpkpljnicaaGreatDoorR48
import Derived.Test.YtibjlpkpljnicaaGreatDoorR49
set_option maxRecDepth 100000
set_option maxHeartbeats 8000000
set_option linter.all false
namespace Go.Proofs.YtibjlpkpljnicaaGreatDoor
namespace Tc
open List Go.RowKit Base Go.Maps Go.WideMaps Crc Pg Go.Proofs.Tryz
def uJ(w:World)(e:Ending)(w':World):Prop:=∃gc gt:Nat,e = .returned (.tuple #[Y gc 0,I 0])/\aa w' gc 274 (gB (Z) gt 0 0)/\aY w' 3 gt 0 (.map [])/\w.heap.size<=gc/\w.heap.size<=gt/\E w w'
def GQ w:Calls prog 82 #[I 8] w (uJ w):=by
 have b:=@run_makeMap prog;have e:Kp (∀gc gt w',aa _ _ _ _->aY _ 3 _ 0 _->w.heap.size<=gc->w.heap.size<=gt->E w _->uJ w _ w'):=λgc gt w' h1 h2 f c d=>⟨_,_,rfl,h1,h2,f,c,d⟩;generalize g:uJ w=Q at*;clear g;go_in;go_wp2;exact e _ _ _ (by simpa using aa.new (w.alloc _) _ _) ((World.ownsMap_made _ _ _ _).alloc _) o_ o_ ((bR.alloc o_ _).alloc s_ _)
def GN{w gc gt h m}(c:aa w gc 274 (gB (Z) gt h m))(s:aY w 3 gt 0 (.map [])) :
 Calls prog 98 #[Y gc 0] w λe w'=>e = .returned (.tuple #[])/\aa w' gc 274 (gB (Z) gt h m)/\aY w' 3 gt 0 (.map [])/\aq (λk=>k=gc\/k=gt) w w':=by
 obtain⟨r,cl,b,q,g,n⟩:=s;have v:r=#[]:=r_
 subst v;have f:gc≠gt:=λe=>by
  subst e;have h1:=Option.some.inj (c.symm.trans b);cases h1
 have d:=(Array.getElem?_eq_some_iff.1 b).1;have p:({ w with heap:=w.heap.setIfInBounds gt (.map #[] cl) })=w:=by
  have:w.heap.setIfInBounds gt (.map #[] cl)=w.heap:=r_
  rw[this]
 have z:(Builtin.clear_ #[272] 0 #[.map (some gt)]).run prog w = .ok (.tuple #[]) w:=by
  simp[Builtin.clear_,Go.MapKept.run_getObj_map b,Go.MapKept.run_setObj_map _ b,p]
 have u:=J (wU c);have x:Kp (aa (w.setCell (M _ 1) _) _ _ (gB Z _ h m)):=c.set 1 _;have y:Kp (aY (w.setCell (M _ 1) Z) 3 _ 0 _):=aY.same ⟨_,_,b,q,g,n⟩ (Below.heap_setCell w _ _ _ (λe=>f e.symm));have c2:C w _ 2 (.map _):=c.cell 2;have c1:C w _ 1 Z:=c.cell 1;have A:=c.free 1;clear c b q g n p f d;go_in;go_wp2_with fail;apply u.mono;rintro e w'⟨rfl,rfl⟩;go_wp2;go_end0;exact⟨rfl,x,y,.set _ _ _ (.inl rfl)⟩
def eM.aJ{w gr gw b}(h:eM w gr gw b){p}(h1:gr≠p.block)(h2:gw≠p.block) v:eM (w.setCell p v) gr gw b:=⟨h.box.aJ h1 v,h.words.aJ h2 v,h.len,h.fits,h.ne⟩
structure lB(s:Dv.Dv):Prop where
 sec:s.sec=replicate 500 Dv.iL
 puts:s.puts=[]
 fuse:s.fuse=0
 off:s.off=false
 reads:s.reads<=10
 steps:s.steps=0
section
variable{B d gs c:Nat}{F:Nat->Prop}{pv:Value}{s:Dv.Dv}{w:World}
def lB.read(h:lB s)(b:s.reads<=9):lB (Dv.kb s):=⟨h.sec,h.puts,h.fuse,h.off,by show s.reads+1<=10;omega,h.steps⟩
def lB.shown(h:lB s){i:Nat}(hi:i<500):Dv.shown s.sec s.puts i=str nine:=by
 rw[h.puts,Dv.Eo _ _ _ (λp b=>r_),h.sec,getD_eq_getElem?_getD,getElem?_replicate,if_pos hi];rfl
def JD(h:Dv.aX w B F d gs c pv s)(b:lB s)(u:s.reads=0) :
 Calls prog 79 #[Y d 0] w λe w'=>e = .returned (.tuple #[T (str nine),T (str nine),I 0])/\Dv.aX w' B F d gs c pv (Dv.kb (Dv.kb s))/\aq (·=d) w w':=by
 have x:s.sec.length=500:=by rw[b.sec,length_replicate]
 have n:=J (Dv.DP h b.off o_ 0 o_);have g:=J (λW(h1:Dv.aX W B F d gs c pv _)=>Dv.DP h1 (b.read o_).off (by show s.reads+1<_;omega) 1 (by show 1<s.sec.length;omega));rw[b.shown d_]at n;have m:=(b.read o_).shown (i:=1) d_;rw[m]at g;clear h b u x m;generalize str _=S at*;go_in;go_wp2_with fail;apply n.mono;rintro e q⟨rfl,h1,t1⟩;have f:=J (g q h1);have r:=J t1;clear h1 t1;go_wp2_with fail;apply f.mono;rintro e z⟨rfl,h2,t2⟩;have y:=J h2;have p:=J (r.trans t2);clear h2 t2;go_wp2;refine bodyPost_ret ?_ rfl ⟨rfl,y,p⟩;simp[results,go_sem]
abbrev qa(d gr gc:Nat):AV:=#[Y d 0,I 0,I 0,I 0,I 0,I 0,I 0,Z,Z,Y gr 0,Y gc 0,I 0,.bool false]
structure me(w:World)(gp d gr gw gc gt:Nat):Prop where
 box:aa w gp 176 (qa d gr gc)
 room:eM w gr gw mu
 cache:aa w gc 274 (gB (Z) gt 0 0)
 map:aY w 3 gt 0 (.map [])
def vy(B:Nat)(F:Nat->Prop)(d gs c:Nat)(pv:Value)(w:World)(e:Ending)(w':World):Prop:=∃(gp gr gw gc gt:Nat)(s:Dv.Dv),e = .returned (.tuple #[Y gp 0,I 0])/\me w' gp d gr gw gc gt/\lB s/\Dv.aX w' B F d gs c pv s/\(∀k,k=gp\/k=gr\/k=gw\/k=gc\/k=gt->w.heap.size<=k)/\aq (·=d) w w'
def rG(h:Dv.aX w B F d gs c pv s)(hn:lB s)(hr:s.reads=0) :
 Calls prog 37 #[Y d 0] w (vy B F d gs c pv w):=by
 have u:s.sec.length=500:=by rw[hn.sec,length_replicate]
 have D:=h.box;rw[u]at D;have E:=J (λW(h1:Dv.aX W B F d gs c pv _)=>show Calls _ _ _ W λe w'=>e = .returned (I 500)/\W=w' by
  have D:=h1.box;have h2:(Dv.kb (Dv.kb s)).sec.length=500:=u;rw[h2]at D;exact Dv.yO d _ _ c _ _ _ _ _ W D d_ d_)
 have H:=J (Dv.yO d _ _ c _ _ _ _ _ w D d_ d_);have y:=J (JD h hn hr);have z:=J (λw=>Dt 500 w);rw[show Pg.ue _=249 by decide]at z;obtain⟨HR,HC,HX,G⟩:=j4_ OS GQ PL ((hn.read o_).read (by show s.reads+1<=9;omega));have HQ:Kp (∀gp gr gw gc gt w',me _ _ d _ _ _ _->Dv.aX _ B F d _ c _ _->(∀k,k=gp\/k=gr\/k=gw\/k=gc\/k=gt->w.heap.size<=k)->aq _ w _->vy B F d gs c pv w _ w'):=λgp gr gw gc gt w' h1 h2 L O=>⟨_,_,_,_,_,_,rfl,h1,G,h2,L,O⟩;generalize vy B F d _ c _ w=Q at*;generalize str _=S at*;clear h hn hr u D G;go_in;go_wp2_with fail;apply H.mono;rintro e w'⟨rfl,rfl⟩;go_wp2_with fail;apply y.mono;rintro e b⟨rfl,h1,t1⟩;have r:=(ah _ b).alloc (ae _) (.cells #[Y d 0,I 0,I 0,I 0,I 0,I 0,I 0,Z,Z,.pointer none,.pointer none,I 0,.bool false] 176);obtain⟨x,H2,T2⟩:=j3_ (aa.new b 176 #[Y d 0,I 0,I 0,I 0,I 0,I 0,I 0,Z,Z,.pointer none,.pointer none,I 0,.bool false]) (h1.below r) (t1.trans (.below r));generalize a4:b.alloc _=u at*;have N:=J (E u H2);have a6:Kp _:=t1.size;obtain⟨H1,T1,O⟩:=j3_ h1 t1 r;clear h1 t1 r E H y;go_wp2_with fail;apply N.mono;rintro e w'⟨rfl,rfl⟩;go_wp2_with fail;apply(z _).mono;rintro e w'⟨rfl,rfl⟩;go_wp2_with fail;apply(HR _).mono;rintro e D⟨gr,gw,rfl,U,L,V,v⟩;have G:=ay O v;have q:=bu x v;have E:=J U;have b2:=x.lt;have y:gr≠b.heap.size:=o_;have A:gw≠b.heap.size:=o_;have k9:=q.cell 9;have f9:=q.free 9;have C:Kp (aa (D.setCell (M _ 9) _) _ _ #[Y d 0,I 0,I 0,I 0,I 0,I 0,I 0,Z,Z,Y gr 0,.pointer _,I 0,.bool _]):=q.set 9 _;have z:=J (G.setCell o_ (p:=(M b.heap.size 9)) (Y gr 0));have R:=J (E.aJ (p:=(M b.heap.size 9)) y A (Y gr 0));have Zr:=J (And.intro L V);clear v U O x H2 T2 N HR L V;clear a4;go_upto_region 8 with fail;clear k9 f9 q G E;generalize D.setCell _ _=G at*;go_wp2_with fail;apply(HC _).mono;rintro e u⟨gc,gt,rfl,T,V,E,D,g⟩;have X:=ay z g;have n:=bu C g;have L:=C.lt;have G:=n.cell 10;have U:=n.free 10;have O:Kp (aa (u.setCell (M _ _) _) _ _ (qa d _ gc)):=n.set 10 _;obtain⟨m,a7,a8,L,Zc,Z4⟩:=j6_ (X.setCell o_ (p:=(M b.heap.size 10)) (Y gc 0)) ((R.under g).aJ (p:=(M b.heap.size 10)) y A (Y gc 0)) (T.aJ (p:=(M b.heap.size 10)) o_ (Y gc 0)) (aY.same V (Below.heap_setCell u (M b.heap.size 10) (Y gc 0) _ o_)) (And.intro E D) (And.intro z.size b2);clear g T V C z R E D y A;go_upto_region 9 with fail;clear G U n X;generalize u.setCell _ _=u at*;go_wp2_with fail;apply(HX _).mono;rintro e z⟨rfl,u⟩;have f:=J (u.alloc u.size (.cells jn 122));have y:=J (HQ _ _ _ _ _ _ ⟨O.under f,a7.under f,a8.under f,aY.same L (f.block _ (aY.lt L))⟩ (H1.below (m.trans (f.mono m.size))) (λk hk=>by
  have z:=a6.o;have z:=Zr.o;have z:=Zc.o;rcases hk with rfl|rfl|rfl|rfl|rfl<;>omega) (T1.trans (.below (m.trans (f.mono m.size)))))
 clear u HX HQ;go_wp2;exact y
end
end Tc
namespace Tc
open List Go.RowKit Base Crc Txt Pg Go.Proofs.Tryz
abbrev iA(l:List (List UInt8)):LV:=l.map λx=>Value.string (str x)
def jV(b:List UInt8):List (List UInt8):=(range (1+Pg.pn b.length)).map (iM b)
def IC b:(ie 67 0 [99] (Pg.pn 1)).map Value.string++(ie 78 0 b (Pg.pn b.length)).map Value.string=iA (jV b):=by
 unfold jV iA ie;rw[Nat.add_comm,range_succ_eq_map,map_map,map_map];simp[Pg.pn,iM,di]
def IB b:(jV b).length=1+Pg.pn b.length:=by unfold jV;simp
def MR b i:(iM b i).length=256:=by
 cases i with
 |zero=>rfl
 |succ i=>exact qb _ _ _ (by rw[rK];omega)
def vz(b:List UInt8)(n:Nat)(w:World)(e:Ending)(w':World):Prop:=∃(A1 A2:OA)(c1 c2:Nat)(maps:List (List UInt8)),e = .returned (.tuple #[U A1 (1+Pg.pn b.length) c1,U A2 n c2,I 0])/\Row w' w'.heap.size A1 (iA (jV b))/\Row w' w'.heap.size A2 (iA maps)/\maps.length=n/\(∀m∈maps,m.length=256)/\(∀k,cE A1 (iA (jV b)) k\/cE A2 (iA maps) k->w.heap.size<=k)/\E w w'
def No next l(h:l.length<=122):(str (Ch.piece next l)).size<=246:=by
 rw[dR];unfold Ch.piece;rw[aE,Ch.qT];simp[Ch.two];omega
def C' l:Ch.nums (l.map λ(k:Nat)=>(k:Int))=an l:=by
 unfold Ch.nums an;simp
def MT b own list A0 A1 c0 c1 w(hb:b.length<=49200)(h0:own.length<=50)(h1:list.length<=300)(d9:own.length<=c0)(d6:list.length<=c1)(b5:c1<=maxLen)(n:∀x,x∈own\/x∈list->x<2047)(r0:Row w w.heap.size A0 (an own))(r1:Row w w.heap.size A1 (an list))(hc:(own.length:Int)=Ch.count list.length) :
 Calls prog 95 #[T (str [99]),T (str b),U A0 own.length c0,U A1 list.length c1] w (vz b own.length w):=by
 obtain⟨i0,b6,b7,V,d5⟩:=info_parts Pg.pP;have L:=J (λw=>show Calls _ _ #[.int _ 67,I 0,T _] w λe w'=>∃v,e = .returned (.tuple #[v,I 0])/\w'.ownsRow _ 9 1 v (Pg.pn 1) ((ie _ 0 _ (Pg.pn 1)).map _)/\E w w' from Ez 67 0 [99] w d_ d_ d_ _ λv w' h1 h2=>⟨v,rfl,h1,h2⟩);have HN:=J (λw=>show Calls _ _ #[.int _ 78,I 0,T _] w λe w'=>∃v,e = .returned (.tuple #[v,I 0])/\w'.ownsRow _ 9 1 v _ _/\E w w' from Ez 78 0 b w d_ d_ o_ _ λv w' h1 h2=>⟨v,rfl,h1,h2⟩);have r:Ch.zn (own.map λ(k:Nat)=>k) (list.map λ(k:Nat)=>k):=by
  refine⟨λi hi x hx=> ?_,?_⟩
  .rw[getElem?_map]at hx;obtain⟨y,u,rfl⟩:=Option.map_eq_some_iff.1 hx;have:=n y (.inl (mem_of_getElem? u));omega
  .rw[all_eq_true];intro x hx;obtain⟨y,u,rfl⟩:=mem_map.1 hx;have:=n y (.inr u);simp[Ch.eP];omega
 have G:=J (λW(z:E w W)=>show Calls prog 172 #[U A0 own.length c0,U A1 list.length c1] W λe w'=>∃v,e = .returned (.tuple #[v,I 0])/\w'.ownsRow W.heap.size 9 1 v own.length ((Ch.iv (own.map λ(k:Nat)=>k) (list.map λ(k:Nat)=>k) own.length).map .string)/\E W w' by
  have:=Ch.Kl _ _ _ _ _ _ W o_ o_ o_ o_ b5 (λx hx=>by
   obtain⟨y,u,rfl⟩:=mem_map.1 hx;have:=n y (.inl u);unfold Ch.Bi;omega) (by rw[C'];exact(r0.below z).more z.size) (by rw[C'];exact(r1.below z).more z.size) o_ (λe w'=>∃v,e = .returned (.tuple #[v,I 0])/\w'.ownsRow W.heap.size 9 1 v own.length ((Ch.iv (own.map λ(k:Nat)=>k) (list.map λ(k:Nat)=>k) own.length).map .string)/\E W w') (λ_ v w' h1 h2=>⟨v,rfl,r_,h2⟩) (λi _ h=>absurd (Ch.Ry r i) h)
  grind)
 obtain⟨y,H⟩:=e_ (Ch.iv (own.map λ(k:Nat)=>k) (list.map λ(k:Nat)=>k) own.length);have z:y.length=own.length:=by rw[<-H,Ch.Kj]
 have D:∀s∈y,s.size<=246:=λs u=>by
  rw[<-H]at u;obtain⟨i,_,rfl⟩:=mem_map.1 u;exact No _ _ (by rw[Ch.sV];omega)
 rw[H]at G;have b2:=J (λi s w(hi:i<=50) u=>show Calls _ _ #[.int _ 77,N i,T s] w λe w'=>(e = .returned (.tuple #[T _,I 0])/\E w _)from rM 77 i s w d_ o_ u);obtain⟨d3,f1,HD⟩:=j3_ D z (IC b);have b4:Kp (∀u∈(ie 78 0 b (Pg.pn b.length)).map Value.string,u.oneCell'=true):=(λu u=>by
  obtain⟨x,_,rfl⟩:=mem_map.1 u;rfl)
 have u:Pg.pn b.length<=201:=by unfold Pg.pn;omega
 rw[show Pg.pn 1=1 by decide]at L HD;have HQ:Kp (∀(A1 A2:OA) c1 c2 maps w',Row _ _ _ _->Row _ _ _ _->maps.length=own.length->(∀m∈maps,m.length=256)->(∀k,cE _ _ k\/cE _ (iA maps) k->w.heap.size<=k)->E w _->vz b _ w _ w'):=λA1 A2 c1 c2 maps w' h1 h2 Z M O u=>⟨A1,A2,c1,c2,_,rfl,h1,h2,Z,M,O,u⟩;generalize vz b _ w=Q at*;generalize(ie _ 0 _ 1).map _=dC at*;generalize(ie _ 0 b _).map _=dN at*;generalize str _=M at*;generalize str b=M at*;clear hb d9 d6 b5 n r0 r1 hc r H D z h1;generalize D:list.length=nl at*;generalize z:own.length=n0 at*;generalize Pg.pn _=np at*;clear D z;go_in;go_wp2_with fail;apply(L _).mono;rintro e z⟨z,rfl,O,M⟩;go_wp2_with fail;apply(HN _).mono;rintro e w2⟨z,rfl,L,z⟩;have D:=J (M.trans (z.mono M.size));obtain⟨d8,d1,Z⟩:=j3_ (G _ D) (bS O z) (dZ L M.size);clear O L M z;go_wp2_with fail;apply d8.mono;rintro e G⟨z,rfl,X,L⟩;have M:=ay D L;have O:=J (bS d1 L);have c4:=J (bS Z L);obtain⟨A3,c3,rfl⟩:=cI X;have e6:=J (kG X);clear X L d8 d1 Z D;go_wp2;go_loopw [9,45] (λz Y wr=>∃(k:Nat)(A:OA)(c:Nat)(maps:List (List UInt8)),k<=n0/\maps.length=k/\(∀m∈maps,m.length=256)/\Y = N k/\z = U A k c/\wr.ownsRow G.heap.size 9 1 (U A k c) k (iA maps)/\E G wr) (λ_ Y _=>n0-(intOf Y).toNat)
 case atStart=>exact⟨0,_,0,[],o_,rfl,(λm z=>r_),rfl,rfl,World.ownsRow_nil _ _ _ _,bR⟩
 .obtain⟨k,A,c,maps,hk,z,B,rfl,rfl,R,E⟩:=hrel;obtain⟨C,D,c7,d0⟩:=j4_ R E z B;clear R E z B;by_cases n:k<n0
  .have z:k<y.length:=by rw[f1];omega
   obtain⟨E,E,Z,E,E⟩:=(e6.below D).at_ (by rw[lM];exact z);rw[getElem_map]at E;have L:=J (λw=>b2 k _ w o_ (d3 _ (gM z)));have b0:Kp ((pg 77 k _).length=256):=qb _ _ _ (d3 _ (gM z));generalize pg _ k _=m at*;generalize y[k]=s at*;have y:0<=(k:Int):=o_;have y:k<(n0:Int):=o_;rw[Z];go_wp2_with fail;apply(L _).mono;rintro e L⟨rfl,y⟩;have p:=J (bS C y);have z:=ay D y;clear y E;go_wp2_with(at_builtin;apply iP rfl _ _ _ rfl _ 9 _ _ _ underlying23 b6 b7 V d5 rfl L _ rfl (U A k c) k _ rfl p rfl o_ d_ z.size;intro v6 w6 d f;obtain⟨E,y,u⟩:=cI d;subst u;have g:=J d;have Z:=J (f.ew z p o_ z.size);clear d f);exact⟨⟨_,E,y,maps++[m],o_,by rw[aE,c7];rfl,(λx hx=>by
    obtain hx|hx:=mem_append.1 hx
    .exact d0 x hx
    .rw[mem_singleton.1 hx];exact b0),o_,rfl,by show World.ownsRow _ _ _ _ _ _ (List.map _ (maps++[m]));rw[map_append];exact g,Z⟩,o_⟩
  .obtain rfl:k=n0:=o_;have G:=J (bS O D);have F:=J (bS c4 D);obtain⟨A1,c1,rfl⟩:=cI G;obtain⟨A2,c2,rfl⟩:=cI F;obtain⟨e5,L,z⟩:=j3_ (kG F) (M.trans (D.mono M.size)) (Df F);go_wp2_with(at_builtin;apply nL rfl _ _ _ rfl _ 9 _ _ 1 _ underlying23 b6 b7 V d5 rfl d_ _ (U _ 1 _) 1 _ rfl G _ _ _ _ _ rfl (by rw[z,Nat.mul_one]) e5 b4 o_ d_ L.size;intro v6 w6 d f;obtain⟨E,y,u⟩:=cI d;subst u;have g:=J d;have V:=J f;clear d f);have z:=J (C.kept V.grown (by
    rcases u:(Value.slice A k c).ownBlock with _|j
    .simp
    .refine .inr λe=> ?_;have h1:=(C.lt j u).1;have h2:=(O.lt j e.symm).2;omega))
   have Z:=J (V.ew L G o_ L.size);have D:=J (HQ E A y c _ _ (by rw[<-HD];exact kG g) (kG z) c7 d0 (λq u=>by
    obtain u|u:=u
    .rw[<-HD]at u;exact(rI g u).1
    .have:=(rI z u).1;have:=M.size;omega) Z)
   clear HQ;refine bodyPost_ret ?_ rfl D;simp[results,go_sem]
structure fj(s:Dv.Dv)(sec:List ByteArray)(puts:List (Nat×ByteArray))(st:Nat):Prop where
 sec:s.sec=sec
 puts:s.puts=puts
 off:s.off=false
 fuse:s.fuse=0
 steps:s.steps<=st
def fj.write{s sec puts st}(h:fj s sec puts st) i x:fj (Dv.lW s i x) sec (puts++[(i,x)]) (st+1):=by
 have b:s.fuse≠1:=by rw[h.fuse];decide
 unfold Dv.lW;rw[Dv.rR b];exact⟨h.sec,by show s.puts++_=_;rw[h.puts],h.off,by show s.fuse-1=0;rw[h.fuse],by show s.steps+1<=_;have:=h.steps;omega⟩
def DC:∀(ps:LN)(ss:List (List UInt8))(i p:Nat)(s:List UInt8),ps[i]? = some p->ss[i]? = some s->bV (ps.take (i+1)) (ss.take (i+1))=bV (ps.take i) (ss.take i)++[(2+2*p,str (s.take 128)),(2+2*p+1,str (s.drop 128))]
 | [],_,_,_,_,h,_=>by simp at h
 |_::_,[],_,_,_,_,h=>by simp at h
 |q::ps,t::ss,0,p,s,h1,h2=>by
  injection h1 with h1
  injection h2 with h2
  subst h1 h2;rfl
 |q::ps,t::ss,i+1,p,s,h1,h2=>by
  have b:=DC ps ss i p s r_ r_;rw[take_succ_cons,take_succ_cons,take_succ_cons,take_succ_cons,bV,bV,b];rfl
def uh:∀(ps:LN)(ss:List (List UInt8)),(bV ps ss).length<=2*ss.length
 | [],ss=>by unfold bV;exact av _
 |_::_,[]=>by unfold bV;omega
 |q::ps,t::ss=>by
  have b:=uh ps ss;rw[bV,length_cons,length_cons,length_cons];omega
def qQ(B:Nat)(F:Nat->Prop)(d gs c:Nat)(sec:List ByteArray)(puts:List (Nat×ByteArray))(st:Nat)(w:World)(e:Ending)(w':World):Prop:=e = .returned (I 0)/\∃(b:Nat->Prop)(pv:Value)(s:Dv.Dv),Dv.aX w' B b d gs c pv s/\fj s sec puts st/\Mv F w w' b
section
variable{B d gs c gp st:Nat}{F:Nat->Prop}{pv:Value}{s:Dv.Dv}{w:World}{sec:List ByteArray}{puts:List (Nat×ByteArray)}
def B9(h:Dv.aX w B F d gs c pv s)(b:fj s sec puts st)(m:st<=900000)(g:puts.length<=900000){i:Nat}(hi:i<sec.length){x:ByteArray}(hx:x.size=128) :
 Calls prog 177 #[Y d 0,N i,T x] w (qQ B F d gs c sec (puts++[(i,x)]) (st+1) w):=by
 refine(Dv.Rx h i x b.off (by rw[b.sec];omega) hx (by rw[b.fuse];decide) (by have:=b.steps;omega) (by rw[b.puts];omega)).mono ?_;rintro e w'⟨rfl,f,h1,h2⟩;exact⟨rfl,_,f,_,h1,b.write i x,⟨h2,λk hk=>hk⟩⟩
def QT{P a t}{X Y:ByteArray}(ht:t<2):P++[(a,X),(a+1,Y)].take t++[(a+t,if t=0 then X else Y)]=P++[(a,X),(a+1,Y)].take (t+1):=by
 grind
def DD{ps:LN}{ss:List (List UInt8)}{A0 A1:OA}{c0 c1:Nat}(h:Dv.aX w B F d gs c pv s)(hs:fj s sec puts st)(b4:st<=800000)(b9:puts.length<=800000)(hl:sec.length=500)(hg:C w gp 0 (.pointer (some ⟨d,0,none⟩)))(b2:gp<w.heap.size)(b0:¬F gp)(rp:Row w w.heap.size A0 (an ps))(fp:∀k,cE A0 (an ps) k->¬F k)(rs:Row w w.heap.size A1 (iA ss))(fs:∀k,cE A1 (iA ss) k->¬F k)(hn:ss.length<=ps.length)(b3:ss.length<=300)(O:∀x∈ss,x.length=256)(hp:∀p∈ps,p<249) :
 Calls prog 175 #[.pointer (some ⟨gp,0,none⟩),U A0 ps.length c0,U A1 ss.length c1] w (qQ B F d gs c sec (puts++bV (ps.take ss.length) ss) (st+2*ss.length) w):=by
 have H:=J h;have L:=J hs;have Hg:=J (λW u(m:Mv F w W u)=>show C W _ 0 _ from(bF (m.still b2 b0)).trans hg);have Z:=J (λW u(m:Mv F w W u)=>(m.row rp fp).1);have Hr:=J (λW u(m:Mv F w W u)=>(m.row rs fs).1);have D:=J O;have b7:=J hp;have HF:=J (λ(p:Nat) W=>Dn p W);have HW:=J (λW u a9 s1 A y(h:Dv.aX W B u d gs c a9 _)(hs:fj s1 _ A y) b4 b9 i(hi:i<500)(x:ByteArray)(hx:x.size=128)=>B9 h hs b4 b9 (by rw[hl];omega) hx);have HQ:Kp (∀w' v r z,Dv.aX _ B v d _ c r z->fj z sec (puts++bV (ps.take ss.length) (ss.take ss.length)) (st+2*ss.length)->Mv F w _ v->qQ B F d gs c sec (puts++bV (ps.take ss.length) ss) (st+2*ss.length) w _ w'):=λw' v r z h1 h2 h3=>⟨rfl,v,r,z,h1,r_,h3⟩;have c3:Kp (∀i,i<=ss.length->(puts++bV (ps.take i) (ss.take i)).length<=801000):=(λi hi=>by
  have:=uh (ps.take i) (ss.take i);grind)
 have e7:=J (λi p x h1 h2=>DC ps ss i p x h1 h2);generalize qQ B F d _ c _ _ _ w=Q at*;obtain⟨n,G⟩:=e_ ss.length;have V:=J G;obtain⟨np,M⟩:=e_ ps.length;have d6:=J M;rw[G]at hn b3 HQ c3;rw[M]at hn;rw[G,M];clear h hs hg rp fp rs fs O hp G M hl b2 b0;obtain⟨G,rfl⟩:∃G,G=w:=⟨w,rfl⟩;go_in;go_wp2;go_loopw [14] (λy wr=>∃(i:Nat)(v:Nat->Prop)(r:Value)(z:Dv.Dv),i<=n/\y = N i/\Kp (Dv.aX wr B v d gs c r z)/\Kp (fj z sec (puts++bV (ps.take i) (ss.take i)) (st+2*i))/\Kp (Mv F G wr v)) (λy _=>n-(intOf y).toNat)
 case atStart=>exact⟨0,F,_,s,o_,rfl,H,by simpa[bV]using L,J (Mv.start F G)⟩
 .obtain⟨i,v,r,z,hi,rfl,D1,S1,M⟩:=hrel;by_cases y:i<n
  .have L:i<ps.length:=by rw[d6];omega
   have y:i<ss.length:=by rw[V];omega
   obtain⟨V,os,c6,V,e1⟩:=(Hr _ v M).at_ (by rw[lM];exact y);rw[getElem_map]at e1;have V:=J (e7 i ps[i] _ (gE L) (gE y));have R:=J (λW=>Pz _ W (D _ (gM y)));have hX:(str (ss[i].take 128)).size=128:=by rw[dR,length_take,D _ (gM y)];rfl
   have hY:(str (ss[i].drop 128)).size=128:=by rw[dR,length_drop,D _ (gM y)]
   have D:=b7 _ (gM L);have c7:Kp (∀W u,Mv F G W u->∃b off,A0=some ⟨b,off,none⟩/\C W b (off+i) (I (ps[i]))):=(λW u m=>by
    obtain⟨b,off,h1,h2,h3⟩:=(Z W u m).at_ (by unfold an;rw[lM];exact L);unfold an at h3;grind)
   generalize ps[i]=p at*;generalize str (ss[i].take _)=X at*;generalize str (ss[i].drop _)=Y at*;generalize str _=Z at*;have HX:Kp (∀t,t<2->(if t=0 then X else Y).size=128):=(λt ht=>r_);have e9:Kp (∀t:Nat,t<2->∀W,(Instr.index 357 (.agg #[T X,T Y]) (N t)).run prog W = .ok (T (if t=0 then X else Y)) W):=(λt ht W=>by
    rcases(show t=0\/t=1 by omega)with rfl|rfl<;>kernel_rfl)
   have D:0<=(i:Int):=o_;have D:i<(n:Int):=o_;have D:i<(np:Int):=o_;clear hX hY L y;rw[c6];go_wp2_with fail;apply(R _).mono;rintro e y⟨rfl,y⟩;have L:=J (D1.below y);have M2:=J (M.below y);obtain⟨P,D⟩:=e_ (puts++bV (ps.take i) (ss.take i));have HP:=J D;have Z:=c3 i hi;rw[D]at S1 Z;have d4:=J (show puts++bV _ _=P++[(2+2*p,X),(2+2*p+1,Y)] by rw[V,<-append_assoc,HP]);clear y e1 D1 M D R V;go_wp2;clear c6;go_loopw [21] (λy wr=>∃(t:Nat)(v:Nat->Prop)(r:Value)(z:Dv.Dv),t<=2/\y = N t/\Kp (Dv.aX wr B v d gs c r z)/\Kp (fj z sec (P++[(2+2*p,X),(2+2*p+1,Y)].take t) (st+2*i+t))/\Kp (Mv F G wr v)) (λy _=>2-(intOf y).toNat)
   case atStart=>exact⟨0,v,r,z,d_,rfl,L,o_,M2⟩
   .obtain⟨t,D,b8,s3,ht,rfl,D3,Z,y⟩:=hrel;by_cases V:t<2
    .have L:=e9.out t V;have e0:=HX t V;have b1:=J (QT (P:=P) (a:=2+2*p) (X:=X) (Y:=Y) V);have f1:=L;clear L;generalize(if t=0 then X else Y)=x at*;have L:(P++[(2+2*p,X),(2+2*p+1,Y)].take t).length<=900000:=r_
     have V:=J (λW u a9 s1 h1 h2=>HW W u a9 s1 _ _ h1 h2 (show st+2*i+t<=900000 by omega) L (2+2*p+t) o_ x e0);obtain⟨bp,op,c8,e2⟩:=c7 _ D y;have g0:=Hg _ D y;have L:=J (HF p);rw[show pZ _=(2+2*p:Nat) by unfold pZ;rw[if_neg o_];omega]at L;have i1:decide ((t:Int)<2)=true:=o_;obtain⟨a,ha⟩:=e_ (2+2*p);obtain⟨q,hq⟩:=e_ (2+2*p+t);rw[ha]at L;rw[hq]at V b1;have wq:IntKind.i64.wrap (a+t)=q:=by rw[IntWalk.i64_in _ o_];omega
     clear ha hq;have e4:Kp (∀W u,Mv F G W u->C W _ _ (N p)):=(λW u m=>by
      obtain⟨G,o',h1,h2⟩:=c7 W u m;have h1:=h1.symm.trans c8;injection h1 with h1;injection h1 with h1 h3;subst h1 h3;omega)
     rw[c8];go_upto_region 7 with fail;apply wp_region_noPanic;refine br (t:=99) (S:=(λw'=>C w' _ 0 _/\C w' _ _ (N p))) k_ ⟨g0,e2⟩ (λf=> ?_);have G:Kp (E wr _):=bR.drew;generalize wr.drew=wd at*;apply tD 0 1 2 3 f;apply tD 4 5 6 7 f;apply tB 9 11 f;refine oT 8 (λK hK=> ?_);go_simp;apply(L _).mono;rintro e u⟨rfl,rfl⟩;try go_simp
     refine oK hK ?_ (λg=> ?_)
     . omega
     clear hK K f;have f:=g;clear g;apply tk 10 f;refine oT 12 (λK hK=> ?_);go_simp;apply(V _ D _ _ (D3.below G) Z).mono;rintro e u⟨rfl,F5,e6,s5,d5,L,m5⟩;have D5:=J d5;have S5:=J L;have u:=J ((y.below G).trans m5);clear d5 L m5;try go_simp
     refine oK hK ?_ (λg=> ?_)
     .exact⟨Hg _ _ u,e4 _ _ u⟩
     clear hK K f;have f:=g;clear g;apply tk 13 f;refine bQ k_ ?_ _;try clear f
     apply NoPanic.normal;rw[b1]at S5;clear D3 Z y G g0 e2 f1 V;go_wp2;exact⟨⟨_,_,_,_,o_,o_,D5,S5,u⟩,o_⟩
    .obtain rfl:t=2:=o_;go_wp2;exact⟨⟨i+1,D,_,_,o_,o_,D3,by rw[d4];grind,y⟩,o_⟩
  .obtain rfl:i=n:=o_;have u:=J (HQ _ v r z D1 S1 M);clear HQ;go_wp2;exact u
end
def PU w:Calls prog 178 #[I 1] w λe w'=>e = .returned (I 1)/\w=w':=by
 have b:IntKind.i64.wrap (bits .and .i64 1 1)=1:=d_;go_in;go_wp2;go_ret;trivial
def fj.sync{s sec puts st}(h:fj s sec puts st):fj (Dv.rV s) (Dv.dX sec puts) [] (st+1):=by
 have b:s.fuse≠1:=by rw[h.fuse];decide
 unfold Dv.rV;rw[Dv.rR b];exact⟨by show Dv.dX s.sec s.puts=_;rw[h.sec,h.puts],rfl,h.off,by show s.fuse-1=0;rw[h.fuse],by show s.steps+1<=_;have:=h.steps;omega⟩
def va(B:Nat)(F:Nat->Prop)(d gs c:Nat)(sec:List ByteArray)(puts:List (Nat×ByteArray))(w:World)(e:Ending)(w':World):Prop:=e = .returned (I 0)/\∃(b:Nat->Prop)(s:Dv.Dv)(rec:ByteArray)(st:Nat),Dv.aX w' B b d gs c (Z) s/\fj s (Dv.dX (Dv.dX sec puts) [(1,rec)]) [] st/\Mv F w w' b
section
variable{B d gs c gp st:Nat}{F:Nat->Prop}{pv:Value}{s:Dv.Dv}{w:World}{sec:List ByteArray}{puts:List (Nat×ByteArray)}
def II(h:Dv.aX w B F d gs c pv s)(b:fj s sec puts st)(g:st<=900000) :
 Calls prog 176 #[Y d 0] w λe w'=>e = .returned (I 0)/\∃f,Dv.aX w' B F d gs c (Z) f/\fj f (Dv.dX sec puts) [] (st+1)/\Mv F w w' F:=by
 refine(Dv.Qp h b.off (by rw[b.fuse];decide) (by have:=b.steps;omega)).mono ?_;rintro e w'⟨rfl,h1,h2⟩;exact⟨rfl,_,h1,b.sync,⟨h2,λk hk=> .inl hk⟩⟩
def ND{own list:LN}{maps data:List (List UInt8)}{A0 A1 A2 A3:OA}{c0 c1 c2 c3:Nat}{p m c n t:Int}{cc:Nat}(ok:sH 1 p m c n t)(h:Dv.aX w B F d gs cc pv s)(hs:fj s sec [] st)(l4:st<=1000)(hl:sec.length=500)(hg:C w gp 0 (Y d 0))(q:gp<w.heap.size)(v:¬F gp)
 (r0:Row w w.heap.size A0 (an own))(f0:∀k,cE A0 (an own) k->¬F k)(r1:Row w w.heap.size A1 (an list))(f1:∀k,cE A1 (an list) k->¬F k)(r2:Row w w.heap.size A2 (iA data))(f2:∀k,cE A2 (iA data) k->¬F k)(r3:Row w w.heap.size A3 (iA maps))(f3:∀k,cE A3 (iA maps) k->¬F k)
 (n0:maps.length=own.length)(n1:data.length=list.length)(b0:own.length<=300)(b1:list.length<=300)(z:∀x,x∈data\/x∈maps->x.length=256)(hp:∀p,p∈own\/p∈list->p<249) :
 Calls prog 96 #[Y gp 0,.agg #[I 1,I p,I m,I c,I n,I t],U A0 own.length c0,U A1 list.length c1,U A2 list.length c2,U A3 own.length c3] w (va B F d gs cc sec (bV list data++bV own maps) w):=by
 have L:=J (λw=>PV w ok);have hd:=uh list data;have H1:=J (λW y r s1(m1:Mv F w W y)(G:Dv.aX W B y d gs cc r _)(D:fj s1 _ [] st)=>by
  have:=DD (c0:=c1) (c1:=c2) (gp:=gp) G D o_ s_ hl ((bF (m1.still q v)).trans hg) (bh q m1.ax.size) (m1.off q v) (m1.row r1 f1).1 (m1.row r1 f1).2 (m1.row r2 f2).1 (m1.row r2 f2).2 o_ o_ (λx hx=>z x (.inl hx)) (λp hx=>hp p (.inr hx));rw[n1,take_length,nil_append]at this;exact this)
 have H2:=J (λW y r s1 g(u:g<=2000)(m1:Mv F w W y)(G:Dv.aX W B y d gs cc r _)(D:fj s1 _ (bV list data) g)=>by
  have:=DD (c0:=c0) (c1:=c3) (gp:=gp) G D o_ o_ hl ((bF (m1.still q v)).trans hg) (bh q m1.ax.size) (m1.off q v) (m1.row r0 f0).1 (m1.row r0 f0).2 (m1.row r3 f3).1 (m1.row r3 f3).2 o_ o_ (λx hx=>z x (.inr hx)) (λp hx=>hp p (.inl hx));rw[n0,take_length]at this;exact this)
 have H3:=J (λW y r s1 M O g(G:Dv.aX W B y d gs cc r _)(D:fj s1 M O g) u=>II G D u);have M:1<(Dv.dX sec (bV list data++bV own maps)).length:=by rw[Dv.xE];omega
 have H4:=J (λW y r s1 g rec(G:Dv.aX W B y d _ _ r _)(D:fj s1 _ [] g) u O=>show Calls _ _ #[Y d 0,I 1,T _] W (qQ B y d gs cc _ [(1,rec)] _ W)from B9 G D u d_ M O);have Hg:=J (λW y(m:Mv F w W y)=>show C W _ 0 _ from(bF (m.still q v)).trans hg);have e4:=J PU;have HQ:Kp (∀w' u y rec X,Dv.aX _ B u d _ _ _ y->fj y _ _ X->Mv F w _ u->va B F d gs cc sec (bV list data++bV own maps) w _ w'):=λw' u y rec X h1 h2 G=>⟨rfl,u,y,rec,X,h1,h2,G⟩;have V:=(ah _ w).alloc (ae _) (.cells #[I 1,I p,I m,I c,I n,I t] 122);have R:=J (aa.new w 122 #[I 1,I p,I m,I c,I n,I t]);have Hw:=J hs;have G:=J (h.below V);have M0:=J ((Mv.start F w).below V);have f4:=J (λk hk=>(h.own k hk).2);generalize va B F d _ _ _ _ w=Q at*;generalize bV _ _++bV _ _=u at*;generalize bV _ _=u at*;clear h hs hg q v r0 f0 r1 f1 r2 f2 r3 f3 z hp ok V M hd hl;generalize own.length=no at*;generalize list.length=nl at*;generalize d8:w.alloc _=u at*;obtain⟨⟨O,k1,k2,k3,k4,k5⟩,_⟩:=Dv.aa.dL R;obtain⟨u,rfl⟩:∃u,u=w:=⟨w,rfl⟩;go_in;go_wp2_with fail;apply(L _).mono;rintro e D⟨rec,b4,rfl,H⟩;have D1:=J (G.below H);have y:=J (M0.below H);have V:=bu R H;have M:Kp (∀k,k=u.heap.size->¬F k):=(λk e hk=>by have:=f4 k hk;omega);clear H G M0 R O k1 k2 k3 k4 k5 d8 L;go_wp2_with fail;apply(H1 D F _ s y D1 Hw).mono;rintro e w2⟨rfl,F2,f6,s2,d2,D,m2⟩;have L:=J d2;have S2:=J D;have G:=J (y.trans m2);have N:=J (m2.box V (M _ rfl));clear d2 D m2 H1 D1 y V Hw M;go_wp2_with fail;apply(H2 _ _ _ _ _ o_ G L S2).mono;rintro e w3⟨rfl,D,e1,s3,d3,y,m3⟩;have D3:=J d3;have S3:=J y;have V:=J (G.trans m3);have M:=J (m3.box N.1 N.2);have g3:=Hg _ D V;clear d3 y m3 H2 L S2 G N;go_wp2_with fail;apply(H3 _ D _ _ _ _ _ D3 S3 o_).mono;rintro e y⟨rfl,s4,d4,a4,G⟩;have D4:=J d4;have S4:=J a4;have L:=J (V.trans G);have A:=J (G.box M.1 M.2);have g4:=Hg y D L;have O:C y _ 0 (I 1):=A.1.cell 0;obtain⟨gq,a6⟩:=e_ u.heap.size;rw[a6]at O A⊢;clear d4 a4 G D3 S3 V M g3 a6;go_upto_region 13 with fail;apply wp_region_noPanic;refine br (t:=99) (S:=(λw'=>C w' _ 0 _/\C w' _ 0 _)) k_ ⟨g4,O⟩ (λb=> ?_);have G:Kp (E y _):=bR.drew;have V:=J (D4.below G);generalize y.drew=wd at*;apply tD 0 1 2 3 b;apply eR 4 5 7 b;refine oT 6 (λK hK=> ?_);go_simp;apply(e4 _).mono;rintro e u⟨rfl,rfl⟩;try go_simp
 refine oK hK ?_ (λf=> ?_)
 . omega
 clear hK K b;clear f;refine oT 8 (λK hK=> ?_);go_simp;apply(H4 _ D _ _ _ _ V S4 o_ b4).mono;rintro e w6⟨rfl,y,e7,s6,M,a9,u⟩;have D6:=J M;have S6:=J a9;have D:=J ((L.below G).trans u);have a1:=J (u.box (A.1.under G) A.2);clear M a9 u;try go_simp
 refine oK hK ?_ (λf=> ?_)
 .exact⟨Hg _ _ D,a1.1.cell 0⟩
 clear hK K;have b:=f;clear f;apply tk 9 b;refine bQ k_ ?_ _;try clear b
 apply NoPanic.normal;have u:=Hg _ y D;clear D4 S4 L A V G g4 O H4 a1;go_wp2_with fail;apply(H3 _ y _ _ _ _ _ D6 S6 o_).mono;rintro e V⟨rfl,O,L,G,u⟩;have M:=J (HQ V y O _ _ L G (D.trans u));clear HQ L G u;go_wp2;exact M
end
section
variable{w:World}{gp d gr gc gs cs:Nat}{r st:Int}
def nC(h:aa w gp 176 (qa d gr gc)):C w gp 0 (Y d 0)/\C w gp 1 (I 0)/\C w gp 7 (Z)/\C w gp 8 (Z)/\C w gp 9 (Y gr 0)/\C w gp 10 (Y gc 0)/\C w gp 12 (.bool false):=
 ⟨h.cell 0,h.cell 1,h.cell 7,h.cell 8,h.cell 9,h.cell _,h.cell _⟩
def CW(h:aa w gp 176 (qa d gr gc)):Calls prog 115 #[Y gp 0] w λe w'=>e = .returned (.bool true)/\w=w':=by
 obtain⟨g,f,p,m,n,b,c⟩:=nC h;go_in;go_wp2;go_ret;simp
def Lv(h:aa w gp 176 (qa d gr gc)):Calls prog 168 #[Y gp 0] w λe w'=>e = .returned (.bool false)/\w=w':=by
 have b:=J (CW h);obtain⟨n,m,q,g,p,f,c⟩:=nC h;go_in;go_wp2_with fail;apply b.mono;rintro e w'⟨rfl,rfl⟩;go_wp2;go_ret;simp
def LS(h:aa w gp 176 (qa d gr gc))(b:Calls prog 167 #[Y d 0] w λe w'=>e = .returned (.bool false)/\w=w'):Calls prog 88 #[Y gp 0] w λe w'=>e = .returned (I 10)/\w=w':=by
 obtain⟨f,g,c⟩:=j3_ (CW h) (Lv h) b;obtain⟨r,q,u,p,s,n,m⟩:=nC h;clear b;go_in;go_wp2_with fail;apply f.mono;rintro e w'⟨rfl,rfl⟩;go_wp2_with fail;apply c.mono;rintro e w'⟨rfl,rfl⟩;go_wp2_with fail;apply g.mono;rintro e w'⟨rfl,rfl⟩;go_wp2;go_ret;simp
def yo(n:Nat):gP (n:Int)=(Pg.pn n:Nat):=by
 unfold gP Pg.pn;split<;>omega
def wT(n:Nat):Ch.count (n:Int)=((n+121) / 122:Nat):=by
 unfold Ch.count;split<;>omega
def NF(n:Nat)(f:n<=49200)(w:World):Calls prog 90 #[I 1,N n] w λe w'=>e = .returned (I ((1+Pg.pn n+(1+Pg.pn n+121) / 122:Nat):Int))/\w=w':=by
 have h1:=J (λw=>oF 1 w d_);rw[show gP 1=1 from rfl]at h1;have h2:=J (λw=>oF n w o_);rw[yo]at h2;have m:Pg.pn n<=201:=by unfold Pg.pn;omega
 generalize Pg.pn n=q at*;obtain⟨a,c⟩:=e_ (1+q);have b:=J (λw=>Ch.wS a w o_);rw[wT]at b;rw[c];obtain⟨k,hk⟩:=e_ ((a+121) / 122);rw[hk]at b⊢;have d:IntKind.i64.wrap (1+q)=a:=by rw[IntWalk.i64_in _ o_];omega
 obtain⟨t,ht⟩:=e_ (a+k);have g:IntKind.i64.wrap (a+k)=t:=by rw[IntWalk.i64_in _ o_];omega
 rw[ht];clear c hk ht;go_in;go_wp2_with fail;apply(h1.out _).mono;rintro e w'⟨rfl,rfl⟩;go_wp2_with fail;apply(h2.out _).mono;rintro e w'⟨rfl,rfl⟩;go_wp2_with fail;apply(b.out _).mono;rintro e w'⟨rfl,rfl⟩;go_wp2;go_ret;simp
end
def JI w:Calls prog 166 #[Z,I 0] w λe w'=>e = .returned (Z)/\w=w':=by
 go_in;go_wp2;go_ret;simp
def JE{w g}(L:aa w g 84 #[Z,Z]):Calls prog 87 #[U (some ⟨g,0,none⟩) 2 2] w λe w'=>(∃A c,e = .returned (U A 0 c))/\E w w':=by
 obtain⟨T,x,y,B,D⟩:=info_parts iK;have M:=J JI;have G:=J L;clear L;have F:∀k:Nat,k<2->C w g k Z:=λk hk=>by
  rcases(show k=0\/k=1 by omega)with rfl|rfl
  .exact G.cell 0
  .exact G.cell 1
 have H:=J F;clear F;go_in;go_wp2;go_loop [3,11] (λR r=>∃k:Nat,k<=2/\r = N k/\R = I 0) (λ_ r=>2-(intOf r).toNat)
 case atStart=>grind
 .obtain⟨k,hk,rfl,rfl⟩:=hrel;by_cases p:k<2
  .have c0:=H k p;go_wp2;go_round
   case rel=>grind
   case measure=>simp[intOf];omega
  .obtain rfl:k=2:=o_;go_wp2_with fail;apply(M _).mono;rintro e w'⟨rfl,rfl⟩;go_wp2;go_loopw [6,27] (λV s wr=>∃k:Nat,k<=2/\s = N k/\(∃A c,V = U A 0 c/\wr.ownsRow w.heap.size 3 1 (U A 0 c) 0 [])/\E w wr) (λ_ s _=>2-(intOf s).toNat)
   case atStart=>exact⟨0,o_,rfl,⟨_,0,rfl,cK _ _ _ _⟩,bR⟩
   .obtain⟨k,hk,rfl,⟨A,c,rfl,m⟩,v⟩:=hrel;have n:=J m;clear m;have f:=J v;clear v;by_cases p:k<2
    .have c0:=al f (H k p);go_wp2_with(at_builtin;refine nL rfl _ _ _ rfl _ 3 T _ 1 8 underlying84 x y B D rfl d_ _ (U A 0 c) 0 _ rfl n _ 0 0 0 _ rfl rfl (Or.inl rfl) (λu W=>r_) o_ d_ f.size ?_;intro u u b d;obtain⟨X,Y,O⟩:=cI b;subst O;have q:=J b;have z:=J (d.ew f n o_ f.size);clear b d);exact⟨⟨k+1,o_,o_,⟨X,Y,rfl,q⟩,z⟩,o_⟩
    .obtain rfl:k=2:=o_;go_wp2;go_ret;exact⟨⟨_,_,rfl⟩,f⟩
def Oq{w gr gw c A e}(h:eM w gr gw e):Calls prog 164 #[Y gr 0,U A 0 c,.bool true] w (R_ (.int .i64 0) w):=by
 obtain⟨c0,c1,_,_⟩:=h.box.two;have f:=@run_makeMap prog;clear h;go_in;go_wp2;go_loopw [22] (λd wr=>d = I 0/\E w wr) (λ_ _=>0)
 case atStart=>exact⟨rfl,bR.alloc o_ _⟩
 .obtain⟨rfl,b⟩:=hrel;go_wp2;go_ret;trivial
def OH{w gr gw c A n}(h:eM w gr gw n):Calls prog 97 #[Y gr 0,U A 0 c] w (R_ (.int .i64 0) w):=by
 have q:=J (Oq (A:=A) (c:=c) h);clear h;go_in;go_wp2_with fail;apply q.mono;rintro e r⟨rfl,b⟩;have d:=J b;clear b;go_wp2;go_loopw [18] (λg wr=>g = I 0/\E w wr) (λ_ _=>0)
 case atStart=>trivial
 .obtain⟨rfl,f⟩:=hrel;go_wp2;go_ret;trivial
end Tc
namespace Tc
open List Go.RowKit Base Go.Maps Go.WideMaps Crc Txt Pg Go.Proofs.Tryz
def NP{w B gp d gr gc gt gl gs k p cl q t F b tp maps rec st cur s}(hd:Dv.aX w B F d gs 500 (Z) s)(C:fj s (Dv.dX (Dv.dX (replicate 500 Dv.iL) (bV ((range t).drop k) (jV b)++bV ((range t).take k) maps)) [(1,rec)]) [] st)(L:aa w gp 176 #[Y d 0,I 1,N p,I 0,I 1,I b.length,I tp,U (some ⟨gl,0,none⟩) k k,U (some ⟨gl,k,none⟩) p (cl-k),Y gr 0,Y gc 0,I 0,.bool false])(M:aa w gl 3 cur)(J:aa w gc 274 (gB (Z) gt 0 0))(O:aY w 3 gt 0 (.map []))(u:∀i,i<t->cur[i]? = some (N i))(h1:Pg.pn b.length=q)(h2:1+q=p)(V:p+k=t)(W:t<=204)(T:b.length<=49200) :
 ∃(c:dd)(G:Nat->Prop),c.gp=gp/\c.b=b/\c.rt=tp/\c.Ok/\eU c w G/\∀j,G j->j=d\/j=gp\/j=gc\/j=gt\/j=gs\/j=gl:=by
 have m:s.sec.length=500:=by rw[C.sec,Dv.xE,Dv.xE,length_replicate]
 have n:((range t).drop k).length=p:=o_
 have v:=hd.box;rw[m,C.off,C.fuse]at v;have g:=hd.sec;rw[m]at g;have E:=tZ g;refine⟨⟨_,d,_,_,_,_,gr,_,s.steps,s.sec,1,p,0,_,U (some ⟨gl,0,none⟩) k k,k,cl-k,_,(range t).drop k,b⟩,_,rfl,rfl,rfl,⟨o_,m,o_,T,λi x hx=> ?_⟩,⟨_,0,Z,_,_,0,0,0,⟨v,E,by show aa w gp _ #[_,_,_,_,_,_,_,_,U _ ((range t).drop k).length _,_,_,_,_];grind,M,J,.inl ⟨rfl,rfl⟩,o_,⟨(λkl h=>by cases h),(λx hx=>r_)⟩,O,jL.nil _,(λe=>by cases e)⟩,rfl⟩,λj R=> ?_⟩
 .show cur[k+i]? = _/\x<249/\∃y z,s.sec[2+2*x]? = some y/\s.sec[2+2*x+1]? = some z/\y++z=str (iM b i);have r:((range t).drop k)[i]? = some x:=hx;have hi:i<p:=r_
  have f:=r;rw[getElem?_drop,getElem?_range o_]at f;injection f with f;have D:((range t).take k++(range t).drop k).Nodup:=by rw[take_append_drop];exact nodup_range
  have A:(jV b)[i]? = some (iM b i):=by
   unfold jV;rw[getElem?_map,getElem?_range o_];rfl
  obtain⟨H,l2⟩:=Ke (maps:=maps) (sec:=replicate 500 Dv.iL) D r A o_ rec;rw[<-C.sec]at H l2;refine⟨r_,o_,_,_,H,l2,?_⟩;rw[lS,take_append_drop]
 .obtain(h|h|h|h|h)|h|h:=R
  .grind
  .grind
  .grind
  .grind
  .cases h
  .grind
  grind
def zz(gp:Nat)(b:List UInt8)(tp:Int)(w:World)(F:Nat->Prop)(e:Ending)(w':World):Prop:=e = .returned (I 0)/\∃(c:dd)(F':Nat->Prop),c.gp=gp/\c.b=b/\c.rt=tp/\c.Ok/\eU c w' F'/\Mv F w w' F'
section
variable{B d gs gp gr gw gc gt:Nat}{F:Nat->Prop}{s:Dv.Dv}{w:World}
def IE{w w':World}{c:Nat}{pv:Value}(h:Dv.aX w B F d gs c pv s)(hz:w.heap.size<=w'.heap.size)(hs:∀k,F k->w'.heap[k]? = w.heap[k]?):Dv.aX w' B F d gs c pv s:=
 ⟨(hs d h.fd).trans h.box,fN h.sec (λk e=>by simp[Value.ownBlock]at e;subst e;exact hs _ h.fg),fN h.puts (λk e=>hs k (h.fp k e)),h.dg,h.pd,h.pg,h.fd,h.fg,h.fp,λk hk=>⟨(h.own k hk).1,bh (h.own k hk).2 hz⟩,h.dK⟩
def nD(gp gr gw gc gt:Nat)(k:Nat):Prop:=k=gp\/k=gr\/k=gw\/k=gc\/k=gt
def me.under{w w':World}(h:me w gp d gr gw gc gt)(hb:E w w'):me w' gp d gr gw gc gt:=
 ⟨h.box.under hb,h.room.under hb,h.cache.under hb,aY.same h.map (hb.block _ (aY.lt h.map))⟩
def me.move{w w':World}{F':Nat->Prop}(h:me w gp d gr gw gc gt)(hF:∀k,nD gp gr gw gc gt k->¬F k)(m:Mv F w w' F'):me w' gp d gr gw gc gt/\∀k,nD gp gr gw gc gt k->¬F' k:=
 ⟨⟨(m.box h.box (hF _ (.inl rfl))).1,⟨(m.box h.room.box (hF _ (.inr (.inl rfl)))).1,(m.box h.room.words (hF _ (.inr (.inr (.inl rfl))))).1,h.room.len,h.room.fits,h.room.ne⟩,(m.box h.cache (hF _ (.inr (.inr (.inr (.inl rfl)))))).1,aY.same h.map (m.still (aY.lt h.map) (hF _ (.inr (.inr (.inr (.inr rfl))))))⟩,λk hk=>by
  obtain rfl|rfl|rfl|rfl|rfl:=hk
  .exact(m.box h.box (hF _ (.inl rfl))).2
  .exact(m.box h.room.box (hF _ (.inr (.inl rfl)))).2
  .exact(m.box h.room.words (hF _ (.inr (.inr (.inl rfl))))).2
  .exact(m.box h.cache (hF _ (.inr (.inr (.inr (.inl rfl)))))).2
  .exact m.off (aY.lt h.map) (hF _ (.inr (.inr (.inr (.inr rfl)))))⟩
def JZ(A:OA)(n c k:Nat)(h:k<=c)(W:World):(Instr.slice 84 (U A n c) none (some (N k)) (some (N k))).run prog W = .ok (U A k k) W:=by
 have h1:(k:Int)<=(c:Int):=o_
 simp[go_sem,underlying84,h1,h]
def JY(g n c k:Nat)(h:k<n)(hc:n<=c)(W:World):(Instr.slice 84 (U (some ⟨g,0,none⟩) n c) (some (N k)) none none).run prog W = .ok (U (some ⟨g,k,none⟩) (n-k) (c-k)) W:=by
 have h1:(k:Int)<=(n:Int):=o_
 have hk:¬c=k:=o_
 obtain⟨i,ti,e⟩:=Option.map_eq_some_iff.1 (show(prog.info? 3).map (·.size)=some 1 by kernel_rfl);simp[go_sem,underlying84,h1,ti,e,hk,Addr.add]
 try omega
def qU{w:World}{g off:Nat}{t:TypeId}{cs:AV}{vs:LV}(hb:aa w g t cs)(h:∀i v,vs[i]? = some v->cs[off+i]? = some v):Row w w.heap.size (some ⟨g,off,none⟩) vs:=
 .inr ⟨g,off,rfl,hb.lt,λi v hv=>by rw[hb.cell];exact h i v hv⟩
def KT{t:Nat}{cur:AV}(h:cur.toList.take (t*1)=an (range t))(i:Nat)(hi:i<t):cur[i]? = some (N i):=by
 have h1:=congrArg (λl=>l[i]?) h;simp only[getElem?_take,Nat.mul_one,if_pos hi]at h1;rw[<-Array.getElem?_toList,h1];unfold an;rw[getElem?_map,getElem?_range hi];rfl
def NQ{b:List UInt8}{tp:Int}(hN:me w gp d gr gw gc gt)(hF:∀k,nD gp gr gw gc gt k->¬F k)(hd:Dv.aX w B F d gs 500 (Z) s)(h9:lB s)(hb:b.length<=49200)(t0:0<=tp)(t1:tp<max (b.length:Int) 1) :
 Calls prog 38 #[Y gp 0,T (str [99]),T (str b),I tp] w (zz gp b tp w (λk=>F k\/nD gp gr gw gc gt k)):=by
 have hl:s.sec.length=500:=by rw[h9.sec,length_replicate]
 have hdb:=hd.box;rw[hl,h9.off]at hdb;have HR:=J (LS hN.box (Dv.Da d _ 500 500 _ _ _ _ false w hdb d_ d_));obtain⟨nb,hnb⟩:=e_ b.length
 obtain⟨q,hq⟩:=e_ (Pg.pn nb)
 obtain⟨p,hp⟩:=e_ (1+q)
 obtain⟨k,hk⟩:=e_ ((p+121) / 122)
 obtain⟨t,ht⟩:=e_ (p+k)
 rw[hnb]at hb t1;have hq1:q<=201:=by unfold Pg.pn at hq;omega
 have H1:=J (λw=>oF 1 w d_);rw[show gP 1=1 from rfl]at H1;have H2:=J (λw=>oF (nb:Nat) w o_);rw[yo,hq]at H2;have HNd:=J (λw=>NF nb hb w);rw[hq,hp,hk,ht]at HNd;have ok:sH 1 (p:Nat) 0 1 (nb:Nat) tp:=⟨o_,o_,o_,o_,o_,o_,t0,t1,by rw[yo,hq,show gP 1=1 from rfl];omega,o_,o_,o_⟩
 have HCk:=J (λw=>Es w ok);have w1:IntKind.i64.wrap (1+(q:Int))=(p:Int):=by rw[IntWalk.i64_in _ o_];omega
 have hz1:(str [99]).size=1:=rfl;have hzb:(str b).size=nb:=hnb;have HPN:=J hN;have HFn:=J hF;have HD:=J hd;have H9:=J h9;have Hnb:=J hnb;have Hbb:=J hb;have Hok:=J ok;have HqE:=J (And.intro hq (And.intro hp (And.intro hk ht)));obtain⟨b0,b1,b7,b8,b9,b10,b12⟩:=nC hN.box;clear hN hF hd h9 hb t0 t1 hl hdb hnb hq hp hk ht ok;generalize hS1:str [99]=tc at*;generalize hSb:str b=tb at*;obtain⟨wA,rfl⟩:∃wA,wA=w:=⟨w,rfl⟩
 go_in;go_wp2_with fail;apply HR.mono;rintro e w'⟨rfl,rfl⟩;go_upto_region 4 with fail
 go_cut [10]from 29 to 47 (λv10 wx=>∃g:Nat,v10 = Y g 0/\Kp (aa wx g 122 #[I 1,N p,I 0,I 1,N nb,I tp])/\Kp (E wA wx)/\Kp (wA.heap.size<=g))
 .have wq1:IntKind.i64.wrap 1=1:=d_
  have Hbd:Kp (E wA wA.drew):=(ah _ _).drew;apply wp_region_noPanic;refine br (t:=99) (S:=(λw'=>C w' gp 1 (I 0))) k_ b1 (λhHeld=> ?_);generalize wA.drew=wd at*;have HB0:=aa.new wd 122 jn;obtain⟨⟨z0,z1,z2,z3,z4,z5⟩,fD⟩:=Dv.aa.dL HB0;have HBs:=J (dS HB0 [I 1,N p,I 0,I 1,N nb,I tp] rfl);have Hge:=J Hbd.size;have ha:=Hbd.alloc Hbd.size (.cells jn 122);have Hbs:=J (fq (g:=wd.heap.size) Hbd.size [I 1,N p,I 0,I 1,N nb,I tp] _ 0 ha);have Ha1:=al ha b1;have Hs1:=J (al Hbs b1);clear HB0 ha HPN HFn HD H9 HqE HR HNd HCk b0 b7 b8 b9 b10 b12;generalize hW1:wd.alloc (.cells jn 122)=W1 at*;generalize hW2:aH W1 wd.heap.size 0 _=W2 at*;simp only[aH,Nat.zero_add,Nat.reduceAdd]at hW2;apply tD 0 1 2 3 hHeld;apply tD 4 5 6 7 hHeld;apply tD 9 10 13 14 hHeld;apply eR 15 16 17 hHeld;refine pk (yq (j' (i:=8) (λK hK=> ?_)) (lQ (j' (i:=19) (λK hK=> ?_))))
  .go_simp
   apply(H1 _).mono;rintro e w5⟨rfl,rfl⟩;refine hK.out _ _ (hHeld) (λhHeld2=> ?_);clear hK K
   try clear hHeld
   have hHeld:=hHeld2;clear hHeld2
   try simp only[Act.put,setIfInBounds_toArray,set_cons_zero,set_cons_succ]
   refine pk (yq (j' (i:=11) (λK hK=> ?_)) (lQ (j' (i:=19) (λK hK=> ?_))))
   .go_simp
    apply(H2 _).mono;rintro e w5⟨rfl,rfl⟩;refine hK.out _ _ (hHeld) (λhHeld2=> ?_);clear hK K
    try clear hHeld
    have hHeld:=hHeld2;clear hHeld2
    try simp only[Act.put,setIfInBounds_toArray,set_cons_zero,set_cons_succ]
    apply tB 12 18 hHeld;refine pk (lQ (j' (i:=19) (λK hK=> ?_)))
    go_simp
    refine hK.out _ _ (Ha1) (λhHeld2=> ?_);clear hK K
    try clear hHeld
    have hHeld:=hHeld2;clear hHeld2
    try simp only[Act.put,setIfInBounds_toArray,set_cons_zero,set_cons_succ]
    refine pk (lQ (j' (i:=20) (λK hK=> ?_)))
    go_simp
    refine hK.out _ _ (Hs1) (λhHeld2=> ?_);clear hK K hHeld;refine bQ k_ ?_ _
    try clear hHeld
    apply NoPanic.normal;go_wp2_with fail
    go_meet
    exact⟨wd.heap.size,rfl,HBs,Hbs,Hge⟩
   .go_simp
    refine hK.out _ _ (Ha1) (λhHeld2=> ?_);clear hK K
    try clear hHeld
    have hHeld:=hHeld2;clear hHeld2
    try simp only[Act.put,setIfInBounds_toArray,set_cons_zero,set_cons_succ]
    refine pk (lQ (j' (i:=11) (λK hK=> ?_)))
    go_simp
    apply(H2 _).mono;rintro e w5⟨rfl,rfl⟩;refine hK.out _ _ (hHeld) (λhHeld2=> ?_);clear hK K
    try clear hHeld
    have hHeld:=hHeld2;clear hHeld2
    try simp only[Act.put,setIfInBounds_toArray,set_cons_zero,set_cons_succ]
    apply tB 12 18 hHeld;refine pk (lQ (j' (i:=20) (λK hK=> ?_)))
    go_simp
    refine hK.out _ _ (Hs1) (λhHeld2=> ?_);clear hK K hHeld;refine bQ k_ ?_ _
    try clear hHeld
    apply NoPanic.normal;go_wp2_with fail
    go_meet
    exact⟨wd.heap.size,rfl,HBs,Hbs,Hge⟩
  .go_simp
   refine hK.out _ _ (Ha1) (λhHeld2=> ?_);clear hK K
   try clear hHeld
   have hHeld:=hHeld2;clear hHeld2
   try simp only[Act.put,setIfInBounds_toArray,set_cons_zero,set_cons_succ]
   refine pk (lQ (j' (i:=8) (λK hK=> ?_)))
   go_simp
   apply(H1 _).mono;rintro e w5⟨rfl,rfl⟩;refine hK.out _ _ (hHeld) (λhHeld2=> ?_);clear hK K
   try clear hHeld
   have hHeld:=hHeld2;clear hHeld2
   try simp only[Act.put,setIfInBounds_toArray,set_cons_zero,set_cons_succ]
   refine pk (lQ (j' (i:=11) (λK hK=> ?_)))
   go_simp
   apply(H2 _).mono;rintro e w5⟨rfl,rfl⟩;refine hK.out _ _ (hHeld) (λhHeld2=> ?_);clear hK K
   try clear hHeld
   have hHeld:=hHeld2;clear hHeld2
   try simp only[Act.put,setIfInBounds_toArray,set_cons_zero,set_cons_succ]
   apply tB 12 18 hHeld;refine pk (lQ (j' (i:=20) (λK hK=> ?_)))
   go_simp
   refine hK.out _ _ (Hs1) (λhHeld2=> ?_);clear hK K hHeld;refine bQ k_ ?_ _
   try clear hHeld
   apply NoPanic.normal;go_wp2_with fail
   go_meet
   exact⟨wd.heap.size,rfl,HBs,Hbs,Hge⟩
 .obtain⟨g,rfl,HBx,Hbx,Hgx⟩:=hcut;have HPc:=J (HPN.under Hbx);have HDc:=J (HD.below Hbx);clear b0 b1 b7 b8 b9 b10 b12 HR H1 H2 w1;obtain⟨b0,b1,b7,b8,b9,b10,b12⟩:=nC HPc.box;obtain⟨rD,_⟩:=Dv.aa.dL HBx;obtain⟨Hq0,Hp0,Hk0,Ht0⟩:=HqE.o;have ht3:t<=204:=o_
  have ht2:2<=t:=o_
  have HqH:=kp (And.intro Hq0 (And.intro Hp0 (And.intro Hk0 Ht0)));clear Hq0 Hp0 Hk0 Ht0 HqE;have j1:decide ((249:Int)<(t:Int))=false:=decide_eq_false o_;have HRc:=J (λW(hW:E wc W)=>DO (HPc.room.under hW));go_upto_region 7 with fail
  go_quiet ((first|(go_at_call 90;exact Plain.rO (HNd _))|(go_at_call 91;exact Plain.rO (HRc _ (Crc.below_drewN (ah _ _) _)))))
  have Hbq:=J (Crc.below_drewN (ah wc.heap.size wc) nq);generalize wc.drewN nq=wq at*;have HPq:=J (HPc.under Hbq);have HBq:=J (HBx.under Hbq);have HDq:=J (HDc.below Hbq);have Hbq2:=J (Hbx.trans (Hbq.mono Hbx.size));clear b0 b1 b7 b8 b9 b10 b12 rD HPc HBx HDc HRc Hbq Hbx;obtain⟨rD,_⟩:=Dv.aa.dL HBq;go_wp2_with fail;apply(HCk _).mono;rintro e w2⟨rfl,hb2⟩;have HP2:=J (HPq.under hb2);have HB2:=bu HBq hb2;have HD2:=J (HDq.below hb2);have Hb2:=ay Hbq2 hb2;clear rD HPq HBq HDq hb2 Hbq2 HCk j1;obtain⟨b0,b1,b7,b8,b9,b10,b12⟩:=nC HP2.box;go_upto_region 11 with fail
  apply wp_region_noPanic;refine br (t:=99) (S:=(λw'=>C w' gp 9 (Y gr 0))) k_ b9 (λhHeld=> ?_);have Hbd:Kp (E w2 w2.drew):=(ah _ _).drew;have HRd:=J (HP2.room.under Hbd);generalize w2.drew=wd at*;have HLw:=J (OP HRd t o_);apply tD 0 1 2 3 hHeld;apply tD 4 5 6 7 hHeld;refine oT 8 (λK hK=> ?_)
  go_simp
  apply(HNd wd).mono;rintro e w3⟨rfl,rfl⟩
  try go_simp
  refine oK hK ?_ (λhHeld2=> ?_)
  .exact hHeld
  clear hK K hHeld;have hHeld:=hHeld2;clear hHeld2;refine oT 9 (λK hK=> ?_)
  go_simp
  apply HLw.mono;rintro e w3⟨Al,cl,rfl,hown3,hb3⟩;have Hown3:=J hown3;have Hb3:=ay Hbd hb3;clear hown3 hb3
  try go_simp
  refine oK hK ?_ (λhHeld2=> ?_)
  .exact al Hb3 b9
  clear hK K hHeld;have hHeld:=hHeld2;clear hHeld2;apply tD 10 11 12 13 hHeld;apply tk 14 hHeld;refine bQ k_ ?_ _
  try clear hHeld
  apply NoPanic.normal;have ho3:=Hown3.o;obtain⟨_,h0⟩|⟨gl,cap,cur,hv,hgl,hh,hnc,hcm,hcs,hct⟩:=ho3.2
  .omega
  injection hv with hv1 _ hv3
  subst hv1 hv3;have HBl:Kp (aa w3 gl 3 cur):=hh;have Hct:=J (λi hi=>KT hct i hi);have Hgl:=J hgl;have Hcm:=J hcm;have hkt:k<t:=by have:=HqH.o;omega
  have hk1:1<=k:=by have:=HqH.o;omega
  have hs1:=JZ (some ⟨gl,0,none⟩) t cl k o_;have hs2:=JY gl t cl k hkt hnc;have HP3:=J (HP2.under Hb3);have HB3:=J (HB2.under Hb3);have HD3:=J (HD2.below Hb3);have Hb33:=J (Hb2.trans (Hb3.mono Hb2.size));have HCn:=J (λw=>Ch.wS (p:Nat) w (by have:=HqH.o;omega));rw[wT,HqH.2.2.1]at HCn;have hbd:=J Hbd.size;have Hb2s:=J Hb2.size;clear ho3 hgl hh hcm hcs hct HP2 HB2 HD2 Hb2 Hb3 HLw HRd b0 b1 b7 b8 b9 b10 b12 Hown3 HNd;obtain⟨rD,fD⟩:=Dv.aa.dL HB3;go_wp2_with fail;apply(HCn _).mono;rintro e w'⟨rfl,rfl⟩;go_upto_region 13 with fail
  go_quiet (fail)
  have Hbq:=J (Crc.below_drewN (ah w3.heap.size w3) nq);generalize w3.drewN nq=w4 at*;have HB4:=J (HB3.under Hbq);have Hb4:=J (Hb33.trans (Hbq.mono Hb33.size));have HBl4:=J (HBl.under Hbq);clear HP3 HB3 HD3 Hb33 HBl rD fD hs1 hs2 HCn;obtain⟨rD,fD⟩:=Dv.aa.dL HB4;have l0:w4.cell? ⟨gl,0,none⟩=some (.int .i64 0):=by rw[HBl4.o.cell];exact Hct 0 o_
  have hgg:gl≠g:=aa.ne HBl4 HB4 d_;have Hb5:=J (Hb4.setCell (p:=(M g 2)) Hgx (I 0));have HB5:Kp (aa (w4.setCell (M g 2) (I 0)) g 122 #[I 1,N p,I 0,I 1,N nb,I tp]):=HB4.set 2 _;have HBl5:=J (HBl4.aJ (p:=(M g 2)) hgg (I 0));go_upto_region 15 with fail
  generalize w4.setCell (M g 2) (I 0)=w5 at*;clear rD fD l0 hgg HBl4 HB4 Hb4 Hbq;obtain⟨own,how⟩:=e_ ((range t).take k)
  obtain⟨list,hli⟩:=e_ ((range t).drop k)
  have hol:own.length=k:=by rw[<-how,length_take,length_range];omega
  have hll:list.length=t-k:=by rw[<-hli,length_drop,length_range]
  have hpk:t-k=p:=by have:=HqH.o;omega
  have hom:∀x,x∈own\/x∈list->x<249:=λx hx=>by
   have:x∈range t:=by
    obtain hx|hx:=hx
    .rw[<-how]at hx;exact mem_of_mem_take hx
    .rw[<-hli]at hx;exact mem_of_mem_drop hx
   have:=mem_range.1 this;omega
  have hro:∀i v,(an own)[i]? = some v->cur[0+i]? = some v:=λi v hv=>by
   unfold an at hv;rw[getElem?_map,<-how,getElem?_take]at hv;split at hv
   .rename_i hik;rw[getElem?_range o_]at hv;rw[Nat.zero_add,Hct i o_];exact hv
   .cases hv
  have hrl:∀i v,(an list)[i]? = some v->cur[k+i]? = some v:=λi v hv=>by
   unfold an at hv;rw[getElem?_map,<-hli,getElem?_drop]at hv;by_cases hik:k+i<t
   .rw[getElem?_range hik]at hv;rw[Hct (k+i) hik];exact hv
   .rw[getElem?_eq_none (by rw[length_range];omega)]at hv;cases hv
  have Hro:=J hro;have Hrl:=J hrl;have Hom:=J hom;have HPg:=J (MT b own list (some ⟨gl,0,none⟩) (some ⟨gl,k,none⟩) k (cl-k) w5 (by rw[Hnb.o];exact Hbb) (by rw[hol];have:=HqH.o;omega) (by rw[hll];omega) o_ o_ (by have:=Hcm.o;omega) (λx hx=>by have:=hom x hx;omega) (qU HBl5 hro) (qU HBl5 hrl) (by rw[hol,hll,hpk,wT,HqH.2.2.1]));rw[hol,hll,hpk,hS1,hSb]at HPg;rw[hpk];have Hol:=J hol;have Hll:=J hll;have Hpk:=J hpk;have How:=J how;have Hli:=J hli;clear hro hrl hom hS1 hSb hol hll hpk how hli;go_wp2_with fail;apply HPg.mono;rintro e w6⟨A1,A2,c1,c2,maps,rfl,hr1,hr2,hml,hm2,hft,hb6⟩;rw[Hnb.o,HqH.1,HqH.2.1];have Hb6:=ay Hb5 hb6;have HB6:=bu HB5 hb6;have HBl6:=bu HBl5 hb6;have HP6:=J (HPN.under Hb6);have HD6:=J (HD.below Hb6);have Hlt:=J (λj(hj:F j)=>(HD.own j hj).2);have hglA:wA.heap.size<=gl:=aF (aF Hb2s hbd.out) Hgl
  have Hpub:=J (ND (B:=B) (gs:=gs) (gp:=gp) (cc:=500) (own:=own) (list:=list) (maps:=maps) (data:=jV b) (A0:=some ⟨gl,0,none⟩) (A1:=some ⟨gl,k,none⟩) (A2:=A1) (A3:=A2) (c0:=k) (c1:=cl-k) (c2:=c1) (c3:=c2) (sec:=replicate 500 Dv.iL) (st:=0) Hok HD6 ⟨H9.sec,H9.puts,H9.off,H9.fuse,by rw[H9.steps];exact ae _⟩ d_ length_replicate (HP6.box.cell 0) HP6.box.lt (HFn _ (.inl rfl)) (qU HBl6 Hro) (λj hj e=>by
   obtain⟨_,off,e'⟩:=hj;injection e' with e'
   injection e' with e' _
   have:=Hlt j e;omega) (qU HBl6 Hrl) (λj hj e=>by
   obtain⟨_,off,e'⟩:=hj;injection e' with e'
   injection e' with e' _
   have:=Hlt j e;omega) hr1 (λj hj e=>by have:=hft j (.inl hj);have:=Hlt j e;have:=Hb5.size;omega) hr2 (λj hj e=>by have:=hft j (.inr hj);have:=Hlt j e;have:=Hb5.size;omega) (by rw[hml,Hol.o]) (by rw[IB,Hnb.o,HqH.1,HqH.2.1,Hll.o,Hpk.o]) (by rw[Hol.o];omega) (by rw[Hll.o];omega) (λx hx=>by
   obtain hx|hx:=hx
   .unfold jV at hx;obtain⟨j,_,rfl⟩:=mem_map.1 hx;exact MR b j
   .exact hm2 x hx) Hom)
  rw[Hol.o,Hll.o,Hpk.o]at Hpub;clear hb6 hr1 hr2 hft HPg HB5 HBl5 Hb5;obtain⟨rD,_⟩:=Dv.aa.dL HB6;go_wp2_with fail;apply Hpub.mono;rintro e w7⟨rfl,F7,s7,rec,st7,d7,s7',m7⟩;have M7:=J (((Mv.start F wA).below Hb6).trans m7);have HP7:=J (HPN.move HFn M7);have HB7:=J (m7.box HB6 (λe=>by have:=Hlt _ e;have:=Hgx.o;omega));have HBl7:=J (m7.box HBl6 (λe=>by have:=Hlt _ e;omega));have D7:=J d7;have S7:=J s7';have hgw:gl≠gw:=λe=>by have:=HPN.room.words.lt;omega
  have HU:=J (Ps (c:=cl) HP7.1.room (qU HBl7.1 (λi v hv=>by
   rw[Nat.zero_add];unfold an at hv;rw[getElem?_map]at hv;by_cases hi:i<t
   .rw[getElem?_range hi]at hv;rw[Hct i hi];exact hv
   .rw[getElem?_eq_none (by rw[length_range];omega)]at hv
    cases hv):Row w7 w7.heap.size (some ⟨gl,0,none⟩) (an (range t))) (λj hj e=>by
   obtain⟨_,off,e'⟩:=hj;injection e' with e'
   injection e' with e' _
   exact hgw (e'.trans e)) ⟨nodup_range,λx hx=>by have:=mem_range.1 hx;omega⟩ (by rw[length_range];omega))
  rw[length_range]at HU;obtain⟨b0,b1,b7,b8,b9,b10,b12⟩:=nC HP7.1.box;clear d7 s7' m7 rD HB6 HBl6 HP6 HD6 Hpub hgw;go_wp2_with fail;apply HU.mono;rintro e w8⟨rfl,⟨ws8,hr8⟩,ht8⟩;have Hr8:=J hr8;have T8:=J ht8;have HP8:=J (HP7.1.box.ax ht8 (aa.ne HP7.1.box HP7.1.room.words d_));have HB8:=J (HB7.1.ax ht8 (aa.ne HB7.1 HP7.1.room.words d_));have HBl8:=J (HBl7.1.ax ht8 (aa.ne HBl7.1 HP7.1.room.words d_));clear b0 b1 b7 b8 b9 b10 b12 hr8 ht8 HU;obtain⟨b0,b1,b7,b8,b9,b10,b12⟩:=nC HP8;go_upto_region 23 with fail
  apply wp_region_noPanic;refine br (t:=99) (S:=(λw'=>C w' gp 7 (Z)/\C w' gp 8 (Z)/\C w' gp 9 (Y gr 0))) k_ ⟨b7,b8,b9⟩ (λhHeld=> ?_);have Hbd:Kp (E w8 w8.drew):=(ah _ _).drew;generalize w8.drew=wy at*;have hb9:=Hbd.alloc Hbd.size (.cells #[Z,Z] 84);have HCc:=J (JE (aa.new wy 84 #[Z,Z]));have Hb9:=J hb9;clear hb9;generalize hW9:wy.alloc (.cells #[Z,Z] 84)=w9 at*;apply tD 0 1 2 3 hHeld;apply tD 4 5 6 7 hHeld;apply tD 8 9 10 11 hHeld;refine oT 12 (λK hK=> ?_)
  go_simp
  try rw[hW9]
  refine oK hK ?_ (λhHeld2=> ?_)
  .exact⟨al Hb9 b7,al Hb9 b8,al Hb9 b9⟩
  clear hK K hHeld;have hHeld:=hHeld2;clear hHeld2;refine oT 13 (λK hK=> ?_)
  go_simp
  apply HCc.mono;rintro e w10⟨⟨Ac,c10,rfl⟩,hb10⟩;have Hb10:=ay Hb9 hb10;clear hb10
  try go_simp
  refine oK hK ?_ (λhHeld2=> ?_)
  .exact⟨al Hb10 b7,al Hb10 b8,al Hb10 b9⟩
  clear hK K hHeld;have hHeld:=hHeld2;clear hHeld2;refine oT 14 (λK hK=> ?_)
  go_simp
  apply(OH (A:=Ac) (c:=c10) (Hr8.under Hb10)).mono;rintro e w11⟨rfl,hb11⟩;have Hb11:=ay Hb10 hb11;clear hb11
  try go_simp
  refine oK hK ?_ (λhHeld2=> ?_)
  .exact⟨al Hb11 b7,al Hb11 b8,al Hb11 b9⟩
  clear hK K hHeld;have hHeld:=hHeld2;clear hHeld2;refine bQ k_ ?_ _
  try clear hHeld
  apply NoPanic.normal;have HP11:=J (HP8.under Hb11);have HB11:=J (HB8.under Hb11);have HBl11:=J (HBl8.under Hb11);have HC11:=J ((HP7.1.cache.ax T8 (aa.ne HP7.1.cache HP7.1.room.words d_)).under Hb11);have HM11:Kp (aY w11 3 gt 0 (.map [])):=aY.same HP7.1.map ((Hb11.block gt (bh (aY.lt HP7.1.map) T8.size)).trans (T8.block gt (aY.lt HP7.1.map) (λe=>aY.ne HP7.1.room.words HP7.1.map e.symm)));have HP12:Kp (aa ((((((((w11.setCell (M gp 1) (I 1)).setCell (M gp 2) (N p)).setCell (M gp 3) (I 0)).setCell (M gp 4) (I 1)).setCell (M gp 5) (N nb)).setCell (M gp 6) (I tp)).setCell (M gp 7) (U (some ⟨gl,0,none⟩) k k)).setCell (M gp 8) (U (some ⟨gl,k,none⟩) p (cl-k))) gp 176 #[Y d 0,I 1,N p,I 0,I 1,N nb,I tp,U (some ⟨gl,0,none⟩) k k,U (some ⟨gl,k,none⟩) p (cl-k),Y gr 0,Y gc 0,I 0,.bool false]):=(((((((HP11.set 1 _).set 2 _).set 3 _).set 4 _).set 5 _).set 6 _).set 7 _).set 8 _;have T12:Kp (aq (·=gp) w11 ((((((((w11.setCell (M gp 1) (I 1)).setCell (M gp 2) (N p)).setCell (M gp 3) (I 0)).setCell (M gp 4) (I 1)).setCell (M gp 5) (N nb)).setCell (M gp 6) (I tp)).setCell (M gp 7) (U (some ⟨gl,0,none⟩) k k)).setCell (M gp 8) (U (some ⟨gl,k,none⟩) p (cl-k)))):=(yY (show gp=gp from rfl) [I 1,N p,I 0,I 1,N nb,I tp,U (some ⟨gl,0,none⟩) k k,U (some ⟨gl,k,none⟩) p (cl-k)] w11 1 (aq.refl (gp=·) w11)).more λj e=>e.symm;have x1:=HP11.cell 1;have x2:=HP11.cell 2;have x3:=HP11.cell 3;have x4:=HP11.cell 4;have x5:=HP11.cell 5;have x6:=HP11.cell 6;have x7:=HP11.cell 7;have x8:=HP11.cell 8;have y1:=HP11.free 1;have y2:=HP11.free 2;have y3:=HP11.free 3;have y4:=HP11.free 4;have y5:=HP11.free 5;have y6:=HP11.free 6;have y7:=HP11.free 7;have y8:=HP11.free 8;obtain⟨rD,_⟩:=Dv.aa.dL HB11;clear b0 b1 b7 b8 b9 b10 b12 HCc Hb9 Hb10 hW9;go_upto_region 25 with fail
  generalize(((((((w11.setCell (M gp 1) (I 1)).setCell (M gp 2) (N p)).setCell (M gp 3) (I 0)).setCell (M gp 4) (I 1)).setCell (M gp 5) (N nb)).setCell (M gp 6) (I tp)).setCell (M gp 7) (U (some ⟨gl,0,none⟩) k k)).setCell (M gp 8) (U (some ⟨gl,k,none⟩) p (cl-k))=w12 at*;clear x1 x2 x3 x4 x5 x6 x7 x8 y1 y2 y3 y4 y5 y6 y7 y8 rD;have HC12:=J (HC11.ax T12 (aa.ne HC11 HP11 d_));have HM12:Kp (aY w12 3 gt 0 (.map [])):=aY.same HM11 (T12.block gt (aY.lt HM11) (λe=>aY.ne HP11 HM11 e.symm));have HCl:=J (GN HC12 HM12);have b10:C w12 gp 10 (Y gc 0):=HP12.cell 10;go_wp2_with fail;apply HCl.mono;rintro e w13⟨rfl,hc13,hm13,t13⟩;have HP13:=J (HP12.ax t13 (λe=>e.elim (aa.ne HP12 HC12 d_) (aY.ne HP12 HM12)));have HBl12:=J (HBl11.ax T12 (aa.ne HBl11 HP11 d_));have HBl13:=J (HBl12.ax t13 (λe=>e.elim (aa.ne HBl12 HC12 d_) (aY.ne HBl12 HM12)));have z8:=T8.size;have z11:=Hb11.size;have z12:=T12.size;have z13:=t13.size
  have D13:Kp (Dv.aX w13 B F7 d gs 500 (Z) s7):=IE D7 o_ (λj hj=>by
   have hlt7:=(D7.own j hj).2;have hno:=HP7.2 j
   rw[t13.block j o_ (λe=>e.elim (λe=>hno (.inr (.inr (.inr (.inl e)))) hj) (λe=>hno (.inr (.inr (.inr (.inr e)))) hj)),T12.block j o_ (λe=>hno (.inl e) hj),Hb11.block j o_,T8.block j hlt7 (λe=>hno (.inr (.inr (.inl e))) hj)])
  have hS7:=S7.o;rw[<-Hli.o,<-How.o]at hS7;obtain⟨c,F',e1,e2,e3,hOk,hI,hsub⟩:=NP D13 hS7 (by rw[Hnb.o];exact HP13) HBl13 hc13 hm13 Hct (by rw[Hnb.o];exact HqH.1) HqH.2.1 HqH.2.2.2 ht3 (by rw[Hnb.o];exact Hbb);have hS:=M7.sub;have hgl13:=HBl13.lt
  have Hf:Kp (zz gp b tp wA (λk=>F k\/nD gp gr gw gc gt k) (.returned (I 0)) w13):=⟨rfl,c,F',e1,e2,e3,hOk,hI,⟨((((M7.ax.more (λj e=> .inl e)).trans (T8.more (λj e=> .inr (.inr (.inr (.inl e)))))).trans (aq.below Hb11)).trans (T12.more (λj e=> .inr (.inl e)))).trans (t13.more (λj e=>e.elim (λe=> .inr (.inr (.inr (.inr (.inl e))))) (λe=> .inr (.inr (.inr (.inr (.inr e))))))),λj hj=>by
   have hF7:∀j,F7 j->more (λk=>F k\/nD gp gr gw gc gt k) wA w13 j:=λj hj=>by
    obtain q|⟨q1,q2⟩:=hS j hj
    .exact .inl (.inl q)
    .exact .inr ⟨q1,o_⟩
   obtain rfl|rfl|rfl|rfl|rfl|rfl:=hsub j hj
   .exact hF7 _ D7.fd
   .exact .inl (.inr (.inl rfl))
   .exact .inl (.inr (.inr (.inr (.inr (.inl rfl)))))
   .exact .inl (.inr (.inr (.inr (.inr (.inr rfl)))))
   .exact hF7 _ D7.fg
   .exact .inr ⟨hglA,hgl13⟩⟩⟩
  clear e1 e2 e3 hOk hI hsub hS hS7 t13 hc13 hm13 HCl HP13 HBl13;go_wp2_with fail;go_ret;exact Hf
end
end Tc
end Go.Proofs.YtibjlpkpljnicaaGreatDoor
