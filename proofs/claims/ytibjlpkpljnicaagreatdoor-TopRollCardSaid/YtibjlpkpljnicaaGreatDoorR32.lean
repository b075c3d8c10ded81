/- Parts. -/
import Derived.Test.YtibjlpkpljnicaaGreatDoorR14
import Derived.Test.YtibjlpkpljnicaaGreatDoorR31
import Derived.Lib.AppendStr
import Derived.Lib.Builder
set_option maxRecDepth 100000
set_option maxHeartbeats 8000000
set_option linter.all false
namespace Go.Proofs.YtibjlpkpljnicaaGreatDoor
namespace Tc
open List Go.RowKit Base Go.Proofs.Tryz
abbrev TB:TypeId:=150
structure Bd(w:World)(b D:Nat)(p v:Value)(bs:LV):Prop where
 ptr:p = .pointer none\/p = .pointer (some ⟨b,0,none⟩)
 lt:b<D
 box:aa w b TB #[p,v]
 own:w.ownsRow D 5 1 v bs.length bs
def Bd.is{w b D p v f}(h:Bd w b D p v f):Lib.IsBuilder TB 5 b b f w:=by
 have c:v.ownBlock≠some b:=λe=>by have:=(h.own.lt b e).1;have:=h.lt;omega
 have d:=dZ h.own (Nat.le_of_lt h.lt);obtain e|e:=h.ptr
 .exact .inl ⟨o_,v,by rw[<-e];exact h.box,d,c⟩
 .exact .inr ⟨o_,v,by rw[<-e];exact h.box,d,c⟩
def Bd.kept{w w' b D p v c}(h:Bd w b D p v c)(e:w'.heap[b]? = w.heap[b]?)(d:w'.ownsRow D 5 1 v c.length c):Bd w' b D p v c:=⟨h.ptr,h.lt,e.trans h.box,d⟩
def Bd.below{w w' b D p v c}(h:Bd w b D p v c)(d:Below w.heap.size w w'):Bd w' b D p v c:=⟨h.ptr,h.lt,h.box.under d,bS h.own d⟩
def JR:(prog.info? 5).map (λi=>(i.zero,i.size,i.bytes))=some (some (.int .u8 0),1,1):=k_
def BG:(prog.info? TB).map (·.size)=some 2:=k_
def KG:liesAt prog prog.depth TB (2 / prog.cellsOf TB) 0 TB 1=true:=k_
def uM(b:Nat)(v:Value)(w:World)(e:Ending)(w':World):Prop:=e = .returned (.tuple #[])/\aa w' b TB #[.pointer (some ⟨b,0,none⟩),v]/\(w'=w\/w'=w.setCell ⟨b,0,none⟩ (.pointer (some ⟨b,0,none⟩)))
def H'{b v w}(h:aa w b TB #[.pointer (some ⟨b,0,none⟩),v]):Calls Tryz.prog 154 #[.pointer (some ⟨b,0,none⟩)] w (uM b v w):=by
 obtain⟨j,hj,_⟩:=Option.map_eq_some_iff.1 BG;have h0:C w b 0 (Y b 0):=h.cell 0;have hn:=Lib.run_neq_ptr_same (w:=w) (M b 0) underlying147 hj;go_in;go_wp2
 go_end0
 exact⟨rfl,h,.inl rfl⟩
def Hu{b v w}(h:aa w b TB #[.pointer none,v]):Calls Tryz.prog 154 #[.pointer (some ⟨b,0,none⟩)] w (uM b v w):=by
 obtain⟨j,hj,hjs⟩:=Option.map_eq_some_iff.1 BG;have h0:C w b 0 (.pointer _):=h.cell 0;have hfz:=h.free 0;have hsh:w.shape? b=some (TB,2):=by unfold World.shape?;rw[h];rfl
 have hset:=J (h.set 0 (Y b 0));have h1:=Lib.run_to_unsafe (w:=w) (M b 0) underlying147 underlying337 hj o_ hsh o_;have h2:=Lib.run_from_unsafe (w:=w) (M b 0) underlying337 underlying147 hj hsh KG;have h3:(callFunc 219 #[Y b 0]).run prog w = .ok (.value (Y b 0)) w:=rfl
 go_in;go_wp2
 go_end0
 exact⟨rfl,hset.out,.inr rfl⟩
def H8{b D p v d w}(h:Bd w b D p v d):Calls prog 154 #[.pointer (some ⟨b,0,none⟩)] w (uM b v w):=by
 have c:=h.box;obtain e|e:=h.ptr
 .rw[e]at c;exact Hu c
 .rw[e]at c;exact H' c
def FM(b D:Nat)(v:Value)(d:LV)(s:ByteArray)(w:World)(e:Ending)(w':World):Prop:=e = .returned (.tuple #[.int .i64 s.size,.nilIface])/\∃c f,Bd w' b D c f (d++Lib.strCells s)/\Below b w w'/\∀k,k<w.heap.size->k≠b->v.ownBlock≠some k->w'.heap[k]? = w.heap[k]?
def Rv{b D p v C s w}(h:Bd w b D p v C)(Z:C.length+s.size<=140737488355328)(hD:D<=w.heap.size) :
 Calls Tryz.prog 73 #[.pointer (some ⟨b,0,none⟩),.string s] w (FM b D v C s w):=by
 obtain⟨i0,hi,V,R,W⟩:=info_parts JR;have HC:=J (H8 h);have y:=h.lt;have m:=h.own;have E:=h.box.lt;clear h;go_in;go_wp2_with fail;apply HC.mono;rintro e H⟨rfl,r,z⟩;have A:H.heap.size=w.heap.size:=by
  obtain rfl|rfl:=z
  .rfl
  .simp
 have G:∀k,k≠b->H.heap[k]? = w.heap[k]?:= λk hk=>by
  obtain rfl|rfl:=z
  .rfl
  .exact Below.heap_setCell w _ _ _ hk
 have q:H.ownsRow D 5 1 v C.length C:=by
  obtain rfl|rfl:=z
  . omega
  .exact l5 m y _
 have N:Kp (Below b w H):=(by
  obtain rfl|rfl:=z
  .exact bR
  .exact(bR).setCell o_ _)
 have u:=J A;have T:=J G;have c:=J q;have c0:=r.cell 0;have c1:=r.cell 1;simp at c0 c1;have X:=J r;clear z HC m A G r q
 go_wp2_with(at_builtin;refine Lib.wpList_append_own_string _ rfl _ _ _ 9 rfl D 5 _ underlying148 underlying9 hi V R W _ _ _ rfl c s rfl ?c3 ?c4 ?c5 ?_)
 case c3=>unfold maxLen;omega
 case c4=>omega
 case c5=>rw[u];omega
 intro v' w2 d f _;have x:=J d;have Hg:=J f;have n:aa w2 b TB #[Y b 0,v]:=by
  refine(f.block b (by rw[u];omega) (λe=> ?_)).trans X;have:=(c.lt b e.symm).1;omega
 have d0:=n.cell 0;have d1:=n.cell 1;have f1:=n.free 1;simp at d0 d1;have O:=J n;obtain⟨I,L,cap,rfl⟩:∃I L cap,v' = U I L cap:=by
  obtain⟨B,_⟩|⟨g,cap,cur,B,_⟩:=d.2
  .grind
  grind
 clear d f n c0 c1;go_wp2;go_ret2;refine⟨rfl,_,U I L _,⟨.inr rfl,y,O.set 1 _,?_⟩,?_,λk hk F B=> ?_⟩
 .have:=l5 x (p:=(M b 1)) y (U I L cap);rw[aE,Lib.strCells_length];omega
 .exact(N.grown Hg (by rw[u];omega) (λk hk=>by have:=(c.lt k hk).1;omega)).setCell o_ _
 .exact(Below.heap_setCell _ _ _ _ F).trans ((Hg.block k (by rw[u];omega) (λe=>B e.symm)).trans (T k F))
def Gz{b D p v c w}(h:Bd w b D p v c):Calls prog 72 #[.pointer (some ⟨b,0,none⟩)] w λe w'=>e = .returned (.int .i64 c.length)/\w'=w:=Tryz.Builder_Len b b c w h.is
def GD{b D p v l w}(h:Bd w b D p v (Lib.byteCells l)):Calls prog 74 #[.pointer (some ⟨b,0,none⟩)] w λe w'=>e = .returned (.string ⟨l.toArray⟩)/\Below b w w':=Tryz.Builder_String_any b b l w h.is (Nat.le_of_lt h.box.lt)
end Tc
namespace Tc
open List Go.RowKit Base Crc Txt Pg Go.Proofs.YtibjlpkpljnicaaGreatDoor.Nm Go.Proofs.Tryz
structure sH(g p m c n t:Int):Prop where
 g1:1<=g
 g2:g<=1099511627776
 c1:1<=c
 c2:c<=1048576
 n1:0<=n
 n2:n<=1048576
 t1:0<=t
 t2:t<max n 1
 p1:p=gP c+gP n
 p2:p<=2047
 m1:0<=m
 m2:m<2047
def ua(n:Int)(h:n<=1048576):0<=gP n/\gP n<=5000:=by
 unfold gP;split<;>omega
section
variable{g p m c n t:Int}
def Es(w:World)(h:sH g p m c n t) :
 Calls prog 92 #[.agg #[.int .i64 g,.int .i64 p,.int .i64 m,.int .i64 c,.int .i64 n,.int .i64 t]] w λe w'=>e = .returned (.int .i64 0)/\Below w.heap.size w w':=by
 obtain⟨I,A,y,u,z,v,G,r,d,s,C,D⟩:=h;obtain⟨f,b⟩:∃f,f=max n 1:=⟨_,rfl⟩;rw[<-b]at r;have q:=b.symm;clear b;have H:=ua c u;have B:=ua n v;have x:IntKind.i64.wrap _=gP c+gP n:=IntWalk.i64_in _ o_;have E:(p != gP c+gP n)=false:=o_
 have F:decide (2047<p)=false:=o_
 clear d;go_in;go_wp2;go_quiet ((go_at_call 89;exact Go.Proofs.YtibjlpkpljnicaaGreatDoor.Plain.rO (oF _ _ o_)));go_wp2;go_ret;exact⟨rfl,Crc.below_drewN (bR.alloc o_ _) _⟩
def PM(n:Nat)(w:World)(x:n<=1099511627776) :
 Calls prog 233 #[.int .i64 (n:Nat)] w λe w'=>∃s:ByteArray,s.size=6/\e = .returned (.string s)/\Below w.heap.size w w':=by
 have p:Kp (∀t,n / 256 ^ t<=1099511627776):=λt=>aF (Nat.div_le_self _ _) x;have c:Kp (∀t,n / 256 ^ (t+1)=n / 256 ^ t / 256):=(λt=>by rw[Nat.pow_succ,Nat.div_div_eq_div_mul]);clear x;go_in;go_wp2;go_loopw [0,5] (λL m wr=>∃(t:Nat)(l:List UInt8),t<=6/\l.length=6/\m = N t/\L = I (n / 256 ^ t:Nat)/\aa wr w.heap.size 407 (jw l)/\E w wr) (λ_ m _=>6-(intOf m).toNat)
 .refine⟨0,replicate 6 0,o_,rfl,rfl,s_,aa.lay rfl,(by repeat(first|exact ah _ _|assumption|refine Below.drew ?_|(refine Below.alloc ?_ o_ _)|(refine Below.setCell ?_ o_ _)))⟩
 .obtain⟨t,l,ht,g,rfl,rfl,b,d⟩:=hrel;have z:=p.out t;have r:=J (c.out t);by_cases G:t<6
  .obtain⟨j,B⟩:∃j:Nat,j=5-t:=⟨_,rfl⟩;have v:wr.cell? ⟨w.heap.size,j,none⟩=some (.int .u8 ((l.getD j 0).toNat)):=by
    rw[b.cell];grind
   have u:=b.free j;have f:=J (show aa (wr.setCell (M w.heap.size j) (.int .u8 ((n / 256 ^ t:Nat) % 256))) w.heap.size 407 (jw (l.set j (bw (n / 256 ^ t)))) by
    have h:=b.set j (.int .u8 ((bw (n / 256 ^ t)).toNat));rw[wL]at h;have e:((bw (n / 256 ^ t)).toNat)=(n / 256 ^ t:Nat) % 256:=o_
    grind)
   have F:=J (show(l.set j (bw (n / 256 ^ t))).length=6 by grind);have A:5-t=(j:Int):=o_;clear b B g;generalize l.set j _=O at*;generalize(l.getD j 0).toNat=T at*;generalize n / 256 ^ t=R at*;go_wp2;refine⟨⟨t+1,O,o_,F,o_,?_,f.out,d.setCell o_ _⟩,o_⟩;rw[r];rfl
  .have q:t=6:=o_;subst q;have H:=wR l 6 6 b o_;have C:=J (show(str (l.take 6)).size=6 by rw[dR,length_take];omega);clear b;generalize str _=s at*;go_wp2;go_ret;exact⟨s,C,rfl,d⟩
def LP(n:Nat)(h:n<=1048576):(dQ n).size<=3:=by
 show(bX n).length<=3;rw[j6];exact CV o_
def PV(w:World)(h:sH g p m c n t) :
 Calls Tryz.prog 174 #[.agg #[.int .i64 g,.int .i64 p,.int .i64 m,.int .i64 c,.int .i64 n,.int .i64 t]] w λe w'=>∃s:ByteArray,s.size=128/\e = .returned (.tuple #[.string s,.int .i64 0])/\Below w.heap.size w w':=by
 have HC:=kp (λw=>Es w h);have U:=kp (λw=>PM g.toNat w (by have:=h.g2;omega));rw[show g.toNat=g by have:=h.g1;omega]at U;have O:∀k:Nat,k<5->0<=[p,m,c,n,t].getD k 0/\[p,m,c,n,t].getD k 0<=1048576:=λk hk=>by
  have:=h.p1;have:=ua c h.c2;have:=ua n h.n2;have:=h.m1;have:=h.m2;have:=h.c1;have:=h.c2;have:=h.n1;have:=h.n2;have:=h.t1;have:=h.t2;grind
 have y:∀k:Nat,k<5->∀W,(Instr.index 356 (.agg #[.int .i64 p,.int .i64 m,.int .i64 c,.int .i64 n,.int .i64 t]) (.int .i64 k)).run Tryz.prog W = .ok (.int .i64 ([p,m,c,n,t].getD k 0)) W:=λk hk W=>by
  rcases(show k=0\/k=1\/k=2\/k=3\/k=4 by omega)with rfl|rfl|rfl|rfl|rfl<;>kernel_rfl
 have Hb:=kp O;have H:=kp y;have I:=λW=>It W 86 o_ o_
 have G:=kp (show(str [bw (86:Int).toNat]).size=1 from rfl);clear h O y;generalize str _=Y at*;go_enter Tryz.func174,Tryz.ntmps174;go_wp2_with fail;refine(HC _).mono ?_;rintro e w1⟨rfl,q⟩;have b:=(bR.alloc (ae _) _).trans (q.mono s_);have v:=kp ((aa.new w 122 _).under q);obtain⟨cD,_⟩:=Dv.aa.dL v.out;clear q;go_wp2_with fail;refine(U _).mono ?_;rintro e w2⟨X,hX,rfl,d⟩;obtain⟨kD,_⟩:=Dv.aa.dL (v.out.under d);have z:=kp (b.trans (d.mono b.size));have A:=(v.out.under d).lt;have hY:=G.o;have J:=kp (show(Y++X).size=7 by grind);clear d b cD;have D:=kp (z.out.alloc o_ (.cells #[.int .u8 86] 5));go_wp2
 go_loopw [6,32] (λv6 r wr=>∃(k:Nat)(o:ByteArray),k<=5/\o.size<=7+3*k/\r = .int .i64 (k:Nat)/\v6 = .string o/\Below w.heap.size w wr) (λ_ r _=>5-(intOf r).toNat)
 case atStart=>exact⟨0,_,o_,o_,rfl,rfl,D⟩
 case round=>
  clear kD I hY;obtain⟨k,o,hk,ho,rfl,rfl,f⟩:=hrel;by_cases B:k<5
  .have hi:=H k B;obtain⟨x1,x2⟩:=Hb k B;generalize [p,m,c,n,t].getD k 0=x at*;have HP:=kp (λw=>ug x w o_);have hz:=LP x.toNat o_;generalize dQ _=Z at*;have Hs:=kp (show(o++Z).size<=7+3*(k+1) by grind);have N:o.size+Z.size<=1000:=o_
   go_wp2_with fail;refine(HP _).mono ?_;rintro e w5⟨rfl,u⟩;go_wp2;exact⟨⟨_,_,o_,Hs,o_,rfl,f.trans (u.mono f.size)⟩,o_⟩
  .obtain rfl:k=5:=o_
   obtain⟨L,hL⟩:∃L,o.size=L:=⟨_,rfl⟩
   have R:=kp (λw=>Tryz.strings_Repeat ⟨#[0]⟩ (118-L) w o_ (by show 1*(118-L)<=_;omega));rw[show(118-L:Nat)=118-(L:Int) by omega]at R;have hq:(⟨(Lib.repeatL (⟨#[0]⟩:ByteArray).data.toList (118-L)).toArray⟩:ByteArray).size=118-L:=by
    rw[show(⟨_⟩:ByteArray)=str _ from congrArg str (DQ _),dR,xZ]
   generalize(⟨(Lib.repeatL _ _).toArray⟩:ByteArray)=Z at*;have M:(o++Z).size=118:=o_
   have E:=kp (λw=>AO (o++Z) w o_);have hv:(str (closed (o++Z).data.toList)).size=122:=by
    rw[dR];unfold closed;rw[aE,show(o++Z).data.toList.length=(o++Z).size from rfl,M];rfl
   generalize hV:str _=V at*;clear hV;have C:=kp (show(V++X).size=128 by grind)
   have N:o.size+Z.size<=1000:=o_
   go_wp2_with fail;refine(R _).mono ?_;rintro e w5⟨rfl,u⟩;go_wp2_with fail;refine(E _).mono ?_;rintro e w6⟨rfl,F⟩;go_wp2;go_ret2;have T:=f.trans (u.mono f.size);exact⟨_,C,rfl,T.trans (F.mono T.size)⟩
end
abbrev jn:AV:=#[I 0,I 0,I 0,I 0,I 0,I 0]
abbrev nine:List UInt8:=replicate 128 0
def Lw:isClosed (nine.take 122)=false:=by rfl
def wH{B g:Nat}{a w:World}{m c d e n f:Value}(h:Below B a w)(b:B<=g):Below B a ((((((w.setCell (M g 0) m).setCell (M g 1) c).setCell (M g 2) d).setCell (M g 3) e).setCell (M g 4) n).setCell (M g 5) f):=
 (((((h.setCell b _).setCell b _).setCell b _).setCell b _).setCell b _).setCell b _
def PW(w:World):Calls prog 225 #[.string (str nine)] w (R_ (.tuple #[.agg jn,.int .i64 3]) w):=by
 have r:(str nine).size=128:=rfl;have h1:∀W,(Instr.slice 9 _ _ (some (I _)) _).run _ W = .ok _ W:=qY nine 122 122 rfl d_;have n:=J (λw=>rG (str (nine.take 122)) w d_);rw[ig,Lw]at n;generalize opened _=O at*;generalize str (nine.take _)=T at*;generalize str _=S at*;go_in;go_wp2_with fail;apply(n _).mono;rintro e p⟨rfl,c⟩;have f:=(aa.new w 122 jn).under c;have b:E w p:=(bR.alloc o_ _).trans (c.mono s_);have m:=J f;have d:=J b;clear f b c;go_wp2;go_quiet (fail);obtain⟨⟨y,u,q,s,z,x⟩,A⟩:=Dv.aa.dL (m.drewN nq);have g:=J (Crc.below_drewN d nq);generalize p.drewN _=B at*;go_wp2;refine bodyPost_ret (by simp[results,go_sem,y,u,q,s,z,x]) rfl ⟨rfl,wH g o_⟩
def Et(i:Int)(w:World):Calls prog 159 #[I i,T (str nine)] w (R_ (.tuple #[.agg jn,.bool false]) w):=by
 have n:=J PW;generalize str _=S at*;go_in;go_wp2_with fail;apply(n _).mono;rintro e g⟨rfl,b⟩;have d:=J ((aa.new w 122 jn).under b);obtain⟨⟨s,q,m,p,u,r⟩,x⟩:=Dv.aa.dL d.out;have c:Kp (E w g):=(bR.alloc o_ _).trans (b.mono s_);have f:=d.out.lt;clear b;go_wp2;refine bodyPost_ret (by simp[results,go_sem,s,q,m,p,u,r,f]) rfl ⟨rfl,?_⟩;exact(wH c o_).alloc o_ _
def PL(w:World):Calls prog 83 #[T (str nine),T (str nine)] w (R_ (.tuple #[.agg jn,.bool false]) w):=by
 have x:=J (λw=>Et 0 w);have z:=J (λw=>Et 1 w);generalize str _=S at*;go_in;go_wp2_with fail;apply(x _).mono;rintro e q⟨rfl,b⟩;have m:=J ((aa.new w 122 jn).under b);have d:Kp (E w q):=(bR.alloc o_ _).trans (b.mono s_);have p:=m.out.lt;clear b;go_wp2_with fail;apply(z _).mono;rintro e r⟨rfl,c⟩;have g:=J ((m.out.alloc _).under c);have n:Kp (E w r):=(d.alloc o_ _).trans (c.mono o_);obtain⟨⟨B,y,s,u,C,A⟩,D⟩:=Dv.aa.dL g.out;have f:=g.out.lt;clear c;go_wp2;refine bodyPost_ret (by simp[results,go_sem,B,y,s,u,C,A,f]) rfl ⟨rfl,?_⟩;exact(wH n o_).alloc o_ _
end Tc
end Go.Proofs.YtibjlpkpljnicaaGreatDoor
