/- Parts. -/
import Derived.Test.YtibjlpkpljnicaaGreatDoorR47
import Derived.Laws.CopyOwn
import Derived.Deep.RegionLaw
set_option maxRecDepth 100000
set_option maxHeartbeats 8000000
set_option linter.all false
namespace Go.Proofs.YtibjlpkpljnicaaGreatDoor
namespace Dv
open List Go.RowKit Base Go.Proofs.Tryz
def iL:ByteArray:=⟨(replicate 128 (0:UInt8)).toArray⟩
def pP:(prog.info? 9).map (λi=>(i.zero,i.size,i.bytes))=some (some (T ByteArray.empty),1,16):=k_
def BH:(prog.info? 5).map (λi=>(i.zero,i.size,i.bytes))=some (some (.int .u8 0),1,1):=k_
def KU z n:(madeCells #[z] (n*1)).toList=replicate n z:=by
 unfold madeCells;rw[Nat.mul_one,Array.toList_map,Array.toList_range];rw[eq_replicate_iff];grind
def IL w :
 Calls prog 77 #[] w λe w'=>e = .returned (.string iL)/\Below w.heap.size w w':=by
 have b:Kp (∀w,Calls _ _ #[.string _,.int _ 128] w λe w'=>e = .returned (.string iL)/\Below _ w _):=(λw=>by
  have:=Tryz.strings_Repeat ⟨#[0]⟩ 128 w o_ d_;have e:Lib.repeatL (ByteArray.mk #[0]).data.toList 128=replicate 128 0:=o_
  rw[e]at this;exact this)
 generalize iL=z at*;go_in;go_wp2_with fail;apply(b _).mono;rintro e d⟨rfl,c⟩;go_wp2;go_ret;trivial
def partly(x:Value)(n m:Nat):LV:=replicate m x++replicate (n-m) (.string ByteArray.empty)
def N3 x n m(h:m<=n):(partly x n m).length=n:=by unfold partly;simp;omega
def N2 x n:partly x n n=replicate n x:=by unfold partly;simp
def N5 x n(h:1<=n):splice (replicate n (.string ByteArray.empty)) 0 [x]=partly x n 1:=by
 unfold splice partly;simp
def N4 x n m k(h:m+k<=n):splice (partly x n m) m (replicate k x)=partly x n (m+k):=by
 unfold splice partly;rw[take_left' s_,length_replicate,<-drop_drop,drop_left' s_,drop_replicate,<-append_assoc,replicate_append_replicate];grind
def N1 x n m j(h:j<m):(partly x n m)[j]? = some x:=by
 unfold partly;grind
def pX{w:World}{base g e n xs}(h:w.ownsRow base e 1 (.slice (some ⟨g,0,none⟩) n n) n xs):w.heap[g]? = some (.cells xs.toArray e (0,0)):=by
 obtain⟨h',_⟩|⟨d,b,cur,h',_,c,_,_,f,ht⟩:=h.2
 .grind
 .simp at h';obtain⟨rfl,rfl⟩:=h';rw[c];have:cur=xs.toArray:=r_
  rw[this]
def OC s(n C:Nat) w(h1:1<=n)(h2:n<=4096)(hc:w.cell? ⟨C,0,none⟩=some (.string s)) :
 Calls Tryz.prog 76 #[.slice (some ⟨C,0,none⟩) 1 1,.int .i64 n] w λe w'=>e = .returned (.slice (some ⟨w.heap.size,0,none⟩) n n)/\aa w' w.heap.size 9 (replicate n (.string s)).toArray/\Below w.heap.size w w':=by
 obtain⟨i0,G,H,U,a3⟩:=info_parts pP;have a2:(prog.info? 9).map (·.size)=some 1:=k_
 have V:=J a2;have b1:C<w.heap.size:=mq hc
 have HM:Kp (∀w,Calls prog 155 #[.int .u64 1,.int .u64 n] w λe w'=>e = .returned (.tuple #[.int .u64 0,.int .u64 n])/\w=w'):=λw=>by
  have:=Tryz.bits_Mul 1 n o_ o_ w;grind
 have b2:IntKind.u64.wrap n=n:=by rw[IntKind.wrap_u64];omega
 have F:decide ((n:Int)<0)=false:=s_
 have Y:decide (9223372036854775807<(n:Int))=false:=o_
 have Hc:=J hc;clear a2 hc;go_in;go_wp2_with fail;apply(HM _).mono;rintro e w'⟨rfl,rfl⟩;go_upto_region 7 with(refine wpList_make_full _ rfl _ _ 23 rfl w.heap.size 9 i0 (T ByteArray.empty) 1 underlying23 G H U .i64 .i64 n n n rfl rfl rfl rfl (by rw[a3];omega) (by unfold maxLen;omega) (ae _) ?_;intro w1 f Z;rw[show(Value.string _).cells=#[T _]from rfl,KU]at f;have x:=J f;have R:=J Z;clear f Z)
 have y:Kp (E w _):=bR.grown R o_ s_;have r:=pX x;have q:=J r;have D:=(y.cell (p:=(M C 0)) b1).trans Hc;have a1:=J D;clear r D x R;have G1:Kp ([Value.string s].length=Nat.min 1 n):=(Nat.min_eq_left h1).symm
 have G2:Kp (0<[Value.string s].length->(some _:OA)=some ⟨w.heap.size,0,none⟩/\∃ad,(some _:OA)=some ad/\∀j v,[Value.string s][j]? = some v->w1.cell? (ad.add j)=some v):=λ_=>⟨rfl,_,rfl,λj v c=>by
  match j,c with
  |0,c=>
   simp at c;subst c;rw[jS]
   exact a1⟩
 have G3:=J (show 0+[Value.string s].length<=(replicate n (Value.string ByteArray.empty)).length by simp;omega);have G4:=J (show∀v∈[Value.string s],v.oneCell'=true by intro v c;simp at c;subst c;rfl)
 go_wp2_with(refine wpList_copy_splice (by rfl) (.tmp 31) (.tmp 32) 23 23 (by rfl) 9 underlying23 V (some ⟨w.heap.size,0,none⟩) (some ⟨C,0,none⟩) n n 1 1 (by rfl) (by rfl) w.heap.size 0 (replicate n (T ByteArray.empty)) 9 q [T s] G1 G2 G3 G4 w.heap.size w y (ae _) ?_;intro w2 g a4)
 have d:=J (by have:=g.out;rw[N5 _ _ h1]at this;omega);have a0:=J a4;clear g a4 G1 G2 G3 G4 q y a1 Hc HM b2 F Y H U a3 G
 go_loopw [8] (λv8 wr=>∃m:Nat,1<=m/\m<=n/\v8 = N m/\wr.heap[w.heap.size]? = some (.cells (partly (T s) n m).toArray 9 (0,0))/\E w wr) (λv8 _=>n-(intOf v8).toNat)
 case atStart=>exact⟨1,o_,h1,rfl,d,a0⟩
 .obtain⟨m,b5,b8,rfl,O,X⟩:=hrel;have z:=J O;have L:=J X;clear O X d a0;by_cases d0:m<n
  .have i1:0<=(m:Int):=o_
   have i2:m<=(n:Int):=o_
   have i3:m<(n:Int):=o_
   have d3:¬n=m:=o_
   obtain⟨k,hk⟩:∃k,k=Nat.min m (n-m):=⟨_,rfl⟩
   have d5:1<=k:=r_
   have d4:k<=m:=r_
   have c7:k<=n-m:=r_
   have B:m+k<=n:=o_
   have A:=J (N4 (T s) n m k B);have G1:=J (show(replicate k (Value.string s)).length=Nat.min m (n-m) by grind)
   have G2:Kp (∀W:World,W.heap[w.heap.size]? = some (.cells (partly (T s) n m).toArray 9 _)->∀j v,(replicate k (Value.string s))[j]? = some v->W.cell? (((M _ 0):Addr).add j)=some v):=λW hW j v c=>by
    rw[getElem?_replicate]at c;split at c
    .rename_i hj;injection c with c
     subst c;rw[jS,Nat.zero_add,aa.cell (hW),getElem?_toArray];exact N1 _ _ _ _ o_
    .cases c
   have G3:=J (show m+(replicate k (Value.string s)).length<=(partly (T s) n m).length by rw[length_replicate,N3 _ _ _ b8];omega);have G4:=J (show∀v∈replicate k (Value.string s),v.oneCell'=true by intro v c;rw[(mem_replicate.1 c).2];rfl);have b3:IntKind.i64.wrap _=m+k:=IntWalk.i64_in _ o_;clear hk;go_wp2
   go_region_law (refine step_copy_splice o_ _ _ _ _ o_ 9 underlying23 V _ (some ⟨w.heap.size,0,none⟩) _ (n-m) m n (by simp[Act.eval,Act.put]) (by simp[Act.eval,Act.put]) _ m _ 9 (by exact z) (replicate k (T s)) G1 (λ_=>⟨rfl,_,rfl,by exact G2 _ z⟩) G3 G4 w.heap.size w (by exact L.drew) (ae _) ?_;intro w4 b4 b0)
   go_wp2;have u:∃m':Nat,1<=m'/\m'<=n/\I (m+k) = N m'/\w4.heap[w.heap.size]? = some (.cells (partly _ n m').toArray 9 _)/\E w _:=⟨_,o_,B,rfl,by rw[<-A];exact b4.out,b0⟩
   refine⟨?_,?_⟩
   ·(repeat apply Exists.intro)
    exact And.intro u rfl
   .show n-((m:Int)+(k:Int)).toNat<n-((m:Int)).toNat;omega
  .have b7:m=n:=o_
   subst b7;go_wp2;go_ret;refine⟨rfl,?_,L⟩;have:=z.o;rw[N2]at this;exact this
def tQ(n:Nat):Dv:={ sec:=replicate n iL,puts:=[],fuse:=0,reads:=0,steps:=0,off:=false }
def vp(n:Nat)(w:World)(e:Ending)(w':World):Prop:=∃d gs,e = .returned (.tuple #[.pointer (some ⟨d,0,none⟩),.int .i64 0])/\aX w' w.heap.size (λk=>k=d\/k=gs) d gs n (.slice none 0 0) (tQ n)/\Below w.heap.size w w'
def xN n w:Calls prog 75 #[.int .i64 n] w λe w'=>e = .returned (.bool (decide (16<=n/\n<=4096)))/\w=w':=by
 by_cases h1:16<=n
 .by_cases h2:n<=4096
  .rw[decide_eq_true ⟨h1,h2⟩]
   go_in;go_wp2;go_ret;simp
  .rw[decide_eq_false (λh=>h2 o_)]
   go_in;go_wp2;go_ret;simp
 .rw[decide_eq_false (λh=>h1 o_)]
  go_in;go_wp2;go_ret;simp
def Lt n w b c(h1:16<=n)(h2:n<=4096)(f:Below w.heap.size w b)(e:aa c (b.heap.size+1) 9 (replicate n (.string iL)).toArray)(m:Below (b.heap.size+1) (b.alloc (.cells #[.string iL] 9)) c) :
 vp n w (.returned (.tuple #[.pointer (some ⟨c.heap.size,0,none⟩),.int .i64 0])) (c.alloc (.cells #[.slice (some ⟨b.heap.size+1,0,none⟩) n n,.slice none 0 0,.int .i64 0,.int .i64 0,.int .i64 0,.bool false] 170)):=by
 have r:=e.lt;have g:=f.size;have d:E w c:=(f.alloc g _).trans (m.mono o_);refine⟨_,b.heap.size+1,rfl,⟨?_,?_,⟨rfl,.inl ⟨rfl,rfl⟩⟩,o_,by simp[Value.ownBlock],by simp[Value.ownBlock],.inl rfl,.inr rfl,(λk hk=>by trivial),?_,?_⟩,d.alloc o_ _⟩
 .show aa _ _ _ #[U _ (replicate n iL).length n,_,_,_,_,_];rw[length_replicate];exact aa.new c _ _
 .show World.ownsRow _ _ _ _ (U _ (replicate n iL).length n) (replicate n iL).length ((replicate n iL).map .string);rw[length_replicate,map_replicate];refine⟨s_,.inr ⟨_,n,_,rfl,o_,e.alloc _,o_,by unfold maxLen;omega,s_,s_⟩⟩
 .intro k hk;obtain rfl|rfl:=hk
  .exact⟨o_,s_⟩
  .exact⟨o_,o_⟩
 .refine⟨by simpa[tQ]using h1,by simpa[tQ]using h2,λx hx=> ?_,(λp q=>by cases q),(λp q=>by cases q),av _,av _,av _,av _⟩;rw[(mem_replicate.1 hx).2];rfl
def Lu(n:Nat) w(h1:16<=n)(h2:n<=4096):Calls prog 36 #[.int .i64 n] w (vp n w):=by
 have q:=kp (xN n w);rw[decide_eq_true ⟨o_,o_⟩]at q;have x:=kp IL;have u:=kp (λy w s=>OC iL n y w o_ h2 s);have v:=kp (λb r=>Lt n w b r h1 h2);generalize A:vp n w=Q at*;clear A;generalize iL=z at*;go_in;go_wp2_with fail;apply q.o.mono;rintro e w'⟨rfl,rfl⟩;go_wp2_with fail;apply(x _).mono;rintro e b⟨rfl,d⟩;have g:=kp d;clear d;go_wp2_with fail;apply(u _ _ ((aa.new b _ _).cell 0)).mono;rintro e r⟨rfl,c,f⟩;rw[show(b.alloc _).heap.size=b.heap.size+1 by simp]at*;have p:=kp c;have m:=kp f;clear c f;go_wp2;exact v _ _ g p m
end Dv
end Go.Proofs.YtibjlpkpljnicaaGreatDoor
