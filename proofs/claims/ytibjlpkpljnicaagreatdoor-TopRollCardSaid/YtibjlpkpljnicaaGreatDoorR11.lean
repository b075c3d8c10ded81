/- Parts. -/
import Derived.Test.YtibjlpkpljnicaaGreatDoorR10
import Derived.Deep.RegionHeld3
import Derived.Deep.QuietTactic
import Derived.BigQuiet
import Derived.Deep.RegionWith
set_option maxRecDepth 100000
set_option maxHeartbeats 8000000
set_option linter.all false
namespace Go.Proofs.YtibjlpkpljnicaaGreatDoor
namespace Crc
open List Go.RowKit Base Tryz
def front(l:List UInt8):List UInt8:=l.take (l.length-4)
def back(l:List UInt8):List UInt8:=l.drop (l.length-4)
def isClosed(l:List UInt8):Bool:=decide (4<=l.length)&&(iO (more 0 (front l)) == back l)
def below_drewN{B a w}(h:Below B a w) n:Below B a (w.drewN n):=⟨h.os,h.tape,h.output,h.size,h.block⟩
def pG(s:ByteArray) a b:s.extract a b=str ((s.data.toList.drop a).take (b-a)):=by
 rw[<-Lib.extract_data];rfl
section
variable(s:ByteArray)(h4:4<=s.size)
include h4
def B7(w:World):(Instr.slice 9 (.string s) none (some (.int .i64 ((s.size:Int)-4))) none).run Tryz.prog w = .ok (.string (str (front s.data.toList))) w:=by
 rw[run_slice_string_h (ht:=Tryz.underlying9) (h0:=o_) (h2:=o_),pG];have e:((s.size:Int)-4).toNat=s.data.toList.length-4:=o_;rw[e];rfl
def AZ(w:World):(Instr.slice 9 (.string s) (some (.int .i64 ((s.size:Int)-4))) none none).run Tryz.prog w = .ok (.string (str (back s.data.toList))) w:=by
 rw[run_slice_string_l (ht:=Tryz.underlying9) (h0:=o_) (h1:=o_),pG];have e:((s.size:Int)-4).toNat=s.data.toList.length-4:=o_;have b:s.size=s.data.toList.length:=s_;rw[e,b,take_of_length_le s_];rfl
end
def Bp(s:ByteArray):(str (front s.data.toList)).size<=s.size:=by
 rw[dR];unfold front;simp
def uj(w:World) s:Row (w.alloc (.cells #[T s] 9)) (w.alloc (.cells #[T s] 9)).heap.size (some ⟨w.heap.size,0,none⟩) (texts [s]):=by
 refine .inr ⟨_,0,rfl,s_,λi v b=> ?_⟩;rw[(aa.new w 9 _).cell];simpa[texts]using b
def D9(w b:World) s(d:s.size<=maxLen)(c:w=b.alloc (.cells #[T s] 9)) :
 Calls Tryz.prog 287 #[.slice (some ⟨b.heap.size,0,none⟩) 1 1] w λe w'=>e = .returned (.int .u32 (more 0 s.data.toList:Nat))/\Below w.heap.size w w':=by
 subst c;simpa only[flatMap_cons,flatMap_nil,append_nil,length_cons,length_nil]using(D8 _ 1 _ _ s_ o_ (uj b s))
def MA s w(b:s.size<4) :
 Calls Tryz.prog 280 #[.string s] w λe w'=>e = .returned (.tuple #[.string ⟨#[]⟩,.bool false])/\Below w.heap.size w w':=by
 have hk:decide ((s.size:Int)-4<0)=true:=o_;go_enter Tryz.func280,Tryz.ntmps280;go_wp2;go_quiet (fail);go_wp2;go_ret2;exact⟨rfl,below_drewN bR _⟩
def ME s w(f:4<=s.size)(v:s.size<=140737488355328)(c:iO (more 0 (front s.data.toList))=back s.data.toList) :
 Calls Tryz.prog 280 #[.string s] w λe w'=>e = .returned (.tuple #[.string (str (front s.data.toList)),.bool true])/\Below w.heap.size w w':=by
 have hk:decide ((s.size:Int)-4<0)=false:=o_;have r:=B7 s f;have q:=AZ s f;have n:=Bp s;have b:(str (front s.data.toList)).size<=maxLen:=by unfold maxLen;omega
 have d:((str (iO (more 0 (str (front s.data.toList)).data.toList))).toList == (str (back s.data.toList)).toList)=true:=by
  rw[ByteArray.toList_eq,ByteArray.toList_eq,ig,ig,ig];rw[c];simp
 clear c;generalize str _=F at*;generalize str _=T at*;go_enter Tryz.func280,Tryz.ntmps280;go_wp2;go_region_held3 (λw'=>E w w') (first|exact(ah _ _).drew|exact(‹E w _›).trans ((by assumption:Below _ _ _).mono (‹E w _›).size)|exact((bR.alloc o_ _).drew))
  (first
    |(go_at_call 287;apply(D9 _ w.drew F b rfl).mono;rintro e p⟨rfl,g⟩)
    |(go_at_call 286;apply(yV _ _ (pT _ _)).mono;rintro e u⟨rfl,g⟩))
 go_wp2;go_ret2;trivial
def Mu s w(f:4<=s.size)(v:s.size<=140737488355328)(c:¬iO (more 0 (front s.data.toList))=back s.data.toList) :
 Calls Tryz.prog 280 #[.string s] w λe w'=>e = .returned (.tuple #[.string ⟨#[]⟩,.bool false])/\Below w.heap.size w w':=by
 have hk:decide ((s.size:Int)-4<0)=false:=o_;have r:=B7 s f;have q:=AZ s f;have n:=Bp s;have b:(str (front s.data.toList)).size<=maxLen:=by unfold maxLen;omega
 have d:((str (iO (more 0 (str (front s.data.toList)).data.toList))).toList == (str (back s.data.toList)).toList)=false:=by
  rw[ByteArray.toList_eq,ByteArray.toList_eq,ig,ig,ig];grind
 clear c;generalize str _=F at*;generalize str _=T at*;go_enter Tryz.func280,Tryz.ntmps280;go_wp2;go_region_held3 (λw'=>E w w') (first|exact(ah _ _).drew|exact(‹E w _›).trans ((by assumption:Below _ _ _).mono (‹E w _›).size)|exact((bR.alloc o_ _).drew))
  (first
    |(go_at_call 287;apply(D9 _ w.drew F b rfl).mono;rintro e p⟨rfl,g⟩)
    |(go_at_call 286;apply(yV _ _ (pT _ _)).mono;rintro e u⟨rfl,g⟩))
 go_wp2;go_ret2;trivial
def opened(l:List UInt8):ByteArray:=if isClosed l then str (front l)else⟨#[]⟩
def rG s w(d:s.size<=140737488355328) :
 Calls Tryz.prog 280 #[.string s] w λe w'=>e = .returned (.tuple #[.string (opened s.data.toList),.bool (isClosed s.data.toList)])/\Below w.heap.size w w':=by
 by_cases c:4<=s.size
 .by_cases b:iO (more 0 (front s.data.toList))=back s.data.toList
  .have e:isClosed s.data.toList=true:=by simp[isClosed,b,c]
   rw[opened,e,if_pos rfl];exact ME s w c d b
  .have e:isClosed s.data.toList=false:=by simp[isClosed,b]
   rw[opened,e,if_neg s_];exact Mu s w c d b
 .have e:isClosed s.data.toList=false:=by simp[isClosed,c]
  rw[opened,e,if_neg s_];exact MA s w o_
def Io l:front (closed l)=l:=by
 have:(closed l).length-4=l.length:=by simp[closed,iO]
 unfold front;rw[this];simp[closed]
def JX l:isClosed l=true↔4<=l.length/\closed (front l)=l:=by
 unfold isClosed closed;simp only[Bool.and_eq_true,decide_eq_true_eq,beq_iff_eq];constructor
 .rintro⟨h,e⟩;refine⟨h,?_⟩;rw[e];exact take_append_drop _ _
 .rintro⟨h,e⟩;refine⟨h,?_⟩;have b:front l++iO (more 0 (front l))=front l++back l:=by rw[e];exact(take_append_drop _ _).symm
  exact append_cancel_left b
end Crc
namespace Txt
open List Go.RowKit Base Crc Tryz
def mW l(j:Nat)(h:j<l.length) W:(Instr.index 9 (.string (str l)) (.int .i64 (j:Int))).run Tryz.prog W = .ok (.int .u8 ((l.getD j 0).toNat:Int)) W:=by
 have h0:j<(str l).size:=h;have e:(str l)[j]=l.getD j 0:=by
  rw[getD_eq_getElem?_getD,gE h];rfl
 rw[<-e];simp[go_sem,h0]
def pC l(a:Nat)(x:Int)(hx:x=a)(h:a<=l.length) w:(Instr.slice 9 (.string (str l)) (some (.int .i64 x)) none none).run Tryz.prog w = .ok (.string (str (l.drop a))) w:=by
 subst hx;have b:(str l).size=l.length:=rfl;rw[run_slice_string_l (ht:=Tryz.underlying9) (h0:=o_) (h1:=o_),pG];rw[Int.toNat_natCast,ig,take_of_length_le o_]
def qY l(b:Nat)(x:Int)(hx:x=b)(h:b<=l.length) w:(Instr.slice 9 (.string (str l)) none (some (.int .i64 x)) none).run Tryz.prog w = .ok (.string (str (l.take b))) w:=by
 subst hx;have c:(str l).size=l.length:=rfl;rw[run_slice_string_h (ht:=Tryz.underlying9) (h0:=o_) (h2:=o_),pG];rfl
def B8 l(a b:Nat)(x y:Int)(hx:x=a)(c:y=b)(h:a<=b)(h2:b<=l.length) w:(Instr.slice 9 (.string (str l)) (some (.int .i64 x)) (some (.int .i64 y)) none).run Tryz.prog w = .ok (.string (str ((l.drop a).take (b-a)))) w:=by
 subst hx c;have d:(str l).size=l.length:=rfl;rw[run_slice_string_if w 9 _ _ _ a b Tryz.underlying9,if_pos o_,if_pos o_,pG];rfl
def yh(k a b:Nat)(e:a % 2 ^ k=0)(d:b<2 ^ k)(f:a+b<4611686018427387904):bits .or .i64 (a:Int) (b:Int)=((a+b:Nat):Int):=by
 have c:=nat_join k a b e d;show IntKind.i64.wrap ((BitVec.ofInt 64 (a:Int) ||| BitVec.ofInt 64 (b:Int)).toNat:Int)=_;have h1:(BitVec.ofInt 64 a).toNat=a:=o_
 have h2:(BitVec.ofInt 64 b).toNat=b:=o_
 rw[BitVec.toNat_or,h1,h2,c];exact IntWalk.i64_in _ o_
end Txt
namespace Nm
open List Go.RowKit Base Crc Tryz
def aM(n:Nat):Nat:=
 if n<128 then 1 else if n<16384 then 2 else if n<2097152 then 3 else if n<268435456 then 4 else if n<34359738368 then 5
 else if n<4398046511104 then 6 else if n<562949953421312 then 7 else if n<72057594037927936 then 8 else 9
def j7 n:1<=aM n/\aM n<=9:=by unfold aM;grind
def lead(s:Nat):Nat:=256-2 ^ (9-s)
def be:Nat->Nat->List UInt8
 |0,_=>[]
 |t+1,n=>bw (n / 256 ^ t)::be t n
def pj t n:(be t n).length=t:=by
 induction t with
 |zero=>rfl
 |succ t b=>simp[be,b]
def val(l:List UInt8):Nat:=l.foldl (λn b=>n*256+b.toNat) 0
def Je l a:l.foldl (λn b=>n*256+b.toNat) a=a*256 ^ l.length+val l:=by
 unfold val;induction l generalizing a with
 |nil=>simp
 |cons b l c=>grind
def F8 b l:val (b::l)=b.toNat*256 ^ l.length+val l:=by
 have:=Je l (0*256+b.toNat);rw[Nat.zero_mul,Nat.zero_add]at this;unfold val at this⊢;grind
def Fb l b:val (l++[b])=val l*256+b.toNat:=by
 unfold val;simp
def F9 l:val l<256 ^ l.length:=by
 induction l with
 |nil=>simp[val]
 |cons b l c=>
  rw[F8,length_cons,Nat.pow_succ];have:=b.toNat_lt;have h1:b.toNat*256 ^ l.length<=255*256 ^ l.length:=Nat.mul_le_mul_right _ o_;omega
def GJ b n(h:n % 256=b.toNat):bw n=b:=by
 unfold bw;apply UInt8.toNat_inj.1;rw[UInt8.toNat_ofNat'];omega
def QY t n:val (be t n)=n % 256 ^ t:=by
 induction t with
 |zero=>simp[be,val,Nat.mod_one]
 |succ t b=>
  rw[be,F8,pj,b,Nat.pow_succ,Nat.mod_mul];have:(bw _).toNat=n / 256 ^ t % 256:=o_
  grind
def bX(n:Nat):List UInt8:=bw (lead (aM n)+n / 256 ^ (aM n-1))::be (aM n-1) n
def j6 n:(bX n).length=aM n:=by
 unfold bX;rw[length_cons,pj];have:=j7 n;omega
def cP(x:Nat):Nat:=if x<128 then 0 else if x<192 then 1 else if x<224 then 2 else if x<240 then 3 else if x<248 then 4 else if x<252 then 5 else if x<254 then 6 else if x<255 then 7 else 8
def yf x:cP x<=8:=by unfold cP;grind
def Mq x(h:128<=x)(h2:x<256):cP x=cP (x*2 % 256)+1:=by
 have key:∀x:Fin 256,128<=x.val->cP x.val=cP (x.val*2 % 256)+1:=by decide +kernel
 exact key ⟨x,h2⟩ h
def nh(l:List UInt8)(s:Nat):Nat:=(if s=9 then 0 else(l.getD 0 0).toNat-lead s)*256 ^ (s-1)+val ((l.drop 1).take (s-1))
def ix(l:List UInt8):Option (Nat×Nat):=
 if l=[]then none else if l.length<cP (l.getD 0 0).toNat+1 then none
 else if aM (nh l (cP (l.getD 0 0).toNat+1))=cP (l.getD 0 0).toNat+1 then some (nh l (cP (l.getD 0 0).toNat+1),cP (l.getD 0 0).toNat+1)else none
def Mp s x(h:x<256)(h1:1<=s)(d:s<=9)(c:lead s<=x)(b:s<9->x<lead (s+1)):cP x+1=s:=by
 have key:∀s:Fin 10,∀x:Fin 256,1<=s.val->lead s.val<=x.val->(s.val<9->x.val<lead (s.val+1))->cP x.val+1=s.val:=by decide +kernel
 exact key ⟨s,o_⟩ ⟨x,h⟩ h1 c b
def Mb{n:Nat}(h:n<128):aM n<=1:=by unfold aM;grind
def LW{n:Nat}(h:¬n<128):2<=aM n:=by unfold aM;grind
def Mc{n:Nat}(h:n<16384):aM n<=2:=by unfold aM;grind
def LX{n:Nat}(h:¬n<16384):3<=aM n:=by unfold aM;grind
def CV{n:Nat}(h:n<2097152):aM n<=3:=by unfold aM;grind
def LY{n:Nat}(h:¬n<2097152):4<=aM n:=by unfold aM;grind
def Md{n:Nat}(h:n<268435456):aM n<=4:=by unfold aM;grind
def LZ{n:Nat}(h:¬n<268435456):5<=aM n:=by unfold aM;grind
def Me{n:Nat}(h:n<34359738368):aM n<=5:=by unfold aM;grind
def L'{n:Nat}(h:¬n<34359738368):6<=aM n:=by unfold aM;grind
def Mf{n:Nat}(h:n<4398046511104):aM n<=6:=by unfold aM;grind
def M8{n:Nat}(h:¬n<4398046511104):7<=aM n:=by unfold aM;grind
def Mg{n:Nat}(h:n<562949953421312):aM n<=7:=by unfold aM;grind
def M9{n:Nat}(h:¬n<562949953421312):8<=aM n:=by unfold aM;grind
def Mh{n:Nat}(h:n<72057594037927936):aM n<=8:=by unfold aM;grind
def Ma{n:Nat}(h:¬n<72057594037927936):9<=aM n:=by unfold aM;grind
def yN(n:Nat)(w:World)(g:n<18446744073709551616) :
 Calls Tryz.prog 255 #[.int .u64 n] w λe w'=>e = .returned (.int .i64 (aM n:Nat))/\w=w':=by
 clear g;go_enter Tryz.func255,Tryz.ntmps255;go_wp2;go_loop [3] (λv=>∃k:Nat,1<=k/\k<=aM n/\v = N k) (λv=>9-(intOf v).toNat)
 case atStart=>exact⟨1,o_,(j7 n).1,rfl⟩
 .obtain⟨k,h1,h2,rfl⟩:=hrel;have f:=(j7 n).2;have hk:k=1\/k=2\/k=3\/k=4\/k=5\/k=6\/k=7\/k=8\/k=9:=o_;clear h1 f;obtain rfl|rfl|rfl|rfl|rfl|rfl|rfl|rfl|rfl:=hk
  .by_cases b:n<128
   .have c:=J (show aM n=1 by have:=Mb b;omega);have d:((n:Int) / 128 == 0)=true:=o_;clear b;go_wp2;go_ret;rw[c.out];simp
   .have c:=J (LW b);have d:((n:Int) / 128 == 0)=false:=o_;clear b;go_wp2;go_round
    case rel=>exact⟨2,o_,c.out,rfl⟩
    case measure=>simp[intOf]
  .by_cases b:n<16384
   .have c:=J (show aM n=2 by have:=Mc b;omega);have d:((n:Int) / 16384 == 0)=true:=o_;clear b;go_wp2;go_ret;rw[c.out];simp
   .have c:=J (LX b);have d:((n:Int) / 16384 == 0)=false:=o_;clear b;go_wp2;go_round
    case rel=>exact⟨3,o_,c.out,rfl⟩
    case measure=>simp[intOf]
  .by_cases b:n<2097152
   .have c:=J (show aM n=3 by have:=CV b;omega);have d:((n:Int) / 2097152 == 0)=true:=o_;clear b;go_wp2;go_ret;rw[c.out];simp
   .have c:=J (LY b);have d:((n:Int) / 2097152 == 0)=false:=o_;clear b;go_wp2;go_round
    case rel=>exact⟨4,o_,c.out,rfl⟩
    case measure=>simp[intOf]
  .by_cases b:n<268435456
   .have c:=J (show aM n=4 by have:=Md b;omega);have d:((n:Int) / 268435456 == 0)=true:=o_;clear b;go_wp2;go_ret;rw[c.out];simp
   .have c:=J (LZ b);have d:((n:Int) / 268435456 == 0)=false:=o_;clear b;go_wp2;go_round
    case rel=>exact⟨5,o_,c.out,rfl⟩
    case measure=>simp[intOf]
  .by_cases b:n<34359738368
   .have c:=J (show aM n=5 by have:=Me b;omega);have d:((n:Int) / 34359738368 == 0)=true:=o_;clear b;go_wp2;go_ret;rw[c.out];simp
   .have c:=J (L' b);have d:((n:Int) / 34359738368 == 0)=false:=o_;clear b;go_wp2;go_round
    case rel=>exact⟨6,o_,c.out,rfl⟩
    case measure=>simp[intOf]
  .by_cases b:n<4398046511104
   .have c:=J (show aM n=6 by have:=Mf b;omega);have d:((n:Int) / 4398046511104 == 0)=true:=o_;clear b;go_wp2;go_ret;rw[c.out];simp
   .have c:=J (M8 b);have d:((n:Int) / 4398046511104 == 0)=false:=o_;clear b;go_wp2;go_round
    case rel=>exact⟨7,o_,c.out,rfl⟩
    case measure=>simp[intOf]
  .by_cases b:n<562949953421312
   .have c:=J (show aM n=7 by have:=Mg b;omega);have d:((n:Int) / 562949953421312 == 0)=true:=o_;clear b;go_wp2;go_ret;rw[c.out];simp
   .have c:=J (M9 b);have d:((n:Int) / 562949953421312 == 0)=false:=o_;clear b;go_wp2;go_round
    case rel=>exact⟨8,o_,c.out,rfl⟩
    case measure=>simp[intOf]
  .by_cases b:n<72057594037927936
   .have c:=J (show aM n=8 by have:=Mh b;omega);have d:((n:Int) / 72057594037927936 == 0)=true:=o_;clear b;go_wp2;go_ret;rw[c.out];simp
   .have c:=J (Ma b);have d:((n:Int) / 72057594037927936 == 0)=false:=o_;clear b;go_wp2;go_round
    case rel=>exact⟨9,o_,c.out,rfl⟩
    case measure=>simp[intOf]
  .have c:=J (show aM n=9 by have:=(j7 n).2;omega);go_wp2;go_ret;rw[c.out];simp
def rb(s:Nat)(w:World)(h1:1<=s)(b:s<=9) :
 Calls Tryz.prog 254 #[.int .i64 s] w λe w'=>e = .returned (.int .u8 (lead s:Nat))/\w=w':=by
 have hk:s=1\/s=2\/s=3\/s=4\/s=5\/s=6\/s=7\/s=8\/s=9:=o_;clear h1 b;obtain rfl|rfl|rfl|rfl|rfl|rfl|rfl|rfl|rfl:=hk
 all_goals
  go_enter Tryz.func254,Tryz.ntmps254;go_wp2;go_ret;trivial
def Gd(x:Nat)(h:x<256):bits .and .u8 (x:Int) 128=if x<128 then 0 else 128:=by
 have key:∀x:Fin 256,bits .and .u8 x.val 128=if x.val<128 then 0 else 128:=by decide +kernel
 exact key ⟨x,h⟩
def Mo(x:Nat)(w:World)(h:x<256) :
 Calls Tryz.prog 253 #[.int .u8 x] w λe w'=>e = .returned (.int .i64 (cP x:Nat))/\w=w':=by
 go_enter Tryz.func253,Tryz.ntmps253;go_wp2;go_loop [0,3] (λd n=>∃y k:Nat,y<256/\k+cP y=cP x/\d = .int .u8 (y:Nat)/\n = N k) (λd _=>cP (intOf d).toNat)
 case atStart=>grind
 .obtain⟨y,k,g,hk,rfl,rfl⟩:=hrel;have m:=yf x;have p:k<=8:=o_;have f:=Gd y g;by_cases b:y<128
  .rw[if_pos b]at f;have h0:=J (show cP y=0 by unfold cP;grind);go_wp2;go_ret;have:=hk;rw[h0.out]at this;rw[<-this];simp
  .rw[if_neg b]at f;have c:=J (Mq y o_ g);go_wp2;go_round
   case rel=>exact⟨y*2 % 256,k+1,o_,by have h2:=c.out;omega,o_,o_⟩
   .simp only[intOf];have h2:=c.out;grind
end Nm
namespace Plain
open List Go.RowKit Base Crc Tryz
def rO{P:Program}{f:FuncId}{args:AV}{w:World}{n:Nat}{v:Value}
 (h:Calls P f args (w.drewN n) λe w'=>e = .returned v/\w.drewN n=w'):Calls P f args (w.drewN n) λe b=>e = .returned v/\∃m,b=w.drewN m:=
 h.mono λ_ _⟨c,d⟩=>⟨c,n,d.symm⟩
end Plain
namespace Nm
open List Go.RowKit Base Crc Txt Plain Tryz
def Db(k a b:Nat)(e:a % 2 ^ k=0)(d:b<2 ^ k)(f:a+b<18446744073709551616):bits .or .u64 (a:Int) (b:Int)=((a+b:Nat):Int):=by
 have c:=nat_join k a b e d;show IntKind.u64.wrap ((BitVec.ofInt 64 (a:Int) ||| BitVec.ofInt 64 (b:Int)).toNat:Int)=_;have h1:(BitVec.ofInt 64 a).toNat=a:=o_
 have h2:(BitVec.ofInt 64 b).toNat=b:=o_
 rw[BitVec.toNat_or,h1,h2,c,IntKind.wrap_u64];omega
def Gf(x:Nat)(h:x<256):bits .andNot .u8 (x:Int) ((lead (cP x+1):Nat):Int)=((x-lead (cP x+1):Nat):Int):=by
 have key:∀x:Fin 256,bits .andNot .u8 x.val (lead (cP x.val+1):Nat)=(x.val-lead (cP x.val+1):Nat):=by decide +kernel
 exact key ⟨x,h⟩
def JC x(h:x<256):x-lead (cP x+1)<=127/\(cP x+1=9->x-lead (cP x+1)=0):=by
 have key:∀x:Fin 256,x.val-lead (cP x.val+1)<=127/\(cP x.val+1=9->x.val-lead (cP x.val+1)=0):=by decide +kernel
 exact key ⟨x,h⟩
def ic(l:List UInt8)(h i:Nat):Nat:=h*256 ^ i+val ((l.drop 1).take i)
def CZ l h:ic l h 0=h:=by simp[ic,val]
def CY l h i(hi:i+1<l.length):ic l h (i+1)=ic l h i*256+(l.getD (i+1) 0).toNat:=by
 unfold ic;have h1:i<(l.drop 1).length:=o_
 rw[take_succ_eq_append_getElem h1,Fb,Nat.pow_succ];grind
def tT l h i(e:h<=127)(d:i=8->h=0)(hi:i<=8)(c:i+1<=l.length):ic l h i<18446744073709551616:=by
 have b:=F9 ((l.drop 1).take i);rw[length_take,length_drop,Nat.min_eq_left o_]at b;unfold ic;generalize val _=v at*;have hk:i=0\/i=1\/i=2\/i=3\/i=4\/i=5\/i=6\/i=7\/i=8:=o_;grind
def CX l h i(e:h<=127)(d:i=7->h=0)(hi:i<=7)(c:i+1<=l.length):ic l h i<72057594037927936:=by
 have b:=F9 ((l.drop 1).take i);rw[length_take,length_drop,Nat.min_eq_left o_]at b;unfold ic;generalize val _=v at*;have hk:i=0\/i=1\/i=2\/i=3\/i=4\/i=5\/i=6\/i=7:=o_;grind
def rZ:Value:= .tuple #[.int .u64 0,I 0,.bool false]
def take_nil w :
 Calls Tryz.prog 191 #[.string ⟨#[]⟩] w λe w'=>e = .returned rZ/\Below w.heap.size w w':=by
 go_enter Tryz.func191,Tryz.ntmps191;go_wp2;go_ret3;exact⟨rfl,bR⟩
def take_cons l w(h0:l≠[])(hm:l.length<=1000000)(P:Ending->World->Prop)(hyes:∀n s,ix l=some (n,s)->∀w',E w w'->P (.returned (.tuple #[.int .u64 (n:Nat),N s,.bool true])) w')(hno:ix l=none->∀w',E w w'->P (.returned rZ) w') :
 Calls Tryz.prog 191 #[.string (str l)] w P:=by
 have hpos:=length_pos_iff.2 h0;have HI0:∀W,(Instr.index 9 _ (.int _ 0)).run _ W = .ok _ W:=mW l 0 o_;have HIn:=J (λj hj=>mW l j hj);have hx:=(l.getD 0 0).toNat_lt;have hes:(str l).toList.isEmpty=false:=by rw[ByteArray.toList_eq,ig];grind
 have hnt:ix l=if l.length<cP (l.getD 0 0).toNat+1 then none else if aM (nh l (cP (l.getD 0 0).toNat+1))=cP (l.getD 0 0).toNat+1 then some (nh l (cP (l.getD 0 0).toNat+1),cP (l.getD 0 0).toNat+1)else none:=by
  unfold ix;grind
 have hob:=yf (l.getD 0 0).toNat;have HO:=J (λw=>Mo _ w hx);have HAN:=Gf _ hx;obtain⟨hd1,hd2⟩:=JC _ hx;have hnv:nh l (cP (l.getD 0 0).toNat+1)=ic l ((l.getD 0 0).toNat-lead (cP (l.getD 0 0).toNat+1)) (cP (l.getD 0 0).toNat):=by
  unfold nh ic;rw[Nat.add_sub_cancel];by_cases h9:cP (l.getD 0 0).toNat+1=9
  .grind
  .grind
 rw[hnv]at hnt;have hsl:(str l).size=l.length:=rfl;have Hnt:=J hnt;have Hyes:=J hyes;have Hno:=J hno;have hF:=λw=>rb (cP _+1) w o_ o_
 rw[show((cP _+1:Nat):Int)=(cP (l.getD 0 0).toNat)+1 by omega]at hF;generalize(l.getD 0 0).toNat=x at*;generalize cP x=k at*;generalize hH:x-lead _=H at*;generalize lead _=L at*;generalize str l=S at*;by_cases hshort:l.length<k+1
 .have hno:=J (Hno r_)
  clear HAN;go_enter Tryz.func191,Tryz.ntmps191;go_wp2_with fail;apply(HO _).mono;rintro e w'⟨rfl,rfl⟩;go_wp2;go_ret3;exact hno.out _ bR
 .have hsh:¬ S.size<(k:Int)+1:=o_
  have hHw:IntKind.u64.wrap H=H:=by rw[IntKind.wrap_u64];omega
  go_enter Tryz.func191,Tryz.ntmps191;go_wp2_with fail;apply(HO _).mono;rintro e w'⟨rfl,rfl⟩;go_wp2
  go_quiet ((go_at_call 254;exact rO (hF _)))
  clear HAN hHw HI0;by_cases hk8:k=8
  .have hH0:=J (hd2 o_);have h9:((k:Int)+1 == 9)=true:=o_
   clear hk8;go_wp2
   go_loop [6,7] (λv6 v7=>∃i:Nat,i<=k/\v7 = I ((i:Int)+1)/\v6 = .int .u64 (ic l H i:Nat)) (λ_ v7=>10-(intOf v7).toNat)
   case atStart=>exact⟨0,o_,rfl,by rw[CZ,hH0.out];rfl⟩
   .obtain⟨i,hi,rfl,rfl⟩:=hrel;by_cases hik:i<k
    .have hj:i+1<l.length:=o_
     have HI:∀W,(Instr.index 9 _ (.int _ (i+1))).run _ W = .ok _ W:=HIn (i+1) hj;have hsm:=CX l H i o_ (λh7=>hd2 o_) o_ o_;have hnx:=CY l H i hj;have hbl:=(l.getD (i+1) 0).toNat_lt;have hlt:=tT l H (i+1) o_ (λh8=>hd2 o_) o_ o_;have Hnx:=J hnx;have Hlt:=J hlt;generalize ic l H i=m at*;generalize(l.getD _ 0).toNat=y at*;have hor:bits .or .u64 (m*256) y=m*256+y:=by
      have h:=Db 8 (m*256) y o_ o_ o_;rw[show(m*256:Nat)=(m:Int)*256 by omega,show(m*256+y:Nat)=m*256+(y:Int) by omega]at h;omega
     go_wp2
     go_round
     case rel=>grind
     case measure=>simp[intOf];omega
    .have hike:i=k:=o_
     subst hike;have hlt:=tT l H i o_ (λh8=>hd2 o_) o_ o_;have HS:=J (λw=>yN _ w o_);have hnt:=Hnt;rw[if_neg o_]at hnt;have HNT:=J hnt;generalize ic l H i=m at*;by_cases hsz2:aM m=i+1
     .have hyes:=J (Hyes m (i+1) r_);have hne:((aM m:Nat) != (i:Int)+1)=false:=o_
      clear hsz2;go_wp2_with fail;apply(HS _).mono;rintro e w'⟨rfl,rfl⟩;go_wp2;go_ret3;exact hyes.out _ (below_drewN bR _)
     .have hno:=J (Hno r_);have hne:((aM m:Nat) != (i:Int)+1)=true:=o_
      clear hsz2;go_wp2_with fail;apply(HS _).mono;rintro e w'⟨rfl,rfl⟩;go_wp2;go_ret3;exact hno.out _ (below_drewN bR _)
  .have h9:((k:Int)+1 == 9)=false:=o_
   clear hk8;go_wp2
   go_loop [6,7] (λv6 v7=>∃i:Nat,i<=k/\v7 = I ((i:Int)+1)/\v6 = .int .u64 (ic l H i:Nat)) (λ_ v7=>10-(intOf v7).toNat)
   case atStart=>exact⟨0,o_,rfl,by rw[CZ]⟩
   .obtain⟨i,hi,rfl,rfl⟩:=hrel;by_cases hik:i<k
    .have hj:i+1<l.length:=o_
     have HI:∀W,(Instr.index 9 _ (.int _ (i+1))).run _ W = .ok _ W:=HIn (i+1) hj;have hsm:=CX l H i o_ (λh7=>hd2 o_) o_ o_;have hnx:=CY l H i hj;have hbl:=(l.getD (i+1) 0).toNat_lt;have hlt:=tT l H (i+1) o_ (λh8=>hd2 o_) o_ o_;generalize ic l H i=m at*;generalize(l.getD _ 0).toNat=y at*;have hor:bits .or .u64 (m*256) y=m*256+y:=by
      have h:=Db 8 (m*256) y o_ o_ o_;rw[show(m*256:Nat)=(m:Int)*256 by omega,show(m*256+y:Nat)=m*256+(y:Int) by omega]at h;omega
     go_wp2
     go_round
     case rel=>grind
     case measure=>simp[intOf];omega
    .have hike:i=k:=o_
     subst hike;have hlt:=tT l H i o_ (λh8=>hd2 o_) o_ o_;have HS:=J (λw=>yN _ w o_);have hnt:=Hnt;rw[if_neg o_]at hnt;generalize ic l H i=m at*;by_cases hsz2:aM m=i+1
     .have hyes:=J (Hyes m (i+1) r_);have hne:((aM m:Nat) != (i:Int)+1)=false:=o_
      clear hsz2;go_wp2_with fail;apply(HS _).mono;rintro e w'⟨rfl,rfl⟩;go_wp2;go_ret3;exact hyes.out _ (below_drewN bR _)
     .have hno:=J (Hno r_);have hne:((aM m:Nat) != (i:Int)+1)=true:=o_
      clear hsz2;go_wp2_with fail;apply(HS _).mono;rintro e w'⟨rfl,rfl⟩;go_wp2;go_ret3;exact hno.out _ (below_drewN bR _)
def rX s n z w(c:s.size<=1000000)(h:ix s.data.toList=some (n,z)) :
 Calls Tryz.prog 191 #[.string s] w λe w'=>e = .returned (.tuple #[.int .u64 (n:Nat),.int .i64 (z:Nat),.bool true])/\Below w.heap.size w w':=by
 have h0:s.data.toList≠[]:=by
  intro e;rw[e]at h;trivial
 have:=take_cons _ w h0 o_ (R_ (.tuple #[.int .u64 n,.int .i64 z,.bool true]) w)
  (λd f h' w' b=>r_) (λh'=>r_)
 rw[qo]at this;omega
def EM s w(c:s.size<=1000000)(h:ix s.data.toList=none) :
 Calls Tryz.prog 191 #[.string s] w λe w'=>e = .returned rZ/\Below w.heap.size w w':=by
 by_cases h0:s.data.toList=[]
 .have e:s=⟨#[]⟩:=by rw[<-qo s,h0];rfl
  subst e;exact take_nil w
 .have:=take_cons _ w h0 o_ (R_ _ w)
   (λd f h'=>r_) (λ_ w' b=>⟨rfl,b⟩)
  rw[qo]at this;omega
abbrev jw(l:List UInt8):AV:=(l.map λb=>Value.int .u8 (b.toNat:Int)).toArray
def nine(s n t:Nat):List UInt8:=replicate (s-t) 0++be t n++replicate (9-s) 0
def Ly(s n:Nat)(h:s<=9):nine s n 0=replicate 9 0:=by
 unfold nine;rw[be,append_nil,replicate_append_replicate];congr 1;omega
def Lx(s n t:Nat)(h:t<s):(nine s n t).set (s-1-t) (bw (n / 256 ^ t))=nine s n (t+1):=by
 unfold nine;have e:s-t=(s-(t+1))+1:=o_;rw[e,replicate_succ',append_assoc,append_assoc,append_assoc];rw[show s-1-t=(replicate (s-(t+1)) (0:UInt8)).length by simp;omega];rw[set_append_right _ _ o_,Nat.sub_self];rfl
def CJ(s n t:Nat)(h:t<=s)(b:s<=9):(nine s n t).length=9:=by
 unfold nine;simp[pj];omega
def wL(l:List UInt8)(i:Nat)(b:UInt8):(jw l).setIfInBounds i (.int .u8 (b.toNat:Int))=jw (l.set i b):=by grind
def CI(n s:Nat)(c:s=aM n)(h:n<18446744073709551616):∃b r,nine s n s=b::r/\b.toNat=n / 256 ^ (s-1) % 256/\(s<9->(bw (lead s+b.toNat))::r.take (s-1)=bX n)/\(s=9->(bw 255)::r.take (s-1)=bX n)/\(s<9->b.toNat<2 ^ (8-s)):=by
 have f:=j7 n;obtain⟨t,rfl⟩:∃t,s=t+1:=⟨s-1,o_⟩;refine⟨bw (n / 256 ^ t),be t n++replicate (9-(t+1)) 0,?_,?_,?_,?_,?_⟩
 .unfold nine;rw[Nat.sub_self,be];rfl
 .rfl
 all_goals(try rw[Nat.add_sub_cancel])
 .intro d;have e:(bw _).toNat=n / 256 ^ t % 256:=o_
  rw[take_left' (pj t n)];unfold bX;rw[<-c,Nat.add_sub_cancel,e];congr 1;apply GJ;unfold bw;simp
 .intro d;rw[take_left' (pj t n)];unfold bX;rw[<-c,Nat.add_sub_cancel];congr 1;have:t=8:=o_;subst this;rw[Nat.div_eq_of_lt h];decide
 .intro d;have e:(bw _).toNat=n / 256 ^ t % 256:=o_
  rw[e];have hk:t=0\/t=1\/t=2\/t=3\/t=4\/t=5\/t=6\/t=7:=o_;unfold aM at c;rcases hk with rfl|rfl|rfl|rfl|rfl|rfl|rfl|rfl<;>simp at c⊢<;>(grind)
def MG(s b:Nat)(h1:1<=s)(c:s<9)(d:b<2 ^ (8-s)):bits .or .u8 (b:Int) ((lead s:Nat):Int)=((bw (lead s+b)).toNat:Int):=by
 have key:∀s:Fin 9,∀b:Fin 128,1<=s.val->b.val<2 ^ (8-s.val)->bits .or .u8 b.val (lead s.val:Nat)=((bw (lead s.val+b.val)).toNat):=by decide +kernel
 have h2:b<128:=by
  have:2 ^ (8-s)<=2 ^ 7:=Nat.pow_le_pow_right o_ o_;omega
 exact key ⟨s,c⟩ ⟨b,h2⟩ h1 d
def wR{w:World}{g:Nat}{t:TypeId}(l:List UInt8)(s c:Nat)(b:aa w g t (jw l))(d:s<=l.length) :
 (convert 148 9 (.slice (some ⟨g,0,none⟩) s c)).run Tryz.prog w = .ok (.string (str (l.take s))) w:=by
 have h:=run_convert_bytes_back w 148 9 5 ⟨g,0,none⟩ c (l.take s) Tryz.underlying148 Tryz.underlying5 Tryz.underlying9 ?_
 .rw[length_take,Nat.min_eq_left d]at h;exact h
 .intro j e;rw[length_take]at e;rw[jS,Nat.zero_add,b.cell];grind
def PN(g t:Nat)(W:World)(h1:1<=t)(b:t<=9):(Instr.sliceAt 398 (.pointer (some ⟨g,0,none⟩)) none (some (.int .i64 (t:Int))) none).run Tryz.prog W = .ok (.slice (some ⟨g,0,none⟩) t 9) W:=by
 have hk:t=1\/t=2\/t=3\/t=4\/t=5\/t=6\/t=7\/t=8\/t=9:=o_;obtain rfl|rfl|rfl|rfl|rfl|rfl|rfl|rfl|rfl:=hk
 all_goals(rfl)
def NV(n:Nat)(w:World)(hn:n<18446744073709551616) :
 Calls Tryz.prog 217 #[.int .u64 n] w λe w'=>e = .returned (.string (str (bX n)))/\Below w.heap.size w w':=by
 have HSz:=kp (λw=>yN n w hn);have hbd:=j7 n;obtain⟨b0,r0,hf1,hf2,hf3,(Hf4:Kp _),hf5⟩:=CI n _ rfl hn;have Hlen:=J (CJ _ n (aM n) (ae _) o_);have HF:=J (λw=>rb _ w o_ hbd.2);have hz0:=J (Ly _ n hbd.2);have hset:=J (λt h=>Lx (aM n) n t h);have hdv:Kp (∀t,n / 256 ^ t<18446744073709551616):=λt=>Nat.lt_of_le_of_lt (Nat.div_le_self _ _) hn;have hstep:=kp (show∀t,n / 256 ^ (t+1)=n / 256 ^ t / 256 fromλt=>by rw[Nat.pow_succ,Nat.div_div_eq_div_mul]);clear hf2 hn;generalize hS:aM n=S at*;go_enter Tryz.func217,Tryz.ntmps217;go_wp2_with fail;apply(HSz _).mono;rintro e w'⟨rfl,rfl⟩;go_wp2
 go_loopw [0,5] (λv0 v5 wr=>∃t:Nat,(t<S/\(∃j:Nat,v5 = .int .i64 (j:Nat)/\j+t+1=S)\/t=S/\v5 = .int .i64 (-1))/\v0 = .int .u64 (n / 256 ^ t:Nat)/\aa wr w.heap.size 398 (jw (nine S n t))/\Below w.heap.size w wr) (λ_ v5 _=>(intOf v5+1).toNat)
 .refine⟨0,.inl ⟨o_,S-1,o_,o_⟩,s_,?_,(by repeat(first|exact ah _ _|assumption|refine Below.drew ?_|(refine Below.alloc ?_ o_ _)|(refine Below.setCell ?_ o_ _)))⟩;rw[hz0.out];exact aa.lay rfl
 .obtain⟨t,hcase,rfl,hbox,hbe⟩:=hrel;have Hst:=J (hstep.out t);obtain⟨ht,j,rfl,hj⟩|⟨rfl,rfl⟩:=hcase
  .have hcell:wr.cell? ⟨w.heap.size,j,none⟩=some (.int .u8 (((nine S n t).getD j 0).toNat)):=by
    rw[hbox.cell];have hl:=CJ S n t o_ o_;grind
   have hfree:=hbox.free j
   have hnew:=J (show aa (wr.setCell (M w.heap.size j) (.int .u8 ((n / 256 ^ t:Nat) % 256))) w.heap.size 398 (jw (nine S n (t+1))) by
    have h:=hbox.set j (.int .u8 ((bw (n / 256 ^ t)).toNat));rw[wL,show j=S-1-t by omega,hset.out t ht]at h;rw[show j=S-1-t by omega];have e:((bw (n / 256 ^ t)).toNat)=(n / 256 ^ t:Nat) % 256:=o_
    grind)
   have hj9:j<9:=o_
   clear hbox;generalize n / 256 ^ t=m at*;go_wp2;refine⟨⟨_,?_,?_,hnew.out,hbe.setCell o_ _⟩,?_⟩
   .by_cases h0:j=0
    .grind
    .exact .inl ⟨o_,j-1,congrArg _ o_,o_⟩
   .rw[Hst];rfl
   .show((j:Int)-1+1).toNat<((j:Int)+1).toNat;omega
  .have hb1:=hbox;rw[hf1]at hb1;have hc0:wr.cell? ⟨w.heap.size,0,none⟩=some (.int .u8 b0.toNat):=by rw[hb1.cell];rfl
   have hfree:=hbox.free 0;have hrl:r0.length=8:=by have:=Hlen.o;rw[hf1]at this;grind
   have Hrl:=J hrl
   have hset0:=J (λx=>show aa (wr.setCell (M w.heap.size 0) (.int .u8 x.toNat)) w.heap.size 398 (jw (x::r0)) by
    have h:=hb1.set 0 (.int .u8 x.toNat);grind)
   clear hbox hb1 hrl Hst;generalize n / 256 ^ t=m at*;by_cases h9:t<9
   .have hor:=MG t _ o_ h9 (hf5 h9);have Hfin:=J (hf3 h9);have h9I:(t:Int)<9:=o_
    have Hb:=J (hset0.out (bw (lead t+b0.toNat)));have Hcv:=J (λW(hW:aa W w.heap.size 398 _)=>wR (bw (lead t+b0.toNat)::r0) t 9 hW (by rw[length_cons,Hrl];omega))
    have htk:=J (show(bw (lead t+b0.toNat)::r0).take t=bX n by
     rw[<-Hfin,show t=(t-1)+1 by omega,take_succ_cons,Nat.add_sub_cancel])
    generalize bw _=B at*;generalize b0.toNat=y0 at*;generalize lead t=L at*;generalize B.toNat=yB at*;go_wp2
    go_region_with((go_at_call 254;apply(HF _).mono;rintro e w'⟨rfl,rfl⟩))
    all_goals
     have hcv:=Hcv _ (show aa ((wr.setCell _ _).drew) _ _ _ from Hb);have hsl:=PN w.heap.size t ((wr.setCell (M w.heap.size 0) (.int .u8 yB)).drew) o_ o_;go_wp2;go_ret;exact⟨by rw[htk.out];rfl,(hbe.setCell o_ _).drew⟩
   .have ht9:t=9:=o_
    subst ht9;have Hfin:=J (Hf4 rfl);have Hcv:=J (λW(hW:aa W w.heap.size 398 _)=>wR (bw 255::r0) 9 9 hW (by rw[length_cons,Hrl];omega))
    have htk:=J (show(bw _::r0).take 9=bX n by
     trivial)
    have hcv:=Hcv _ (show aa (wr.setCell _ (.int _ 255)) _ _ _ from(hset0.out (bw 255)));have hF9:∀w,Calls _ _ #[.int _ 9] w λe w'=>e = .returned (.int _ 255)/\w=w':=HF
    have HF9:=J hF9;go_wp2_with fail;apply(HF9 _).mono;rintro e w'⟨rfl,rfl⟩;go_wp2;go_ret;exact⟨by first|(rfl)|(rw[Hfin];rfl),hbe.setCell o_ _⟩
end Nm
namespace Pg
open List Go.RowKit Base Crc Go.Proofs.Tryz
def j8(k:UInt8):Bool:=k == 67||k == 78||k == 77
def hd(k:UInt8)(i n:Nat):List UInt8:=[k,bw (i / 65536),bw (i / 256),bw i,bw (n / 256),bw n]
def fM(n:Nat):List UInt8:=replicate n 0
def inner(k:UInt8)(i:Nat)(s:List UInt8):List UInt8:=hd k i s.length++s++fM (246-s.length)
def pg(k:UInt8)(i:Nat)(s:List UInt8):List UInt8:=closed (inner k i s)
def qi(k:UInt8)(i:Int)(n:Nat):Int:=if j8 k&&decide (0<=i)&&decide (i<=16777215)then(if 246<n then 5 else 0)else 2
def xZ n:(fM n).length=n:=by simp[fM]
def JU k i s(h:s.length<=246):(inner k i s).length=252:=by
 unfold inner;rw[aE,aE,xZ];simp[hd];omega
def qb k i s(h:s.length<=246):(pg k i s).length=256:=by
 unfold pg closed;rw[aE,JU k i s h];rfl
def nb(l:List UInt8)(i:Nat):Nat:=(l.getD i 0).toNat
def idxOf(l:List UInt8):Nat:=nb l 1*65536+nb l 2*256+nb l 3
def lenOf(l:List UInt8):Nat:=nb l 4*256+nb l 5
def iW(l:List UInt8):List UInt8:=(l.drop 6).take (lenOf l)
def ft(l:List UInt8):UInt8:=l.getD 0 0
def py b n(h:n % 256=b.toNat):bw n=b:=by
 unfold bw;apply UInt8.toNat_inj.1;rw[UInt8.toNat_ofNat'];omega
def pU l i:nb l i<256:=(l.getD i 0).toNat_lt
def Jz l(h:6<=l.length):hd (ft l) (idxOf l) (lenOf l)=l.take 6:=by
 obtain⟨a,l,rfl⟩:=exists_cons_of_length_pos (l:=l) o_;obtain⟨b,l,rfl⟩:=exists_cons_of_length_pos (l:=l) r_;obtain⟨c,l,rfl⟩:=exists_cons_of_length_pos (l:=l) r_;obtain⟨d,l,rfl⟩:=exists_cons_of_length_pos (l:=l) r_;obtain⟨e,l,rfl⟩:=exists_cons_of_length_pos (l:=l) r_;obtain⟨f,l,rfl⟩:=exists_cons_of_length_pos (l:=l) r_;have h1:=b.toNat_lt;have h2:=c.toNat_lt;have g:=d.toNat_lt;have m:=e.toNat_lt;have n:=f.toNat_lt;unfold hd ft idxOf lenOf nb;simp;exact⟨py _ _ o_,py _ _ o_,py _ _ o_,py _ _ o_,py _ _ o_⟩
def Ln k i n r(hi:i<=16777215)(b:n<=246):ft (hd k i n++r)=k/\idxOf (hd k i n++r)=i/\lenOf (hd k i n++r)=n:=by
 unfold hd ft idxOf lenOf nb;simp only[cons_append,getD_cons_zero,getD_cons_succ,bw,UInt8.toNat_ofNat',true_and];omega
def jY(p:List UInt8):Bool:=decide (p.length=256)&&isClosed p&&j8 (ft p)&&decide (lenOf p<=246)&&decide ((front p).drop (6+lenOf p)=fM (246-lenOf p))
def pK p i(h:i+4<p.length):(front p).getD i 0=p.getD i 0:=by
 unfold front;grind
def Bq p(h:p.length=256):ft (front p)=ft p/\idxOf (front p)=idxOf p/\lenOf (front p)=lenOf p:=by
 unfold ft idxOf lenOf nb;rw[(pK p 0 o_),pK p 1 o_,pK p 2 o_,pK p 3 o_,pK p 4 o_,(pK p 5 o_)];simp
def GB p(h:p.length=256)(b:lenOf p<=246):(iW p).length=lenOf p:=by
 unfold iW;grind
def AD p(h:p.length=256)(b:lenOf p<=246):((front p).drop 6).take (lenOf p)=iW p:=by
 unfold iW front;rw[drop_take,take_take];congr 1;omega
def BO p(h:p.length=256)(b:lenOf p<=246):inner (ft p) (idxOf p) (iW p)=(front p).take (6+lenOf p)++fM (246-lenOf p):=by
 unfold inner;rw[GB p h b];obtain⟨h0,h1,h2⟩:=Bq p h;have d:(front p).length=252:=by unfold front;rw[length_take];omega
 have c:=Jz (front p) o_;rw[h0,h1,h2]at c;rw[c,<-AD p h b,take_add]
def Nk p(h:p.length=256)(hk:j8 (ft p)=true)(c:lenOf p<=246):(pg (ft p) (idxOf p) (iW p)=p)↔jY p=true:=by
 have g:(front p).length=252:=by unfold front;rw[length_take];omega
 have b:front p=(front p).take (6+lenOf p)++(front p).drop (6+lenOf p):=o_;unfold jY;simp only[h,hk,c,decide_true,Bool.true_and,Bool.and_true,Bool.and_eq_true,decide_eq_true_eq];rw[JX];constructor
 .intro d;unfold pg at d;have h1:front p=inner (ft p) (idxOf p) (iW p):=by
   have:=congrArg front d;rw[Io]at this;grind
  refine⟨⟨o_,r_⟩,?_⟩;rw[BO p h c]at h1;grind
 .rintro⟨⟨_,f⟩,e⟩;unfold pg;rw[BO p h c,<-e,take_append_drop];omega
def BR k i s(hk:j8 k=true)(hi:i<=16777215)(b:s.length<=246):jY (pg k i s)=true/\ft (pg k i s)=k/\idxOf (pg k i s)=i/\iW (pg k i s)=s:=by
 have c:pg k i s=hd k i _++(s++fM _++iO _):=rfl
 obtain⟨h0,h1,h2⟩:=Ln k i _ (s++fM (246-s.length)++iO (more 0 (inner k i s))) hi b;rw[<-c]at h0 h1 h2;have d:iW (pg k i s)=s:=by
  unfold iW;rw[h2,c];have:(hd k i s.length).length=6:=rfl;grind
 refine⟨(Nk _ (qb k i s b) r_ o_).1 r_,h0,h1,d⟩
end Pg
namespace Nm
open List Go.RowKit Base Crc Txt Plain Go.Proofs.Tryz
def GK(n s:Nat)(hs:s=aM n)(h:n<18446744073709551616):lead s+n / 256 ^ (s-1)<=255:=by
 have hb:=j7 n;have hk:s=1\/s=2\/s=3\/s=4\/s=5\/s=6\/s=7\/s=8\/s=9:=o_
 unfold aM at hs;rcases hk with rfl|rfl|rfl|rfl|rfl|rfl|rfl|rfl|rfl<;>simp[lead]at hs⊢<;>(repeat(first|omega|split at hs))
def KB s(h1:1<=s)(b:s<=8):Nm.lead (s+1)=Nm.lead s+2 ^ (8-s):=by
 have key:∀s:Fin 9,1<=s.val->Nm.lead (s.val+1)=Nm.lead s.val+2 ^ (8-s.val):=by decide +kernel
 exact key ⟨s,o_⟩ h1
def tS x r(hx:x<18446744073709551616):Nm.ix (Nm.bX x++r)=some (x,Nm.aM x):=by
 obtain⟨A,z,_,y,_,_,n⟩:=Nm.CI x _ rfl hx;have g:=Nm.j7 x;have b:=Nm.GK x _ rfl hx;have c:=Nm.j6 x;have h0:(Nm.bX x++r).getD 0 0=bw _:=rfl;have s:((Nm.bX x++r).getD 0 0).toNat=Nm.lead (Nm.aM x)+x / 256 ^ (Nm.aM x-1):=by
  rw[h0];unfold bw;rw[UInt8.toNat_ofNat'];grind
 have q:x / 256 ^ (Nm.aM x-1)<256:=o_;rw[Nat.mod_eq_of_lt q]at y;have u:Nm.cP ((Nm.bX x++r).getD 0 0).toNat+1=Nm.aM x:=by
  rw[s];refine Nm.Mp _ _ o_ o_ o_ o_ (λm=> ?_);rw[KB _ o_ o_];have:=n m;omega
 have d:((Nm.bX x++r).drop 1).take (Nm.aM x-1)=Nm.be (Nm.aM x-1) x:=by
  show(Nm.be (Nm.aM x-1) x++r).take (Nm.aM x-1)=_;exact take_left' (Nm.pj _ _)
 have v:Nm.nh (Nm.bX x++r) (Nm.aM x)=x:=by
  unfold Nm.nh;rw[s,d,Nm.QY];have f:=Nat.div_add_mod x (256 ^ (Nm.aM x-1));by_cases m:Nm.aM x=9
  .grind
  .grind
 unfold Nm.ix;grind
end Nm
namespace Tk
open List Go.RowKit Base Crc Txt Plain Go.Proofs.Tryz
def Rd(w:World)(g:Nat)(l:List UInt8)(at_:Nat):Prop:=aa w g 374 #[.string (str l),.int .i64 (at_:Nat),.bool true]
def fault(x:Int):Value:= .iface 376 (.agg #[.int .i64 x])
def Rd.cells{w:World}{g:Nat}{l:List UInt8}{a:Nat}(h:Rd w g l a):w.cell? ⟨g,0,none⟩=some (.string (str l))/\w.cell? ⟨g,1,none⟩=some (.int .i64 (a:Nat))/\w.cell? ⟨g,2,none⟩=some (.bool true)/\w.frozen? ⟨g,0,none⟩=false/\w.frozen? ⟨g,1,none⟩=false/\w.frozen? ⟨g,2,none⟩=false:=aa.three h
def Rd.under{w w':World}{g:Nat}{l:List UInt8}{a:Nat}(h:Rd w g l a)(b:Below w.heap.size w w'):Rd w' g l a:=aa.under h b
def Rd.go{w:World}{g:Nat}{l:List UInt8}{a:Nat}(h:Rd w g l a)(b:Nat):Rd (w.setCell ⟨g,1,none⟩ (.int .i64 (b:Nat))) g l b:=aa.set h 1 _
def Be(r:Value)(x:Int)(w:World) :
 Calls prog 296 #[r,.int .i64 x] w λe w'=>e = .panicked [{ v:=fault x,recovered:=false }]/\w=w':=by
 go_in;go_wp2;trivial
def tU(g:Nat)(l:List UInt8)(a:Nat)(w:World)(h:Rd w g l a) :
 Calls prog 295 #[.pointer (some ⟨g,0,none⟩)] w λe w'=>e = .returned (.bool true)/\w=w':=by
 obtain⟨c0,c1,c2,c,d,b⟩:=Rd.cells h;clear h;go_in;go_wp2;go_ret;simp
def KD(g:Nat)(l:List UInt8)(a:Nat)(w:World)(h:Rd w g l a)(p:a<=l.length)(r:l.length<=1000000) :
 Calls prog 258 #[.pointer (some ⟨g,0,none⟩)] w λe w'=>e = .returned (.int .i64 ((l.length-a:Nat):Int))/\∃n,w'=w.drewN n:=by
 obtain⟨c0,c1,c2,s,u,q⟩:=Rd.cells h;have d:=kp (tU g l a w h);have b:(str l).size=l.length:=rfl;have c:IntKind.i64.wrap (l.length-a)=(l.length-a:Nat):=by rw[IntWalk.i64_in _ o_];omega
 rw[<-b]at c⊢;clear h b;generalize str l=S at*;generalize f:S.size-a=D at*;clear f;go_in;go_wp2_with fail;apply d.o.mono;rintro e w'⟨rfl,rfl⟩;go_wp2;go_quiet (fail);go_wp2;go_ret;exact⟨rfl,_,rfl⟩
def vw(g:Nat)(l:List UInt8)(a:Nat)(w:World)(e:Ending)(w':World):Prop:=
 aq (·=g) w w'/\((∃n z,Nm.ix (l.drop a)=some (n,z)/\e = .returned (.int .u64 (n:Nat))/\Rd w' g l (a+z))\/(Nm.ix (l.drop a)=none/\e = .panicked [{ v:=fault 3,recovered:=false }]/\Rd w' g l a))
def kZ(g:Nat)(l:List UInt8)(a:Nat)(w:World)(h:Rd w g l a)(F:a<=l.length)(L:l.length<=1000000) :
 Calls prog 297 #[.pointer (some ⟨g,0,none⟩)] w (vw g l a w):=by
 obtain⟨c0,c1,c2,T,U,N⟩:=Rd.cells h;have f:=aa.lt h;have H:=kp h;have B:=pC l a a rfl F;have r:(str (l.drop a)).size<=1000000:=by rw[dR,length_drop];omega
 have A:Kp (∀e w',aq _ w _->((∃n z,Nm.ix _=some (n,z)/\e = .returned (.int .u64 n)/\Rd _ g l _)\/(Nm.ix _=none/\e = .panicked [{ v:=fault 3,recovered:=false }]/\Rd _ g l a))->vw g l a w e w'):=λe w' h1 h2=>⟨h1,h2⟩;generalize E:vw g l a w=Q at*;clear E h;rcases b:Nm.ix (l.drop a)with _|⟨n,z⟩
 .have u:=kp (λw=>Nm.EM _ w r (by rw[ig];omega));unfold Nm.rZ at u;have m:=kp b;clear b;generalize str (l.drop a)=D at*;have C:=kp (λw=>Be (.pointer (some ⟨g,0,none⟩)) 3 w);go_in;go_wp2;go_region_held3 (λw'=>w'.cell? ⟨g,0,none⟩=some (.string (str l))/\w'.cell? ⟨g,1,none⟩=some (.int .i64 (a:Int))/\Below w.heap.size w w')
   (first
     |exact⟨c0,c1,(ah _ _).drew⟩
     |exact⟨(c.cell f).trans c0,(c.cell f).trans c1,c⟩)
   ((go_at_call 191;apply(u _).mono;rintro e x⟨rfl,d⟩;have c:Below w.heap.size w x:=bR.drew.trans (d.mono o_);clear d))
  go_wp2_with fail;apply(C _).mono;rintro e w'⟨rfl,rfl⟩;go_wp2;exact⟨rfl,A _ _ (.below c) (.inr ⟨m,rfl,H.o.under c⟩)⟩
 .have u:=kp (λw=>Nm.rX _ n z w r (by rw[ig];omega));have M:z<=9:=by
   unfold Nm.ix at b;split at b
   .cases b
   .split at b
    .cases b
    .split at b
     .injection b with b;injection b with _ y;rw[<-y];have:=Nm.yf ((l.drop a).getD 0 0).toNat;omega
     .cases b
  have m:=kp b;clear b;generalize str (l.drop a)=D at*;go_in;go_wp2;go_region_held3 (λw'=>w'.cell? ⟨g,0,none⟩=some (.string (str l))/\w'.cell? ⟨g,1,none⟩=some (.int .i64 (a:Int))/\Below w.heap.size w w')
   (first
     |exact⟨c0,c1,(ah _ _).drew⟩
     |exact⟨(c.cell f).trans c0,(c.cell f).trans c1,c⟩)
   ((go_at_call 191;apply(u _).mono;rintro e x⟨rfl,d⟩;have c:Below w.heap.size w x:=bR.drew.trans (d.mono o_);clear d))
  obtain⟨R,J,G,O,I,y⟩:=(H.o.under c).cells;have q:=kp c;go_wp2;have s:=(H.o.under q).go (a+z);rw[show(a+z:Nat)=a+(z:Int) by omega]at s;exact A _ _ ((aq.below q).trans (.set _ _ _ rfl)) (.inl ⟨n,z,m,rfl,s⟩)
def oC(l:List UInt8)(a most:Nat):Option (Nat×Nat):=match Nm.ix (l.drop a)with
 |some (n,z)=>if n<=most then some (n,a+z)else none
 |none=>none
def vr(g:Nat)(l:List UInt8)(a most:Nat)(w:World)(e:Ending)(w':World):Prop:=
 aq (·=g) w w'/\((∃n b,oC l a most=some (n,b)/\e = .returned (N n)/\Rd w' g l b)\/(oC l a most=none/\∃x b,x≠0/\e = .panicked [{ v:=fault x,recovered:=false }]/\Rd w' g l b))
def Mi(g:Nat)(l:List UInt8)(a most:Nat)(w:World)(h:Rd w g l a)(C:a<=l.length)(A:l.length<=1000000)(F:most<=2000000) :
 Calls prog 259 #[Y g 0,N most] w (vr g l a most w):=by
 have u:=J (tU g l a w h);have D:=J (kZ g l a w h C A);have p:Kp (∀e w',aq _ w _->((∃n b,oC l a _=some _/\e = .returned (N n)/\Rd _ g l b)\/(oC l a _=none/\∃x b,x≠0/\e = .panicked [{ v:=fault x,recovered:=false }]/\Rd _ g l b))->vr g l a most w e w'):=λe w' h1 h2=>⟨h1,h2⟩;generalize B:vr g l a _ w=Q at*;have c:Kp (oC l a _=match Nm.ix _ with
  |some (n,z)=>if n<=most then some _ else none
  |none=>none):=rfl
 clear B h;go_in;go_wp2_with fail;apply u.mono;rintro e w'⟨rfl,rfl⟩;go_wp2_with fail;apply D.mono;rintro e y⟨ht,⟨n,z,h1,rfl,f⟩|⟨h1,rfl,f⟩⟩
 .obtain⟨q,s,r⟩:=j3_ ht f h1;clear ht f h1;by_cases d:n<=most
  .go_wp2;exact p _ _ q (.inl ⟨n,_,by rw[c,r];grind,rfl,s⟩)
  .have m:most<(n:Int):=o_;go_wp2_with fail;apply(Be _ _ _).mono;rintro e w'⟨rfl,rfl⟩;go_wp2;exact⟨rfl,p _ _ q (.inr ⟨by rw[c,r];grind,5,_,d_,rfl,s⟩)⟩
 .have E:=J (p _ y ht (.inr ⟨by rw[c,h1],3,a,d_,rfl,f⟩));clear ht f h1;go_wp2;trivial
def R8(g:Nat)(l:List UInt8)(a:Nat)(x:Int)(w:World)(h:Rd w g l a) :
 Calls prog 257 #[Y g 0,.bool true,I x] w λe w'=>e = .returned (.tuple #[])/\w=w':=by
 have b:=J (tU g l a w h);clear h;go_in;go_wp2_with fail;apply b.mono;rintro e w'⟨rfl,rfl⟩;go_wp2;go_end0;simp
end Tk
namespace Ch
open List Go.RowKit Base Crc Go.Proofs.Tryz
def count(n:Int):Int:=if n<=0 then 0 else(n-1) / 122+1
def wS(n:Int)(w:World)(h1:n<=9223372036854775807) :
 Calls prog 94 #[I n] w λe w'=>e = .returned (I (count n))/\w=w':=by
 unfold count;by_cases h:n<=0
 .rw[if_pos h];go_in;go_wp2;go_ret;simp
 .rw[if_neg h];go_in;go_wp2;go_ret;simp
def Bi(x:Int):Prop:= -9223372036854775808<=x/\x<=9223372036854775807
def ib(own:List Int)(i:Nat):Int:=own[i+1]?.getD (-1)
def chunk(b:List Int)(i:Nat):List Int:=(b.drop (122*i)).take 122
def Dp(own b:List Int)(i:Nat):ByteArray:=str (piece (ib own i) (chunk b i))
def iv(own b:List Int)(k:Nat):List ByteArray:=(range k).map (Dp own b)
def C3 own b k:iv own b (k+1)=iv own b k++[Dp own b k]:=by
 unfold iv;rw[range_succ,map_append];rfl
def Kj own b k:(iv own b k).length=k:=by simp[iv]
def sV b i:(chunk b i).length=min (b.length-122*i) 122:=by
 unfold chunk;grind
def zn(own b:List Int):Prop:=(∀i,0<i->∀x,own[i]? = some x->x<=2046)/\b.all eP=true
def Ry{own b}(h:zn own b) i:fG (ib own i) (chunk b i)=0:=by
 unfold fG;rw[if_neg (by rw[sV];omega)];have h1:ib own i<=2046:=by
  unfold ib;rcases hx:own[i+1]? with _|x
  .simp
  .simpa using h.1 _ o_ x hx
 rw[if_neg o_,if_pos];rw[all_eq_true];intro x hx;have:=mem_of_mem_drop (mem_of_mem_take hx);exact all_eq_true.1 h.2 x this
end Ch
end Go.Proofs.YtibjlpkpljnicaaGreatDoor
