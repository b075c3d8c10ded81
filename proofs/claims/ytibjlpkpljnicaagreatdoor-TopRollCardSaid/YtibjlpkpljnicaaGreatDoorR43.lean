/- Parts. -/
import Derived.Test.YtibjlpkpljnicaaGreatDoorR13
import Derived.Lib.Zigzag
set_option maxRecDepth 100000
set_option maxHeartbeats 8000000
set_option linter.all false
namespace Go.Proofs.YtibjlpkpljnicaaGreatDoor
namespace Tc
open List Go.RowKit Base Crc Go.Proofs.YtibjlpkpljnicaaGreatDoor.Nm Go.Proofs.Tryz
def Fx z(h : -9223372036854775808<=z)(h2:z<=9223372036854775807):bits .xor .i64 (-1) z = -z-1:=by
 show IntKind.i64.wrap ((BitVec.ofInt 64 (-1) ^^^ BitVec.ofInt 64 z).toNat:Int)=_;have h1:(BitVec.ofInt 64 (-1)).toNat=2 ^ 64-1:=d_;have c:((BitVec.ofInt 64 z).toNat)=z % 18446744073709551616:=by
  rw[BitVec.toNat_ofInt,Int.toNat_of_nonneg o_];rfl
 have b:=(BitVec.ofInt 64 z).isLt;rw[BitVec.toNat_xor,h1,Lib.xor_ones64 _ b,IntKind.wrap_i64];omega
def MH a(h:a<9223372036854775808):bits .or .u64 ((a*2:Nat):Int) 1=((a*2+1:Nat):Int):=by
 have e:=u64_or_nat (a*2) 1 o_ d_;have c:a*2 ||| 1=a*2+1:=by
  have:=Nat.two_pow_add_eq_or_of_lt (b:=1) (i:=1) d_ a;rw[Nat.pow_one,Nat.mul_comm]at this;omega
 grind
def J6 z(h : -9223372036854775808<=z)(h2:z<=9223372036854775807):dW z=if z<0 then -2*z-1 else 2*z:=by
 unfold dW;by_cases b:z<0
 .rw[if_pos b,if_pos b,Fx z h h2];have e:IntKind.u64.wrap (IntKind.u64.wrap (-z-1)*2)=((-z-1).toNat*2:Nat):=by
   rw[IntKind.wrap_u64,IntKind.wrap_u64];omega
  rw[e,MH _ o_];omega
 .rw[if_neg b,if_neg b,IntKind.wrap_u64,IntKind.wrap_u64];omega
def val(l:List UInt8):Nat:=l.foldl (λn b=>n*256+b.toNat) 0
def Fb l b:val (l++[b])=val l*256+b.toNat:=by simp[val]
def AG n:(bw n).toNat=n % 256:=by rfl
end Tc
namespace Tc
open List Go.RowKit Base Crc Go.Proofs.YtibjlpkpljnicaaGreatDoor.Nm Tk Go.Proofs.Tryz
def Rs(w:World)(g:Nat)(S R:List UInt8):Prop:=∃p,Rd w g S p/\S.drop p=R/\p<=S.length
def Rs.under{w w' g S R}(h:Rs w g S R)(b:E w w'):Rs w' g S R:=by
 obtain⟨p,h1,h2⟩:=h;exact⟨p,h1.under b,h2⟩
def Rs.lt{w g S R}(h:Rs w g S R):g<w.heap.size:=by
 obtain⟨p,h1,h2⟩:=h;exact aa.lt h1
def Rs.same{w w' g S R}(h:Rs w g S R)(b:w'.heap[g]? = w.heap[g]?):Rs w' g S R:=by
 obtain⟨p,h1,h2⟩:=h;exact⟨p,b.trans h1,h2⟩
def kt(g:Nat)(S R:List UInt8)(v:Value)(w:World)(e:Ending)(w':World):Prop:=e = .returned v/\Rs w' g S R/\aq (·=g) w w'
def DT g S R n most w(h:Rs w g S (bX n++R))(r:n<=most)(x:most<=1048576)(u:S.length<=1000000) :
 Calls prog 259 #[Y g 0,N most] w (kt g S R (N n) w):=by
 obtain⟨p,h1,h2,v⟩:=h;have ht:oC S p most=some (n,p+aM n):=by
  unfold oC;rw[h2,tS n R o_];grind
 have d:p+aM n<=S.length:=by
  have:=congrArg length h2;rw[length_drop,aE,j6]at this;omega
 apply(Mi g S p _ w h1 v u o_).mono;rintro e w'⟨q,⟨y,b,c,rfl,f⟩|⟨c,_⟩⟩
 .rw[ht]at c;injection c with c;injection c with m s;subst m s;refine⟨rfl,⟨_,f,?_,d⟩,q⟩;rw[<-drop_drop,h2,drop_left' (j6 n)]
 grind
def Ge(n:Nat)(h:n<18446744073709551616):bits .and .u64 (n:Int) 1=((n % 2:Nat):Int):=by
 have:=u64_and_nat n 1 h d_;grind
def QW z w(h1 : -9223372036854775808<=z)(h2:z<=9223372036854775807) :
 Calls prog 355 #[.int .u64 (dW z)] w λe w'=>e = .returned (I z)/\w=w':=by
 have b:=J6 z h1 h2;have c:=Ge (dW z).toNat o_;rw[show((dW z).toNat:Nat)=dW z by omega]at c;by_cases d:z<0;focus
  rw[if_pos d]at b;have m:bits .and .u64 (dW z) 1=1:=o_
  have f:IntKind.i64.wrap (dW z / 2) = -z-1:=by rw[b,IntWalk.i64_in _ o_];omega
  have n:bits .xor .i64 (-1) (-z-1)=z:=by rw[Fx _ o_ o_];omega
 rotate_left;focus
  rw[if_neg d]at b;have m:bits .and .u64 (dW z) 1=0:=o_
  have f:IntKind.i64.wrap (dW z / 2)=z:=by rw[b,IntWalk.i64_in _ o_];omega
 all_goals
  have g:=o0 z;generalize dW z=v at*;clear b c;go_in;go_wp2;go_ret;simp
def OL g S R z w(h:Rs w g S (mX z++R))(h1 : -9223372036854775808<=z)(h2:z<=9223372036854775807)(s:S.length<=1000000) :
 Calls prog 337 #[Y g 0] w (kt g S R (I z) w):=by
 obtain⟨p,r,hd,u⟩:=h;have q:=o0 z;have x:=J (tU g S p w r);have F:=J (λw=>QW z w h1 h2);have D:=J (show Calls _ _ #[Y g 0] w (kt g S R (.int .u64 (dW z)) w) by
  apply(kZ g S p w r u s).mono;have ht:ix (S.drop p)=some ((dW z).toNat,aM (dW z).toNat):=by rw[hd,tS _ R o_]
  have d:p+aM (dW z).toNat<=S.length:=by
   have:=congrArg length hd;rw[length_drop,aE,j6]at this;omega
  rintro e w'⟨C,⟨n,b,c,rfl,A⟩|⟨c,_⟩⟩
  .rw[ht]at c;injection c with c;injection c with B E;subst B E;refine⟨o_,⟨_,A,?_,d⟩,C⟩;rw[<-drop_drop,hd,drop_left' (j6 _)]
  grind)
 clear r hd u q h1 h2 s;generalize dW z=v at*;go_in;go_wp2_with fail;apply x.mono;rintro e w'⟨rfl,rfl⟩;go_wp2_with fail;apply D.mono;rintro e H⟨rfl,f,m⟩;have G:=J f;have y:=J m;clear f m;go_wp2_with fail;apply(F _).mono;rintro e w'⟨rfl,rfl⟩;go_wp2;go_ret;trivial
def ON g S R w(h:Rs w g S R)(b:S.length<=1000000) :
 Calls prog 258 #[Y g 0] w λe w'=>e = .returned (N R.length)/\∃n,w'=w.drewN n:=by
 obtain⟨p,c,hd,d⟩:=h;have:=KD g S p w c d b;grind
def Eh g S R x w(h:Rs w g S R) :
 Calls prog 257 #[Y g 0,.bool true,I x] w λe w'=>e = .returned (.tuple #[])/\w=w':=by
 obtain⟨p,b,hd,c⟩:=h;exact R8 g S p x w b
end Tc
end Go.Proofs.YtibjlpkpljnicaaGreatDoor
