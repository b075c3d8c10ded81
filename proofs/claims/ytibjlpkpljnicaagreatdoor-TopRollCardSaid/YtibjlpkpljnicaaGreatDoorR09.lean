/- Parts. -/
import Derived.Test.YtibjlpkpljnicaaGreatDoorR02
import Derived.Test.YtibjlpkpljnicaaGreatDoorR08
import Derived.Laws.BitsAllLaws
import Derived.WalkLawsBesides
import Derived.Laws.Tables
set_option maxRecDepth 100000
set_option maxHeartbeats 8000000
set_option linter.all false
namespace Go.Proofs.YtibjlpkpljnicaaGreatDoor
namespace Crc
open List Go.RowKit Base Tryz
def below_setRow{B:Nat}{a w:World}{g:Nat}{cs:AV}(h:Below B a w)(b:B<=g):Below B a (w.setRow g cs):=
 h.trans ⟨rfl,rfl,rfl,s_,λk hk=>setRow_other w g k _ o_⟩
def zR(x:Nat)(hx:x<4294967296):bits .and .u32 (x:Int) 1=((x % 2:Nat):Int):=by
 have:=u32_and_nat x 1 hx d_;grind
def zS(x:Nat)(hx:x<4294967296):bits .and .u32 (x:Int) 15=((x % 16:Nat):Int):=by
 have:=u32_and_nat x 15 hx d_;rw[nat_mask4]at this;omega
def RB(x:Nat)(hx:x<4294967296):bits .xor .u32 (x:Int) 2197175160=((x ^^^ oI:Nat):Int):=u32_xor_nat x _ hx d_
def Jy(n:Nat)(w:World)(m:n<4294967296) :
 Calls Tryz.prog 360 #[.int .u32 n] w λe w'=>e = .returned (.int .u32 (steps 4 n:Nat))/\w=w':=by
 go_enter Tryz.func360,Tryz.ntmps360;go_wp2;go_loop [0,4] (λv i=>∃(k:Nat),k<=4/\i = I k/\v = .int .u32 (steps k n:Nat)) (λ_ i=>4-(intOf i).toNat)
 case atStart=>exact⟨0,o_,rfl,rfl⟩
 .obtain⟨k,hk,rfl,rfl⟩:=hrel;have f:steps _ n=step _:=EE k 1 n;have b:=rT k m;generalize hx:steps k n=x at*;by_cases d:k<4
  .obtain h2|h2:=Nat.mod_two_eq_zero_or_one x
   .have g:bits .and .u32 x 1=0:=by rw[zR x b,h2];rfl
    have c:=J h2;go_wp2;refine⟨⟨k+1,o_,o_,?_⟩,o_⟩;rw[f];unfold step;rw[c];simp
   .have g:bits .and .u32 x 1=1:=by rw[zR x b,h2];rfl
    have c:=J h2;go_wp2;refine⟨⟨k+1,o_,o_,?_⟩,o_⟩;rw[f];unfold step;rw[c,Nat.one_mul];have:=RB (x / 2) o_;grind
  .go_wp2;go_ret;have p:k=4:=o_;have:=hx;rw[p]at this;rw[this];simp
def jI(k:Nat):AV:=Array.ofFn (n:=16) λi=> .int .u32 (if i.val<k then(steps 4 i.val:Nat)else 0:Int)
def tab:AV:=Array.ofFn (n:=16) λi=> .int .u32 (steps 4 i.val:Nat)
def Qr:jI 16=tab:=by
 rfl
def Qq{k:Nat}(hk:k<16):(jI k)[k]? = some (.int .u32 0):=by
 unfold jI;rw[Array.getElem?_ofFn];simp[hk]
def Qs{k:Nat}(hk:k<16):(jI k).setIfInBounds k (.int .u32 (steps 4 k:Nat))=jI (k+1):=by
 apply Array.ext
 .simp[jI]
 .intro i h1 h2;simp only[jI,Array.size_setIfInBounds,Array.size_ofFn]at h1 h2;rw[Array.getElem_setIfInBounds (by simp[jI];omega)];simp only[jI,Array.getElem_ofFn];grind
def qp:tab.size=16:=by rfl
def EI{k:Nat}(hk:k<16):tab[k]? = some (.int .u32 (steps 4 k:Nat)):=by
 unfold tab;rw[Array.getElem?_ofFn];simp[hk]
def EJ:tab.all (·.oneCell')=true:=by
 rw[Array.all_eq_true];intro i hi;simp only[tab,Array.getElem_ofFn];rfl
def Qx(w:World) :
 Calls Tryz.prog 349 #[] w λe w'=>e = .returned (.agg tab)/\Below w.heap.size w w':=by
 go_enter Tryz.func349,Tryz.ntmps349;go_wp2;go_loopw [3] (λi wr=>∃(k:Nat),k<=16/\i = I k/\aa wr w.heap.size 457 (jI 0)/\aa wr (w.heap.size+1) 457 (jI k)/\E w wr) (λi _=>16-(intOf i).toNat)
 case atStart=>exact⟨0,o_,rfl,(aa.lay rfl).alloc _,aa.lay s_,(by repeat(first|exact ah _ _|assumption|refine Below.drew ?_|(refine Below.alloc ?_ o_ _)|(refine Below.setCell ?_ o_ _)))⟩
 .obtain⟨k,hk,rfl,c,b,d⟩:=hrel;by_cases f:k<16
  .have m:=(b.cell k).trans (Qq f);have n:=b.free k;have g:=J (Qs f);go_wp2_with fail;apply(Jy k _ o_).mono;rintro e w'⟨rfl,rfl⟩;generalize steps 4 k=x at*;go_wp2;go_roundw
   case rel=>exact⟨k+1,o_,o_,c.aJ s_ _,by rw[<-g];exact b.set k _,d.setCell s_ _⟩
   case measure=>simp[intOf];omega
  .obtain rfl:k=16:=o_;rw[Qr]at b;go_wp2_with(first
    |(refine wpList_load_row rfl 457 (.tmp 1) rfl (w.heap.size+1) rfl 457 tab (0,0) _ b Tryz.underlying457 rfl ?c1 ?_)
    |(refine wpList_store_row rfl 457 (.tmp 0) (.tmp 12) rfl w.heap.size tab rfl rfl 457 (jI 0) c ?d1 ?d2 EJ ?_))
   case c1=>rfl
   case d1=>rfl
   case d2=>rfl
   refine bodyPost_ret (results_cell_row rfl _ _ _ _ _ _ _ rfl (setRow_heap _ _ _ _ _ _ c) Tryz.underlying457 rfl o_) rfl ⟨rfl,below_setRow d o_⟩
def GM(s:ByteArray) k(h:k<s.size):s.data.toList.take (k+1)=s.data.toList.take k++[s[k]]:=by
 rw[take_succ_eq_append_getElem (by simpa using h)];rfl
def uI(x y:Nat)(hx:x<4294967296)(b:y<4294967296):bits .xor .u32 (x:Int) (y:Int)=((x ^^^ y:Nat):Int):=u32_xor_nat x y hx b
def BQ(n:Nat)(h:n<4294967296):bits .xor .u32 IntKind.u32.max (n:Int)=((inv n:Nat):Int):=by
 have:=uI 4294967295 n d_ h;have b:IntKind.u32.max=(4294967295:Nat):=o_
 rw[b,this];congr 1;have h2:=congrArg BitVec.toNat (BitVec.allOnes_xor (x:=BitVec.ofNat 32 n));rw[BitVec.toNat_not]at h2;simp[Nat.mod_eq_of_lt h]at h2;exact h2
def round_facts(x:Nat) b(hx:x<4294967296) :
 ∃y d g z c e t:Nat,bits .xor .u32 (x:Int) (b.toNat:Int)=(y:Int)/\bits .and .u32 (y:Int) 15=(d:Int)/\d<16/\g=steps 4 d /\
  bits .xor .u32 ((y:Int) / 16) (g:Int)=(z:Int)/\bits .and .u32 (z:Int) 15=(c:Int)/\c<16/\e=steps 4 c /\
  bits .xor .u32 ((z:Int) / 16) (e:Int)=(t:Int)/\one x b=t:=by
 have n:=wK b;have f:x ^^^ b.toNat<4294967296:=xM hx o_;have m:=rT 4 f;refine⟨_,_,_,_,_,_,steps 4 (steps 4 (x ^^^ b.toNat)),?_,zS _ f,o_,rfl,?_,zS _ m,o_,rfl,?_,?_⟩
 .exact uI _ _ hx o_
 .have:=uI ((x ^^^ b.toNat) / 16) (steps 4 ((x ^^^ b.toNat) % 16)) o_ (rT 4 o_);rw[BB]at this;grind
 .have:=uI (steps 4 (x ^^^ b.toNat) / 16) (steps 4 (steps 4 (x ^^^ b.toNat) % 16)) o_ (rT 4 o_);rw[BB]at this;grind
 rfl
def L4(sum:Nat) s w(m:sum<4294967296)(G:s.size<=maxLen) :
 Calls Tryz.prog 324 #[.int .u32 sum,.string s] w λe w'=>e = .returned (.int .u32 (more sum s.data.toList:Nat))/\Below w.heap.size w w':=by
 unfold maxLen at G;go_enter Tryz.func324,Tryz.ntmps324;go_wp2_with fail;apply(Qx _).mono;rintro e b⟨rfl,c⟩;go_wp2_with(refine wpList_store_row rfl 457 (.tmp 5) (.tmp 8) rfl b.heap.size tab rfl rfl 457 _ (heap_alloc_new _ _) ?d1 ?d2 EJ ?_)
 case d1=>rfl
 case d2=>rw[qp];rfl
 have d:aa ((b.alloc (.cells #[.int .u32 0,.int .u32 0,.int .u32 0,.int .u32 0,.int .u32 0,.int .u32 0,.int .u32 0,.int .u32 0,.int .u32 0,.int .u32 0,.int .u32 0,.int .u32 0,.int .u32 0,.int .u32 0,.int .u32 0,.int .u32 0] 457)).setRow _ tab) _ _ _:=setRow_heap _ _ _ _ _ _ (heap_alloc_new _ _);have u:E w ((b.alloc (.cells #[.int .u32 0,.int .u32 0,.int .u32 0,.int .u32 0,.int .u32 0,.int .u32 0,.int .u32 0,.int .u32 0,.int .u32 0,.int .u32 0,.int .u32 0,.int .u32 0,.int .u32 0,.int .u32 0,.int .u32 0,.int .u32 0] 457)).setRow _ tab):=below_setRow (c.alloc c.size _) c.size;generalize((b.alloc _).setRow _ _)=W at*;rw[BQ _ m];go_loop [6,13] (λv i=>∃(k:Nat),k<=s.size/\i = I k/\v = .int .u32 (run (inv sum) (s.data.toList.take k):Nat)) (λ_ i=>s.size-(intOf i).toNat)
 case atStart=>exact⟨0,o_,rfl,rfl⟩
 .obtain⟨k,hk,rfl,rfl⟩:=hrel;have A:=yJ (s.data.toList.take k) (tF sum);by_cases r:k<s.size
  .have f:=Pm (inv sum) (s.data.toList.take k) s[k];rw[<-GM]at f;have p:=J f;generalize run _ _=x at*;have F:=wK s[k];obtain⟨y,C,R,z,D,T,t,U,L,q,g,V,N,B,n,O,ht⟩:=round_facts x s[k] A;have c1:=(d.cell C).trans (EI q);have c2:=(d.cell D).trans (EI B);rw[<-g]at c1;rw[<-n]at c2;rw[ht]at p;have M:(C:Int)<16:=o_;have H:(D:Int)<16:=o_;clear g n ht d;go_wp2;go_round
   case rel=>exact⟨k+1,o_,o_,by rw[p]⟩
   case measure=>simp[intOf];omega
  .go_wp2;go_ret;have hd:s.data.toList.take k=s.data.toList:=take_of_length_le o_;rw[hd];refine⟨?_,u⟩;have:=BQ _ (yJ s.data.toList (tF sum));exact congrArg (λx=>Ending.returned (.int _ x)) this
end Crc
end Go.Proofs.YtibjlpkpljnicaaGreatDoor
