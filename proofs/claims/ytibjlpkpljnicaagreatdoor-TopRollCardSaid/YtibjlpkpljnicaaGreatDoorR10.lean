/- Parts. -/
import Derived.Test.YtibjlpkpljnicaaGreatDoorR09
import Derived.WalkSpells
import Derived.Laws.IdiomStrings
set_option maxRecDepth 100000
set_option maxHeartbeats 8000000
set_option linter.all false
namespace Go.Proofs.YtibjlpkpljnicaaGreatDoor
namespace Crc
open List Go.RowKit Base Tryz
def str(l:List UInt8):ByteArray:=⟨l.toArray⟩
def bw(n:Nat):UInt8:=UInt8.ofNat n
def iO(n:Nat):List UInt8:=[bw n,bw (n / 256),bw (n / 65536),bw (n / 16777216)]
def mo(n:Nat):bw ((n:Int) % 256).toNat=bw n:=by
 unfold bw;apply UInt8.toNat_inj.1;rw[UInt8.toNat_ofNat',UInt8.toNat_ofNat'];omega
def AG{x}(h0:0<=x)(h1:x<256):((bw x.toNat).toNat:Int)=x:=by
 unfold bw;rw[UInt8.toNat_ofNat'];omega
def sY(w:World)(xs:List Int)(hx:∀x∈xs,0<=x/\x<256) :
 (convert 148 9 (.slice (some ⟨w.heap.size,0,none⟩) xs.length xs.length)).run Tryz.prog (w.alloc (.cells (xs.map (Value.int .u8)).toArray 5)) = .ok (.string (str (xs.map λx=>bw x.toNat))) (w.alloc (.cells (xs.map (Value.int .u8)).toArray 5)):=by
 have h:=run_convert_bytes_back (w.alloc (.cells (xs.map (Value.int .u8)).toArray 5)) 148 9 5 ⟨w.heap.size,0,none⟩ xs.length (xs.map λx=>bw x.toNat) Tryz.underlying148 Tryz.underlying5 Tryz.underlying9 ?_
 .rw[lM]at h;exact h
 .intro j b;rw[lM]at b;rw[jS,Nat.zero_add,(aa.new w 5 _).cell];have:=hx _ (gM b);simp[AG o_ this.2]
def yV(n:Nat) w(c:n<4294967296) :
 Calls Tryz.prog 286 #[.int .u32 n] w λe w'=>e = .returned (.string (str (iO n)))/\Below w.heap.size w w':=by
 have b:∀w:World,(convert 148 9 (.slice (some ⟨w.heap.size,0,none⟩) 4 4)).run Tryz.prog (w.alloc (.cells #[.int .u8 (n % 256),.int .u8 (n / 256 % 256),.int .u8 (n / 65536 % 256),.int .u8 (n / 16777216)] 5)) = .ok (.string (str (iO n))) (w.alloc (.cells #[.int .u8 (n % 256),.int .u8 (n / 256 % 256),.int .u8 (n / 65536 % 256),.int .u8 (n / 16777216)] 5)):=λw=>by
  have h:=sY w [n % 256,n / 256 % 256,n / 65536 % 256,n / 16777216] o_;have e:[(n:Int) % 256,n / 256 % 256,n / 65536 % 256,n / 16777216].map (λx=>bw x.toNat)=iO n:=by
   unfold iO;simp;refine⟨mo _,mo _,mo _,rfl⟩
  grind
 go_enter Tryz.func286,Tryz.ntmps286;go_wp2;go_ret;exact⟨rfl,(by repeat(first|exact ah _ _|assumption|refine Below.drew ?_|(refine Below.alloc ?_ o_ _)|(refine Below.setCell ?_ o_ _)))⟩
def lS a b:str a++str b=str (a++b):=by
 rfl
def dR l:(str l).size=l.length:=rfl
def ig l:(str l).data.toList=l:=rfl
def qo s:str s.data.toList=s:=by
 rfl
def It(w:World) x(h0:0<=x)(h1:x<256) :
 (convert 148 9 (.slice (some ⟨w.heap.size,0,none⟩) 1 1)).run Tryz.prog (w.alloc (.cells #[.int .u8 x] 5)) = .ok (.string (str [bw x.toNat])) (w.alloc (.cells #[.int .u8 x] 5)):=
 sY w [x] o_
def L6:more 0 []=0:=by rfl
def L3(l:List ByteArray) k(hk:k<l.length) s:more s ((l.take (k+1)).flatMap (λt=>t.data.toList))=more (more s ((l.take k).flatMap (λt=>t.data.toList))) (l[k]).data.toList:=by
 rw[L5,take_succ_eq_append_getElem hk,flatMap_append];simp
def texts(l:List ByteArray):LV:=l.map .string
def D8 A c l w(C:l.length<=140737488355328)(B:∀t∈l,t.size<=maxLen)(y:Row w w.heap.size A (texts l)) :
 Calls Tryz.prog 287 #[.slice A l.length c] w λe w'=>e = .returned (.int .u32 (more 0 (l.flatMap λt=>t.data.toList):Nat))/\Below w.heap.size w w':=by
 generalize u:l.length=n at*;go_enter Tryz.func287,Tryz.ntmps287;go_wp2;go_loopw [3,8] (λv i wr=>∃(k:Nat),k<=n/\i = I k/\v = .int .u32 (more 0 ((l.take k).flatMap λt=>t.data.toList):Nat)/\E w wr) (λ_ i _=>n-(intOf i).toNat)
 case atStart=>exact⟨0,av _,rfl,by rw[take_zero,flatMap_nil,L6];rfl,ah _ _⟩
 .obtain⟨k,hk,rfl,rfl,d⟩:=hrel;have q:=pT 0 ((l.take k).flatMap λt=>t.data.toList);by_cases r:k<n
  .have f:k<l.length:=by rw[u];exact r
   obtain⟨b,off,rfl,F,z⟩:=(y.below d).at_ (k:=k) (by simpa[texts]using f);have m:=B _ (gM f);simp only[texts,getElem_map]at z;have p:=J (L3 l k f 0);generalize more 0 ((l.take k).flatMap λt=>t.data.toList)=x at*;generalize l[k]'f=s at*;go_wp2_with fail;apply(L4 x s _ q m).mono;rintro e D⟨rfl,g⟩;go_wp2_with fail;go_roundw
   case rel=>exact⟨k+1,o_,by go_num,by rw[p],d.trans (g.mono d.size)⟩
   case measure=>simp[intOf];omega
  .go_wp2;go_ret;have hd:l.take k=l:=take_of_length_le (by rw[u];omega);rw[hd];exact⟨rfl,d⟩
def closed(l:List UInt8):List UInt8:=l++iO (more 0 l)
def AO s w(p:s.size<=140737488355328) :
 Calls Tryz.prog 232 #[.string s] w λe w'=>e = .returned (.string (str (closed s.data.toList)))/\Below w.heap.size w w':=by
 have g:s.size<=maxLen:=by unfold maxLen;omega
 go_enter Tryz.func232,Tryz.ntmps232;go_wp2_with fail;have d:Row (w.alloc (.cells #[T s] 9)) (w.alloc (.cells #[T s] 9)).heap.size (some ⟨w.heap.size,0,none⟩) (texts [s]):=by
  refine .inr ⟨_,0,rfl,s_,λi v f=> ?_⟩;rw[(aa.new w 9 _).cell];simpa[texts]using f
 have h1:=D8 _ 1 _ _ s_ o_ d;simp only[flatMap_cons,flatMap_nil,append_nil,length_cons,length_nil]at h1;apply h1.mono;rintro e n⟨rfl,b⟩;go_wp2_with fail;apply(yV _ _ (pT 0 _)).mono;rintro e q⟨rfl,c⟩;have m:(str (iO (more 0 s.data.toList))).size<=4:=by rw[dR];simp[iO]
 have hk:=((bR.alloc (ae _) _).trans (b.mono s_));go_wp2;go_ret;refine⟨?_,hk.trans (c.mono hk.size)⟩;rfl
end Crc
namespace Ch
open List Go.RowKit Base Crc Go.Proofs.Tryz
abbrev nums(l:List Int):LV:=l.map (.int .i64)
def two(n:Int):List UInt8:=[bw (n / 256).toNat,bw (n % 256).toNat]
def Iu(w:World) x y(h0:0<=x)(h1:x<256)(h2:0<=y)(c:y<256) :
 (convert 148 9 (U (some ⟨w.heap.size,0,none⟩) 2 2)).run prog (w.alloc (.cells #[.int .u8 x,.int .u8 y] 5)) = .ok (T (str [bw x.toNat,bw y.toNat])) (w.alloc (.cells #[.int .u8 x,.int .u8 y] 5)):=
 sY w [x,y] o_
def kZ n w(h0:0<=n)(h1:n<65536) :
 Calls prog 285 #[.int .i64 n] w λe w'=>e = .returned (.string (str (two n)))/\Below w.heap.size w w':=by
 have b:=λw=>Iu w (n / 256) (n % 256) o_ o_ o_ o_;go_in;go_wp2;go_ret;exact⟨rfl,(by repeat(first|exact ah _ _|assumption|refine Below.drew ?_|(refine Below.alloc ?_ o_ _)|(refine Below.setCell ?_ o_ _)))⟩
def eP(n:Int):Bool:=decide (0<=n)&&decide (n<2047)
def tN n w(h:eP n=true) :
 Calls prog 226 #[I n] w λe w'=>e = .returned (.bool true)/\w=w':=by
 simp[eP]at h;obtain⟨h0,h1⟩:=h;go_in;go_wp2;go_ret;simp
def Cq n w(h:eP n=false) :
 Calls prog 226 #[I n] w λe w'=>e = .returned (.bool false)/\w=w':=by
 simp[eP]at h;by_cases h0:0<=n
 .have h1:=h h0;go_in;go_wp2;go_ret;exact⟨o_,rfl⟩
 .go_in;go_wp2;go_ret;simp
def fG(next:Int)(l:List Int):Int:=if 122<l.length then 5 else if 2046<next then 2 else if l.all eP then 0 else 2
def body(l:List Int):List UInt8:=l.flatMap two
def piece(next:Int)(l:List Int):List UInt8:=two (max next (-1)+1)++body l
def qT l:(body l).length=2*l.length:=by
 induction l with
 |nil=>rfl
 |cons n l b=>simp only[body,flatMap_cons,aE,length_cons]at b⊢;rw[b];simp[two];omega
def sP{l:List Int}{k}(hk:k<l.length):body (l.take (k+1))=body (l.take k)++two l[k]:=by
 unfold body;rw[take_succ_eq_append_getElem hk,flatMap_append];rfl
def zQ{l:List Int}{k}(hk:k<l.length):(l.take (k+1)).all eP=((l.take k).all eP&&eP l[k]):=by
 rw[take_succ_eq_append_getElem hk,all_append];simp
def O0 next A c l w(Z:l.length<=122)(hn:next<2047)(N : -9223372036854775808<=next)(hx:next < -1)(F:l.all eP=true)(B:Row w w.heap.size A (nums l)) :
 Calls prog 230 #[.int .i64 next,.slice A l.length c] w λe w'=>e = .returned (.tuple #[.string (str (piece next l)),.int .i64 0])/\Below w.heap.size w w':=by
 have V:=J B;have U:=J F;have D:max next (-1)+1=0:=o_
 have H:=J D;clear B F D;generalize G:l.length=n at*;have y:=J G;clear G;go_in;go_wp2_with fail;apply(kZ _ _ o_ o_).mono;rintro e W⟨rfl,u⟩;go_wp2;go_loopw [6,20] (λv i wr=>∃(k:Nat),k<=n/\i = I k/\v = T (str (two 0++body (l.take k)))/\E w wr) (λ_ i _=>n-(intOf i).toNat)
 case atStart=>exact⟨0,o_,rfl,o_,u⟩
 .obtain⟨k,hk,rfl,rfl,f⟩:=hrel;by_cases q:k<n
  .have d:k<l.length:=by rw[y];omega
   obtain⟨b,off,rfl,u,x⟩:=(V.below f).at_ (by simpa using d);rw[getElem_map]at x;have p:=all_eq_true.1 U _ (gM d);have M:(str (two 0++body (l.take k))).size<=1000:=by rw[dR,aE,qT,length_take];simp[two];omega
   have g:=sP d;have s:=J g;have m:=J p;clear g p;generalize l[k]'d=z at*;have O:0<=z/\z<2047:=by have:=m.o;simpa[eP]using this
   have R:(str (two z)).size<=2:=by rw[dR];simp[two]
   generalize C:str _=S at*;have L:=J C;clear C;go_wp2_with fail;apply(tN z _ m).mono;rintro e w'⟨rfl,rfl⟩;go_wp2_with fail;apply(kZ z _ o_ o_).mono;rintro e Y⟨rfl,r⟩;clear x;go_wp2;go_roundw
   case rel=>exact⟨k+1,o_,o_,by rw[<-L,s,lS,append_assoc],f.trans (r.mono f.size)⟩
   case measure=>simp[intOf];omega
  .have hd:l.take k=l:=take_of_length_le (by rw[y];omega);go_wp2;go_ret2;unfold piece;rw[hd,H];trivial
def O1 next A c l w(Z:l.length<=122)(hn:next<2047)(N : -9223372036854775808<=next)(hx:¬next < -1)(F:l.all eP=true)(B:Row w w.heap.size A (nums l)) :
 Calls prog 230 #[.int .i64 next,.slice A l.length c] w λe w'=>e = .returned (.tuple #[.string (str (piece next l)),.int .i64 0])/\Below w.heap.size w w':=by
 have V:=J B;have U:=J F;have D:max next (-1)+1=(next+1):=o_
 have H:=J D;clear B F D;generalize G:l.length=n at*;have y:=J G;clear G;go_in;go_wp2_with fail;apply(kZ _ _ o_ o_).mono;rintro e W⟨rfl,u⟩;go_wp2;go_loopw [6,20] (λv i wr=>∃(k:Nat),k<=n/\i = I k/\v = T (str (two (next+1)++body (l.take k)))/\E w wr) (λ_ i _=>n-(intOf i).toNat)
 case atStart=>exact⟨0,o_,rfl,o_,u⟩
 .obtain⟨k,hk,rfl,rfl,f⟩:=hrel;by_cases q:k<n
  .have d:k<l.length:=by rw[y];omega
   obtain⟨b,off,rfl,u,x⟩:=(V.below f).at_ (by simpa using d);rw[getElem_map]at x;have p:=all_eq_true.1 U _ (gM d);have M:(str (two (next+1)++body (l.take k))).size<=1000:=by rw[dR,aE,qT,length_take];simp[two];omega
   have g:=sP d;have s:=J g;have m:=J p;clear g p;generalize l[k]'d=z at*;have O:0<=z/\z<2047:=by have:=m.o;simpa[eP]using this
   have R:(str (two z)).size<=2:=by rw[dR];simp[two]
   generalize C:str _=S at*;have L:=J C;clear C;go_wp2_with fail;apply(tN z _ m).mono;rintro e w'⟨rfl,rfl⟩;go_wp2_with fail;apply(kZ z _ o_ o_).mono;rintro e Y⟨rfl,r⟩;clear x;go_wp2;go_roundw
   case rel=>exact⟨k+1,o_,o_,by rw[<-L,s,lS,append_assoc],f.trans (r.mono f.size)⟩
   case measure=>simp[intOf];omega
  .have hd:l.take k=l:=take_of_length_le (by rw[y];omega);go_wp2;go_ret2;unfold piece;rw[hd,H];trivial
def NW next A c l w(hl:l.length<=122)(hn:next<2047)(hn' : -9223372036854775808<=next)(hx:next < -1)(ha:l.all eP=false)(hr:Row w w.heap.size A (nums l)) :
 Calls Tryz.prog 230 #[.int .i64 next,.slice A l.length c] w λe w'=>e = .returned (.tuple #[.string ⟨#[]⟩,.int .i64 2])/\Below w.heap.size w w':=by
 have Hr:=J hr;have Ha:=J ha;clear hr ha;generalize hN:l.length=n at*;have Hn:=J hN;clear hN;go_enter Tryz.func230,Tryz.ntmps230;go_wp2_with fail;apply(kZ _ _ o_ o_).mono;rintro e w1⟨rfl,hb1⟩;go_wp2
 go_loopw [6,20] (λv i wr=>∃(k:Nat),k<=n/\i = I k/\v = T (str (two 0++body (l.take k)))/\(l.take k).all eP=true/\E w wr) (λ_ i _=>n-(intOf i).toNat)
 case atStart=>exact⟨0,o_,rfl,o_,s_,hb1⟩
 .obtain⟨k,hk,rfl,rfl,hall,hbe⟩:=hrel;have Hall:=J hall;clear hall;by_cases hkn:k<n
  .have hkl:k<l.length:=by rw[Hn];omega
   obtain⟨b,off,rfl,hb,hc⟩:=(Hr.below hbe).at_ (by simpa using hkl);rw[getElem_map]at hc;have hz1:(str (two 0++body (l.take k))).size<=1000:=by rw[dR,aE,qT,length_take];simp[two];omega
   have hsn:=sP hkl;have hal:=zQ hkl;rw[Hall,Bool.true_and]at hal;have Hsn:=J hsn;have Hal:=J hal;clear hsn hal;generalize l[k]'hkl=z at*;generalize hS:str _=S at*;have HS:=J hS;clear hS;rcases hok:eP z with _|_
   .have Hok:=J hok;clear hok;go_wp2_with fail;apply(Cq z _ Hok).mono;rintro e w'⟨rfl,rfl⟩;go_wp2;go_ret2;trivial
   .rw[hok]at Hal;have Hok:=J hok;clear hok;have hz:0<=z/\z<2047:=by have:=Hok.o;simpa[eP]using this
    have hz2:(str (two z)).size<=2:=by rw[dR];simp[two]
    go_wp2_with fail;apply(tN z _ Hok).mono;rintro e w'⟨rfl,rfl⟩;go_wp2_with fail;apply(kZ z _ o_ o_).mono;rintro e w2⟨rfl,hb2⟩;clear hc;go_wp2
    go_roundw
    case rel=>exact⟨_,o_,o_,by rw[<-HS,Hsn,lS,append_assoc],Hal,hbe.trans (hb2.mono hbe.size)⟩
    case measure=>simp[intOf];omega
  .exfalso;have hd:l.take k=l:=take_of_length_le (by rw[Hn];omega);have:=Hall;rw[hd,Ha]at this;cases this
def NX next A c l w(hl:l.length<=122)(hn:next<2047)(hn' : -9223372036854775808<=next)(hx:¬next < -1)(ha:l.all eP=false)(hr:Row w w.heap.size A (nums l)) :
 Calls Tryz.prog 230 #[.int .i64 next,.slice A l.length c] w λe w'=>e = .returned (.tuple #[.string ⟨#[]⟩,.int .i64 2])/\Below w.heap.size w w':=by
 have Hr:=J hr;have Ha:=J ha;clear hr ha;generalize hN:l.length=n at*;have Hn:=J hN;clear hN;go_enter Tryz.func230,Tryz.ntmps230;go_wp2_with fail;apply(kZ _ _ o_ o_).mono;rintro e w1⟨rfl,hb1⟩;go_wp2
 go_loopw [6,20] (λv i wr=>∃(k:Nat),k<=n/\i = I k/\v = T (str (two (next+1)++body (l.take k)))/\(l.take k).all eP=true/\E w wr) (λ_ i _=>n-(intOf i).toNat)
 case atStart=>exact⟨0,o_,rfl,o_,s_,hb1⟩
 .obtain⟨k,hk,rfl,rfl,hall,hbe⟩:=hrel;have Hall:=J hall;clear hall;by_cases hkn:k<n
  .have hkl:k<l.length:=by rw[Hn];omega
   obtain⟨b,off,rfl,hb,hc⟩:=(Hr.below hbe).at_ (by simpa using hkl);rw[getElem_map]at hc;have hz1:(str (two (next+1)++body (l.take k))).size<=1000:=by rw[dR,aE,qT,length_take];simp[two];omega
   have hsn:=sP hkl;have hal:=zQ hkl;rw[Hall,Bool.true_and]at hal;have Hsn:=J hsn;have Hal:=J hal;clear hsn hal;generalize l[k]'hkl=z at*;generalize hS:str _=S at*;have HS:=J hS;clear hS;rcases hok:eP z with _|_
   .have Hok:=J hok;clear hok;go_wp2_with fail;apply(Cq z _ Hok).mono;rintro e w'⟨rfl,rfl⟩;go_wp2;go_ret2;trivial
   .rw[hok]at Hal;have Hok:=J hok;clear hok;have hz:0<=z/\z<2047:=by have:=Hok.o;simpa[eP]using this
    have hz2:(str (two z)).size<=2:=by rw[dR];simp[two]
    go_wp2_with fail;apply(tN z _ Hok).mono;rintro e w'⟨rfl,rfl⟩;go_wp2_with fail;apply(kZ z _ o_ o_).mono;rintro e w2⟨rfl,hb2⟩;clear hc;go_wp2
    go_roundw
    case rel=>exact⟨_,o_,o_,by rw[<-HS,Hsn,lS,append_assoc],Hal,hbe.trans (hb2.mono hbe.size)⟩
    case measure=>simp[intOf];omega
  .exfalso;have hd:l.take k=l:=take_of_length_le (by rw[Hn];omega);have:=Hall;rw[hd,Ha]at this;cases this
def NZ next A c n w(d:122<n)(b:n<=maxLen) :
 Calls prog 230 #[.int .i64 next,.slice A n c] w λe w'=>e = .returned (.tuple #[.string ⟨#[]⟩,.int .i64 5])/\Below w.heap.size w w':=by
 unfold maxLen at b;go_in;go_wp2;go_ret2;exact⟨rfl,bR⟩
def NY next A c n w(d:n<=122)(b:¬next<2047) :
 Calls prog 230 #[.int .i64 next,.slice A n c] w λe w'=>e = .returned (.tuple #[.string ⟨#[]⟩,.int .i64 2])/\Below w.heap.size w w':=by
 go_in;go_wp2;go_ret2;exact⟨rfl,bR⟩
def rM next A c l w(d : -9223372036854775808<=next)(b:fG next l=0)(f:Row w w.heap.size A (nums l)) :
 Calls prog 230 #[.int .i64 next,.slice A l.length c] w λe w'=>e = .returned (.tuple #[.string (str (piece next l)),.int .i64 0])/\Below w.heap.size w w':=by
 unfold fG at b;split at b
 .cases b
 .split at b
  .cases b
  .split at b
   .rename_i h1 h2 g;by_cases hx:next < -1
    .exact O0 _ A c l w o_ o_ d hx g f
    .exact O1 _ A c l w o_ o_ d hx g f
   .cases b
def yv next A c l w(d : -9223372036854775808<=next)(m:l.length<=maxLen)(b:fG next l≠0)(g:Row w w.heap.size A (nums l)) :
 Calls prog 230 #[.int .i64 next,.slice A l.length c] w λe w'=>e = .returned (.tuple #[.string ⟨#[]⟩,.int .i64 (fG next l)])/\Below w.heap.size w w':=by
 unfold fG at b⊢;by_cases h1:122<l.length
 .rw[if_pos h1];exact NZ _ A c _ w h1 m
 .rw[if_neg h1]at b⊢;by_cases h2:2046<next
  .rw[if_pos h2];exact NY _ A c _ w o_ o_
  .rw[if_neg h2]at b⊢;by_cases f:l.all eP=true
   .grind
   .rw[if_neg f];by_cases hx:next < -1
    .exact NW _ A c l w o_ o_ d hx r_ g
    .exact NX _ A c l w o_ o_ d hx r_ g
end Ch
end Go.Proofs.YtibjlpkpljnicaaGreatDoor
