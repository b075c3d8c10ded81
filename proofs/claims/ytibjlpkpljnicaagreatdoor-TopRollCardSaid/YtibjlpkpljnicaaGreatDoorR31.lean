/- Parts. -/
import Derived.Test.YtibjlpkpljnicaaGreatDoorR03
import Derived.Test.YtibjlpkpljnicaaGreatDoorR11
import Derived.Test.YtibjlpkpljnicaaGreatDoorR30
import Derived.Deep.RegionLaw
set_option maxRecDepth 100000
set_option maxHeartbeats 8000000
set_option linter.all false
namespace Go.Proofs.YtibjlpkpljnicaaGreatDoor
namespace Pg
open List Go.RowKit Base Crc Plain Go.Proofs.Tryz
def Ml{k}(h:j8 k=true):k=67\/k=78\/k=77:=by
 simp only[j8,Bool.or_eq_true,beq_iff_eq]at h;grind
def xB k w(h:j8 k=true) :
 Calls prog 231 #[.int .u8 k.toNat] w λe w'=>e = .returned (.bool true)/\w=w':=by
 obtain rfl|rfl|rfl:=Ml h
 all_goals
  clear h;show Calls prog 231 #[.int .u8 (_:Int)] w _;go_in;go_wp2;go_ret;simp
def C2 k w(h:j8 k=false) :
 Calls prog 231 #[.int .u8 k.toNat] w λe w'=>e = .returned (.bool false)/\w=w':=by
 have h1:((k.toNat:Int) == 67)=false:=by
  simp only[beq_eq_false_iff_ne];intro e;have:k=67:=UInt8.toNat_inj.1 o_;subst this;cases h
 have h2:((k.toNat:Int) == 78)=false:=by
  simp only[beq_eq_false_iff_ne];intro e;have:k=78:=UInt8.toNat_inj.1 o_;subst this;cases h
 have b:((k.toNat:Int) == 77)=false:=by
  simp only[beq_eq_false_iff_ne];intro e;have:k=77:=UInt8.toNat_inj.1 o_;subst this;cases h
 clear h;generalize k.toNat=x at*;go_in;go_wp2;go_ret;simp
def DQ c:Lib.repeatL [0] c=fM c:=by
 induction c with
 |zero=>rfl
 |succ c b=>first|(rw[Lib.repeatL,b];rfl)|(simp[Lib.repeatL,fM,replicate_succ]at*;done)
def rM k(i:Nat) s w(hk:j8 k=true)(hi:i<=16777215)(hs:s.size<=246) :
 Calls Tryz.prog 173 #[.int .u8 k.toNat,.int .i64 i,.string s] w λe w'=>e = .returned (.tuple #[.string (str (pg k i s.data.toList)),.int .i64 0])/\Below w.heap.size w w':=by
 have hkl:=k.toNat_lt;have hc:∀w:World,(convert 148 9 (U (some ⟨w.heap.size,0,none⟩) 6 6)).run prog (w.alloc (.cells #[.int .u8 k.toNat,.int .u8 (i / 65536),.int .u8 (i / 256 % 256),.int .u8 (i % 256),.int .u8 (s.size / 256),.int .u8 s.size] 5)) = .ok (T (str (hd k i s.size))) (w.alloc (.cells #[.int .u8 k.toNat,.int .u8 (i / 65536),.int .u8 (i / 256 % 256),.int .u8 (i % 256),.int .u8 (s.size / 256),.int .u8 s.size] 5)):=λw=>by
  have h:=sY w [k.toNat,i / 65536,i / 256 % 256,i % 256,s.size / 256,s.size] o_;have e:[(k.toNat:Int),i / 65536,i / 256 % 256,i % 256,s.size / 256,s.size].map (λx=>bw x.toNat)=hd k i s.size:=by
   unfold hd;simp only[map_cons,map_nil,List.cons.injEq,and_true];refine⟨?_,rfl,mo _,mo i,rfl,rfl⟩;exact py _ _ o_
  grind
 have hpg:pg k i _=closed ((hd k i s.size++s.data.toList)++fM (246-s.size)):=rfl
 have hsz:(str (hd k i s.size)++s).size=6+s.size:=by
  rw[ByteArray.size_append,dR];rfl
 have hcat:str (hd k i _)++s=str (hd k i s.size++s.data.toList):=rfl
 have Hcat:=J hcat;have hh1:(str (hd k i s.size)).size<=6:=r_
 have hK:=λw=>xB k w hk
 have HK:=J hK;clear hcat hK hk;go_enter Tryz.func173,Tryz.ntmps173;go_wp2_with fail;apply(HK _).mono;rintro e w'⟨rfl,rfl⟩;go_wp2_with fail;rw[show(252-(6+s.size))=((246-s.size:Nat):Int) by omega];refine(Tryz.strings_Repeat _ _ _ o_ (by show 1*(246-s.size)<=_;omega)).mono ?_;rintro e w1⟨rfl,hb1⟩;have hrep:⟨(Lib.repeatL (⟨#[0]⟩:ByteArray).data.toList (246-s.size)).toArray⟩=str _:=congrArg str (DQ _);rw[hrep];have hsz2:(str (fM (246-s.size))).size=246-s.size:=by rw[dR,xZ]
 have hsz3:((str (hd k i s.size)++s)++str (fM (246-s.size))).size<=300:=o_
 have hfin:str (closed ((str (hd k i s.size)++s)++str (fM (246-s.size))).data.toList)=str (pg k i _):=o_
 have hq1:(str (hd k i s.size)++s).size<=300:=o_
 have hq2:(str (fM (246-s.size))).size<=300:=o_
 clear hrep hc hsz hsz2;generalize str (fM _)=R at*;go_wp2_with fail;apply(AO _ _ o_).mono;rintro e w2⟨rfl,hb2⟩;rw[hfin];go_wp2;go_ret2;have hb0:E w _:=(bR.alloc o_ _).trans (hb1.mono s_);exact⟨rfl,hb0.trans (hb2.mono hb0.size)⟩
def yz{k i n}(h:j8 k=false\/i<0\/16777215<i):qi k i n=2:=by
 unfold qi;grind
def yv k i s w(f:s.size<=maxLen)(h:qi k i s.size≠0) :
 Calls prog 173 #[.int .u8 k.toNat,I i,T s] w λe w'=>e = .returned (.tuple #[T ⟨#[]⟩,I (qi k i s.size)])/\w=w':=by
 unfold maxLen at f;by_cases hk:j8 k=true
 .have b:=J (λw=>xB k w hk);by_cases h0:i<0
  .rw[yz (.inr (.inl h0))];generalize k.toNat=x at*;generalize s.size=n at*;go_in;go_wp2_with fail;apply(b _).mono;rintro e w'⟨rfl,rfl⟩;go_wp2;go_ret2;simp
  .by_cases h1:16777215<i
   .rw[yz (.inr (.inr h1))];go_in;go_wp2_with fail;apply(b _).mono;rintro e w'⟨rfl,rfl⟩;go_wp2;go_ret2;simp
   .have d:qi k i s.size=if 246<s.size then 5 else 0:=by
     unfold qi;rw[if_pos];simp;grind
    by_cases h2:246<s.size
    .rw[d,if_pos h2];go_in;go_wp2_with fail;apply(b _).mono;rintro e w'⟨rfl,rfl⟩;go_wp2;go_ret2;simp
    omega
 .have c:j8 k=false:=r_
  rw[yz (.inl c)];have b:=J (λw=>C2 k w c);go_in;go_wp2_with fail;apply(b _).mono;rintro e w'⟨rfl,rfl⟩;go_wp2;go_ret2;simp
end Pg
namespace Pg
open List Go.RowKit Base Crc Plain Txt Go.Proofs.Tryz
def dropWhile_nil{p:UInt8->Bool}:∀{l:List UInt8},l.dropWhile p=[]↔∀x∈l,p x=true
 | []=>by simp
 |x::l=>by
  rw[dropWhile_cons];split
  .rename_i h;rw[dropWhile_nil];simp[h]
  grind
def QO(l:List UInt8):Lib.trimB l 0=[]↔l=fM l.length:=by
 unfold Lib.trimB Lib.trimLeftB Lib.trimRightB;constructor
 .intro h;rw[dropWhile_nil]at h;have h1:l.reverse.dropWhile (· == 0)=[]:=by
   rcases hx:l.reverse.dropWhile _ with _|⟨x,r⟩
   .rfl
   .have h2:=h x r_;have c:=head_dropWhile_not (p:=(· == (0:UInt8))) (by rw[hx];simp);grind
  rw[dropWhile_nil]at h1;unfold fM;rw[eq_replicate_iff];refine⟨rfl,λb d=> ?_⟩;have:=h1 b o_;grind
 .intro h;rw[dropWhile_nil];intro x hx;have:x∈l:=by
   have h1:x∈l.reverse.dropWhile (· == 0):=by grind
   simpa using((dropWhile_sublist _).mem h1)
  rw[h]at this;unfold fM at this;grind
def nothing:Value:= .tuple #[.int .u8 0,I 0,T ⟨#[]⟩,I 15]
def EO(p:ByteArray)(w:World)(g:p.size<=140737488355328)(h:isClosed p.data.toList=false\/p.size≠256) :
 Calls Tryz.prog 228 #[.string p] w λe w'=>e = .returned nothing/\Below w.heap.size w w':=by
 have f:=J (λw=>rG p w g);by_cases c:isClosed p.data.toList=true
 .have n:((p.size:Int) != 256)=true:=r_
  clear h;go_enter Tryz.func228,Tryz.ntmps228;go_wp2_with fail;apply(f.out _).mono;rintro e m⟨rfl,b⟩;rw[c];generalize opened _=O at*;go_wp2;exact bodyPost_ret (by simp[results,nothing]) rfl ⟨rfl,b⟩
 .have d:isClosed p.data.toList=false:=r_
  clear h c;go_enter Tryz.func228,Tryz.ntmps228;go_wp2_with fail;apply(f.out _).mono;rintro e m⟨rfl,b⟩;rw[d];generalize opened _=O at*;go_wp2;exact bodyPost_ret (by simp[results,nothing]) rfl ⟨rfl,b⟩
def EN(p:ByteArray)(w:World)(hp:p.size=256)(hc:isClosed p.data.toList=true)(P:Ending->World->Prop)
 (g:jY p.data.toList=true->∀w',E w w'->P (.returned (.tuple #[.int .u8 (ft p.data.toList).toNat,I (idxOf p.data.toList:Nat),T (str (iW p.data.toList)),I 0])) w')
 (s:jY p.data.toList=false->∀w',E w w'->P (.returned nothing) w') :
 Calls prog 228 #[T p] w P:=by
 have G:opened p.data.toList=str (front p.data.toList):=by unfold opened;grind
 have C:p.data.toList.length=256:=o_
 have F:(front p.data.toList).length=252:=by unfold front;rw[length_take];omega
 obtain⟨y,z,u⟩:=Bq _ C;have f:=kp (λD=>AD _ C D);have d:jY p.data.toList=(j8 (ft (front p.data.toList))&&decide (lenOf (front p.data.toList)<=246)&&decide ((front p.data.toList).drop (6+lenOf (front p.data.toList))=fM (246-lenOf (front p.data.toList)))):=by
  unfold jY;rw[hc,y,u];grind
 rw[<-y,<-z]at g;rw[<-u]at f
 clear y z u;generalize front _=l at*;have u:∀W,(Instr.index 9 (T _) (I 0)).run _ W = .ok (.int _ (nb l 0)) W:=mW l 0 o_;have u:∀W,(Instr.index 9 (T _) (I 1)).run _ W = .ok (.int _ (nb l 1)) W:=mW l 1 o_;have u:∀W,(Instr.index 9 (T _) (I 2)).run _ W = .ok (.int _ (nb l 2)) W:=mW l 2 o_;have u:∀W,(Instr.index 9 (T _) (I 3)).run _ W = .ok (.int _ (nb l 3)) W:=mW l 3 o_;have u:∀W,(Instr.index 9 (T _) (I 4)).run _ W = .ok (.int _ (nb l 4)) W:=mW l 4 o_;have u:∀W,(Instr.index 9 (T _) (I 5)).run _ W = .ok (.int _ (nb l 5)) W:=mW l 5 o_;have L:(ft l).toNat=nb l 0:=rfl;have u:=pU l 1;have u:=pU l 2;have u:=pU l 3;have u:=pU l 4;have u:=pU l 5;have Z:idxOf l=nb l 1*65536+nb l 2*256+nb l 3:=rfl;have D:lenOf l=nb l 4*256+nb l 5:=rfl;have HF:=kp (λn x hx N W=>pC l (6+n) x hx N W);have z:=kp (λn y u N W=>B8 l 6 (6+n) 6 y rfl u o_ N W);have U:=kp F;generalize str l=b at*;generalize nb l 0=y0 at*;generalize nb l 1=H at*;generalize nb l 2=M at*;generalize nb l 3=X at*;generalize nb l 4=O at*;generalize nb l 5=V at*;go_in;go_wp2_with fail;refine((J (λw=>rG p w o_)).out _).mono ?_;rintro e u⟨rfl,q⟩;rw[hc,G];by_cases hk:j8 (ft l)=true
 .have hK:=λw=>xB _ w hk;rw[L]at hK;have u:=kp hK;go_wp2_with fail;apply(u _).mono;rintro e w'⟨rfl,rfl⟩;go_wp2;obtain⟨n,N⟩:∃n:Nat,n=O*256+V:=⟨_,rfl⟩;have u:bits .or .i64 (O*256) V=n:=by
   have h:=yh 8 (O*256) V o_ o_ o_;rw[N,<-h];congr 1
  have m:IntKind.i64.wrap _=O:=IntWalk.i64_in _ o_;have a4:IntKind.i64.wrap _=O*256:=IntWalk.i64_in _ o_;have G:IntKind.i64.wrap _=V:=IntWalk.i64_in _ o_;have y:=kp (show lenOf l=n by omega);have D:n<70000:=o_;clear N;go_quiet (fail);clear u m a4 G;by_cases u:246<n
  .have c:=kp (s (by rw[d,y];simp;omega));go_wp2;exact bodyPost_ret (by simp[results,nothing]) rfl (c.out _ (below_drewN q _))
  .have u:=HF n (6+n) o_ o_;have O:=z n (6+n) o_ o_;have u:(str (l.drop (6+n))).size<=252:=by rw[dR,length_drop,U];omega
   have u:=kp (λw=>Tryz.strings_Trim_one (str (l.drop (6+n))) 0 d_ w o_);have z:(l.drop (6+n)).length=246-n:=o_
   have A:=QO (l.drop (6+n));rw[z]at A;have z:IntKind.i64.wrap _=6+n:=IntWalk.i64_in _ o_;have R:(str _).data.toList=l.drop (6+n):=rfl;rw[R]at u;generalize str (l.drop _)=D at*;go_wp2_with fail;apply(u _).mono;rintro e u⟨rfl,m⟩;have Y:=kp (show E w u by
    obtain rfl|rfl:=m
    .exact below_drewN q _
    .exact(below_drewN q _).drew)
   clear m;by_cases ht:Lib.trimB (l.drop (6+n)) 0=[]
   .obtain⟨m1,G⟩:∃m1:Nat,m1=H*65536+M*256:=⟨_,rfl⟩;obtain⟨m2,B⟩:∃m2:Nat,m2=m1+X:=⟨_,rfl⟩;have u:bits .or .i64 (H*65536) (M*256)=m1:=by
     rw[G,<-(yh 16 _ _ o_ o_ o_)];congr 1
    have u:bits .or .i64 m1 X=m2:=by
     rw[B,<-yh 8 _ X o_ o_ o_]
    have u:IntKind.i64.wrap _=H:=IntWalk.i64_in _ o_;have u:IntKind.i64.wrap _=M:=IntWalk.i64_in _ o_;have u:IntKind.i64.wrap _=X:=IntWalk.i64_in _ o_;have u:IntKind.i64.wrap _=H*65536:=IntWalk.i64_in _ o_;have u:IntKind.i64.wrap _=M*256:=IntWalk.i64_in _ o_;have u:=kp (show idxOf l=m2 by omega);have z:jY p.data.toList=true:=by
     rw[d,hk,y];simp;grind
    have c:=g z;rw[<-(f r_),u.out,L,y]at c;rw[ht];clear ht G B z g s d f hk;have u:6+n-6=n:=o_;rw[u]at O;clear u;generalize str _=S at*;go_wp2;go_quiet (fail);go_wp2;exact bodyPost_ret (by simp[results,go_sem]) rfl (c _ (below_drewN Y.out _))
   .have c:=kp (s (by
     rw[d,y];grind))
    obtain⟨x,r,u⟩:=exists_cons_of_ne_nil ht;rw[u];go_wp2;exact bodyPost_ret (by simp[results,nothing]) rfl (c.out _ Y.out)
 .have Z:j8 (ft l)=false:=r_
  have hK:=λw=>C2 _ w Z;rw[L]at hK;have c:=kp (s r_);go_wp2_with fail;apply(hK _).mono;rintro e w'⟨rfl,rfl⟩;go_wp2;exact bodyPost_ret (by simp[results,nothing]) rfl (c.out _ q)
def rW:Value->Nat
 | .string s=>s.size
 |_=>0
def Dj(l:List UInt8):Value:= .tuple #[.int .u8 (ft l).toNat,I (idxOf l:Nat),T (str (iW l)),I 0]
def rX p w(h:jY p.data.toList=true) :
 Calls prog 228 #[.string p] w λe w'=>e = .returned (Dj p.data.toList)/\Below w.heap.size w w':=by
 have h':=h;unfold jY at h';simp only[Bool.and_eq_true,decide_eq_true_eq]at h';refine EN p w (by simpa using h'.1.1.1.1) h'.1.1.1.2 _ (λ_ w' c=>⟨rfl,c⟩) (λb=> ?_);grind
def EM p w(d:p.size<=140737488355328)(h:jY p.data.toList=false) :
 Calls prog 228 #[.string p] w λe w'=>e = .returned nothing/\Below w.heap.size w w':=by
 by_cases f:p.size=256
 .by_cases c:isClosed p.data.toList=true
  .refine EN p w f c _ (λb=> ?_) (λ_ w' g=>⟨rfl,g⟩);grind
  .exact EO p w d (.inl r_)
 .exact EO p w d (.inr f)
def J' p k i w(h:jY p.data.toList=true)(hk:ft p.data.toList=k)(hi:(idxOf p.data.toList:Int)=i) :
 Calls prog 163 #[.string p,.int .u8 k.toNat,.int .i64 i] w λe w'=>e = .returned (.tuple #[.string (str (iW p.data.toList)),.int .i64 0])/\Below w.heap.size w w':=by
 have b:=kp (λw=>rX p w h);unfold Dj at b;rw[hk,hi]at b;clear h hk hi;generalize str _=S at*;generalize k.toNat=x at*;go_in;go_wp2_with fail;apply(b _).mono;rintro e d⟨rfl,c⟩;go_wp2;go_ret2;trivial
def gP(n:Int):Int:=if n<=0 then 0 else(n-1) / 246+1
def oF(n:Int)(w:World)(h1:n<=9223372036854775807) :
 Calls prog 89 #[I n] w λe w'=>e = .returned (I (gP n))/\w=w':=by
 unfold gP;by_cases h:n<=0
 .rw[if_pos h];go_in;go_wp2;go_ret;simp
 .rw[if_neg h];go_in;go_wp2;go_ret;simp
def ue(n:Int):Int:=if n<16\/4096<n then 0 else(n-2) / 2
def Dt(n:Int)(w:World) :
 Calls prog 81 #[I n] w λe w'=>e = .returned (I (ue n))/\w=w':=by
 unfold ue;by_cases h:n<16
 .rw[if_pos (.inl h)];go_in;go_wp2;go_ret;simp
 .by_cases h1:4096<n
  .rw[if_pos (.inr h1)];go_in;go_wp2;go_ret;simp
  .rw[if_neg o_];go_in;go_wp2;go_ret;simp
def pZ(n:Int):Int:=if n<0\/2047<n then 0 else 2+2*n
def Dn(n:Int)(w:World) :
 Calls prog 227 #[I n] w λe w'=>e = .returned (I (pZ n))/\w=w':=by
 unfold pZ;by_cases h:n<0
 .rw[if_pos (.inl h)];go_in;go_wp2;go_ret;simp
 .by_cases h1:2047<n
  .rw[if_pos (.inr h1)];go_in;go_wp2;go_ret;simp
  .rw[if_neg o_];go_in;go_wp2;go_ret;simp
def pP:(prog.info? 9).map (λi=>(i.zero,i.size,i.bytes))=some (some (T ByteArray.empty),1,16):=k_
def di(l:List UInt8)(k:Nat):List UInt8:=(l.drop (246*k)).take 246
def ie(b:UInt8)(first:Nat)(l:List UInt8)(n:Nat):List ByteArray:=(range n).map λi=>str (pg b (first+i) (di l i))
def Ey b first l k:ie b first l (k+1)=ie b first l k++[str (pg b (first+k) (di l k))]:=by
 unfold ie;rw[range_succ,map_append];rfl
def rK l k:(di l k).length=min (l.length-246*k) 246:=by
 unfold di;grind
def pn(n:Nat):Nat:=(n+245) / 246
def Ez g(first:Nat) l w(hk:j8 g=true)(hf:first<=16000000)(hl:l.length<=60000)(P:Ending->World->Prop)(F:∀v w',w'.ownsRow w.heap.size 9 1 v (pn l.length) ((ie g first l (pn l.length)).map .string)->Below w.heap.size w w'->P (.returned (.tuple #[v,I 0])) w') :
 Calls prog 171 #[.int .u8 g.toNat,I first,T (str l)] w P:=by
 obtain⟨i0,X,Y,a0,a4⟩:=info_parts pP;have Z:=J F;have HP:=J (λi s W hi hs=>rM g i s W hk hi hs);clear F hk;have Hf:=J hf;have c8:first<100000000:=o_
 clear hf;generalize g.toNat=kx at*;go_in;go_wp2
 go_loopw [1,2,8] (λv1 v2 v8 wr=>∃k,246*k<l.length+246/\k<=300/\v2 = T (str (l.drop (246*k)))/\v1 = I ((first:Int)+(k:Int))/\wr.ownsRow w.heap.size 9 1 v8 k ((ie g first l k).map .string)/\Below w.heap.size w wr) (λ_ v2 _ _=>rW v2)
 case atStart=>exact⟨0,o_,o_,s_,s_,World.ownsRow_nil _ _ _ _,bR⟩
 .obtain⟨k,d2,d1,rfl,rfl,M,a2⟩:=hrel;have z:=J M;have q:=J a2;clear M a2;by_cases c6:246*k<l.length
  .have U:(l.drop (246*k))≠[]:=by
    intro hh;have:=congrArg length hh;rw[length_drop]at this;simp at this;omega
   have N:∀W,Calls Tryz.prog 173 #[.int .u8 kx,.int .i64 (first+k),.string (str (di l k))] W λe w'=>e = .returned (.tuple #[.string (str (pg g (first+k) (di l k))),.int .i64 0])/\Below W.heap.size W w':=by
    intro W;have h:=HP (first+k) (str (di l k)) W (by have:=Hf.o;omega) (by rw[dR,rK];omega);rw[ig]at h;exact h
   have A:=J N;have m:=J (show(str _).size=l.length-246*k by rw[dR,length_drop]);have H:(str (l.drop (246*k))).toList.isEmpty=false:=by
    rw[ByteArray.toList_eq,ig];grind
   have b7:(str (l.drop (246*k))).size<=60000:=by rw[m];omega
   clear N U;generalize hD:str (l.drop _)=D at*;have HD:=J hD;clear hD;by_cases b2:246<l.length-246*k
   .skip
    have a8:246<D.size:=by rw[m];omega
    have u:min (D.size:Int) 246=246:=o_
    have HU:∀W,(Instr.slice 9 (T D) none (some (I 246)) none).run prog W = .ok (T (str (di l k))) W:=by
     intro W;rw[<-HD];exact qY _ _ _ rfl o_ W
    have HV:∀W,(Instr.slice 9 (T D) (some (I 246)) none none).run prog W = .ok (T (str (l.drop (246*(k+1))))) W:=by
     intro W;rw[<-HD];have:=pC (l.drop (246*k)) 246 246 rfl o_ W;rw[drop_drop,show 246*k+246=246*(k+1) by omega]at this;omega
    have R:=J (Ey g first l k);have HE:=J (show rW (T (str _))<D.size by rw[m];show(l.drop (246*(k+1))).length<_;grind);clear m;generalize hE:str (l.drop (246*(k+1)))=E at*;have HEq:=J hE;clear hE;generalize str _=C at*;generalize str (pg g _ _)=G at*;go_wp2_with fail;refine(A _).mono ?_;rintro e V⟨rfl,p⟩;have c:=(Over.under (B:=0) p).own z o_;have b:=q.trans (p.mono q.size);clear p;have O:IntKind.i64.wrap _=first+k+1:=IntWalk.i64_in _ o_;go_wp2
    go_region_law (apply jq rfl _ _ _ rfl _ 9 _ _ _ underlying23 X Y a0 a4 rfl V.drew (T G) rfl u8 k _ rfl (c) rfl o_ d_ b.size;intro v' w3 d f)
    all_goals
     have r:=J (f.below b.drew (c) o_ b.size);have n:=J d;clear f c b d;go_wp2;clear u HU HV H O;refine⟨?_,HE⟩
     (repeat apply Exists.intro)
     refine And.intro ?_ rfl;refine⟨k+1,o_,o_,by rw[HEq],o_,?_,r⟩;rw[R,map_append];exact n
   .skip
    have a8:D.size<=246:=by rw[m];omega
    have u:min (D.size:Int) 246=D.size:=o_
    have HU:∀W,(Instr.slice 9 (T D) none (some (I D.size)) none).run prog W = .ok (T (str (di l k))) W:=by
     intro W;rw[<-HD];have:=qY _ (l.drop (246*k)).length ((str _).size:Int) rfl (ae _) W;rw[take_length]at this;rw[this];unfold di;rw[take_of_length_le o_]
    have HV:∀W,(Instr.slice 9 (T D) (some (I D.size)) none none).run prog W = .ok (T (str (l.drop (246*(k+1))))) W:=by
     intro W;rw[<-HD];have:=pC _ (l.drop (246*k)).length ((str _).size:Int) rfl (ae _) W;rw[drop_length]at this;rw[this,drop_of_length_le o_]
    have R:=J (Ey g first l k);have HE:=J (show rW (T (str _))<D.size by rw[m];show(l.drop (246*(k+1))).length<_;grind);clear m;generalize hE:str (l.drop (246*(k+1)))=E at*;have HEq:=J hE;clear hE;generalize str _=C at*;generalize str (pg g _ _)=G at*;go_wp2_with fail;refine(A _).mono ?_;rintro e V⟨rfl,p⟩;have c:=(Over.under (B:=0) p).own z o_;have b:=q.trans (p.mono q.size);clear p;have O:IntKind.i64.wrap _=first+k+1:=IntWalk.i64_in _ o_;go_wp2
    go_region_law (apply jq rfl _ _ _ rfl _ 9 _ _ _ underlying23 X Y a0 a4 rfl V.drew (T G) rfl u8 k _ rfl (c) rfl o_ d_ b.size;intro v' w3 d f)
    all_goals
     have r:=J (f.below b.drew (c) o_ b.size);have n:=J d;clear f c b d;go_wp2;clear u HU HV H O;refine⟨?_,HE⟩
     (repeat apply Exists.intro)
     refine And.intro ?_ rfl;refine⟨k+1,o_,o_,by rw[HEq],o_,?_,r⟩;rw[R,map_append];exact n
  .have L:l.drop (246*k)=[]:=o_;have a1:k=pn l.length:=by unfold pn;omega
   rw[L,show str _=⟨_⟩from rfl];have HN:=J a1;clear L a1;go_wp2;have h:=Z;rw[<-HN]at h;exact h _ _ z q
end Pg
namespace Tc
open List Go.RowKit Base Crc Txt Pg Dv Go.Proofs.Tryz
def tJ:∀(puts:List (Nat×ByteArray))(sec:List ByteArray)(q:Nat),(∀p∈puts,p.1≠q)->(dX sec puts)[q]? = sec[q]?
 | [],_,_,_=>rfl
 |p::l,sec,q,h=>by
  show(dX (sec.set p.1 p.2) l)[q]? = _;rw[tJ l _ q (λx hx=>h x (mem_cons_of_mem _ hx)),getElem?_set,if_neg (h p mem_cons_self)]
def xC:∀(puts:List (Nat×ByteArray))(sec:List ByteArray)(q:Nat)(x:ByteArray),q<sec.length->(∃p∈puts,p.1=q)->(∀p∈puts,p.1=q->p.2=x)->(dX sec puts)[q]? = some x
 | [],_,_,_,_,h,_=>by grind
 |p::l,sec,q,x,f,h,d=>by
  show(dX (sec.set p.1 p.2) l)[q]? = _;by_cases c:∃p∈l,p.1=q
  .exact xC l _ q x o_ c (λy b=>d y (mem_cons_of_mem _ b))
  .rw[tJ l _ q (λy b e=>c ⟨y,b,e⟩)];grind
def bV:LN->List (List UInt8)->List (Nat×ByteArray)
 |p::ps,s::ss=>(2+2*p,str (s.take 128))::(2+2*p+1,str (s.drop 128))::bV ps ss
 |_,_=>[]
def xP:∀{ps:LN}{ss:List (List UInt8)}{x:Nat×ByteArray},x∈bV ps ss->∃(i p:Nat)(s:List UInt8),ps[i]? = some p/\ss[i]? = some s/\(x=(2+2*p,str (s.take 128))\/x=(2+2*p+1,str (s.drop 128)))
 | [],_,_,h=>by unfold bV at h;cases h
 |_::_,[],_,h=>by unfold bV at h;cases h
 |p::ps,s::ss,x,h=>by
  unfold bV at h;obtain h|h:=mem_cons.1 h
  .exact⟨0,p,s,rfl,rfl,.inl h⟩
  .obtain h|h:=mem_cons.1 h
   .exact⟨0,p,s,rfl,rfl,.inr h⟩
   .obtain⟨i,q,t,h1,h2,b⟩:=xP h;exact⟨i+1,q,t,h1,h2,b⟩
def DB:∀{ps:LN}{ss:List (List UInt8)}{i p:Nat}{s:List UInt8},ps[i]? = some p->ss[i]? = some s->(2+2*p,str (s.take 128))∈bV ps ss/\(2+2*p+1,str (s.drop 128))∈bV ps ss
 | [],_,_,_,_,h,_=>by simp at h
 |_::_,[],_,_,_,_,h=>by simp at h
 |p::ps,s::ss,0,q,t,h1,h2=>by
  injection h1 with h1
  injection h2 with h2
  subst h1 h2;unfold bV;simp
 |p::ps,s::ss,i+1,q,t,h1,h2=>by
  have:=DB (ps:=ps) (ss:=ss) (i:=i) (p:=q) (s:=t) r_ r_;unfold bV;grind
def Ke{own list maps data sec}(f:(own++list).Nodup){i p:Nat}{s}(g:list[i]? = some p)(m:data[i]? = some s)(v:2+2*p+1<sec.length) r :
 (dX (dX sec (bV list data++bV own maps)) [(1,r)])[2+2*p]? = some (str (s.take 128))/\(dX (dX sec (bV list data++bV own maps)) [(1,r)])[2+2*p+1]? = some (str (s.drop 128)):=by
 obtain⟨n1,n2,n⟩:=nodup_append.1 f;obtain⟨m1,m2⟩:=DB g m;have hi:=(aO g);have H:∀x∈bV list data++bV _ maps,(x.1=2+2*p->x.2=str (s.take 128))/\(x.1=2+2*p+1->x.2=str (s.drop 128)):=λx hx=>by
  obtain hx|hx:=mem_append.1 hx
  .obtain⟨j,q,t,h1,h2,c⟩:=xP hx;have d:=(aO h1);by_cases e:q=p
   .have b:=pairwise_iff_getElem.1 (nodup_iff_pairwise_ne.1 n2);grind
   grind
  .obtain⟨j,q,t,h1,h2,c⟩:=xP hx;have e:=n q (mem_of_getElem? h1) p (mem_of_getElem? g);grind
 constructor
 .rw[tJ _ _ _ (λx hx=>r_)];exact xC _ _ _ _ o_ ⟨_,mem_append_left _ m1,rfl⟩ λx hx=>(H x hx).1
 .rw[tJ _ _ _ (λx hx=>r_)];exact xC _ _ _ _ v ⟨_,mem_append_left _ m2,rfl⟩ λx hx=>(H x hx).2
def Q6(l:List UInt8){at_ o n:Nat}(g:at_+n<=l.length)(m:o<n) :
 let c:=(di l ((at_+o) / 246)).drop ((at_+o) % 246);(di l ((at_+o) / 246)).length=min 246 (l.length-(at_+o) / 246*246)/\(at_+o) % 246<(di l ((at_+o) / 246)).length/\(l.drop at_).take o++c.take (min c.length (n-o))=(l.drop at_).take (o+min c.length (n-o))/\o+min c.length (n-o)<=n/\0<min c.length (n-o):=by
 intro c;have b:(di l ((at_+o) / 246)).length=min 246 (l.length-(at_+o) / 246*246):=by rw[rK];omega
 have d:=Nat.div_add_mod (at_+o) 246;have hk:(at_+o) % 246<(di l ((at_+o) / 246)).length:=o_
 have f:c.length=(di l ((at_+o) / 246)).length-(at_+o) % 246:=r_
 refine⟨b,hk,?_,o_,o_⟩;rw[take_add];congr 1;have e:c=((l.drop at_).drop o).take c.length:=by
  show((l.drop (246*((at_+o) / 246))).take 246).drop ((at_+o) % 246)=_;rw[f,b,drop_take,drop_drop,drop_drop,d];refine ext_getElem? λj=> ?_;rw[getElem?_take,getElem?_take];by_cases h1:j<246-(at_+o) % 246
  .grind
  .grind
 grind
end Tc
namespace Pg
open List Go.RowKit Base Crc Plain Txt Go.Proofs.Tryz
def Pz(l:List UInt8)(w:World)(h:l.length=256) :
 Calls prog 234 #[.string (str l)] w λe w'=>e = .returned (.agg #[.string (str (l.take 128)),.string (str (l.drop 128))])/\Below w.heap.size w w':=by
 have b:(((str l).size:Int) != 256)=false:=by rw[bne_eq_false_iff_eq];show((l.length:Nat):Int)=256;omega
 have h1:∀W,(Instr.slice 9 (T _) _ (some (I _)) _).run _ W = .ok (T _) W:=qY l 128 128 rfl o_;have h2:∀W,(Instr.slice 9 (T _) (some (I _)) _ _).run _ W = .ok (T _) W:=pC l 128 128 rfl o_;clear h;generalize str (l.take _)=X at*;generalize str (l.drop _)=Y at*;generalize str l=p at*;go_in;go_wp2;go_region
 all_goals
  go_wp2;exact bodyPost_ret (by simp[results,go_sem]) rfl ⟨rfl,(by repeat(first|exact ah _ _|assumption|refine Below.drew ?_|(refine Below.alloc ?_ o_ _)|(refine Below.setCell ?_ o_ _)))⟩
end Pg
end Go.Proofs.YtibjlpkpljnicaaGreatDoor
