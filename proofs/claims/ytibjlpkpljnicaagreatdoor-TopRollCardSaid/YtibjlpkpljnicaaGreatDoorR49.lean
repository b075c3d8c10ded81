/- Parts. -/
import Derived.Test.YtibjlpkpljnicaaGreatDoorR11
import Derived.Deep.RegionLaw
set_option maxRecDepth 100000
set_option maxHeartbeats 8000000
set_option linter.all false
namespace Go.Proofs.YtibjlpkpljnicaaGreatDoor
namespace Ch
open List Go.RowKit Base Crc Go.Proofs.Tryz
def pP:(prog.info? 9).map (λi=>(i.zero,i.size,i.bytes))=some (some (T ByteArray.empty),1,16):=k_
def Fw{next l}(h:l.length<=122)(b:fG next l≠0):fG next l=2:=by
 unfold fG at b⊢;omega
def Kl A0 A1 c0 c1 own d w(h0:own.length<=50)(h1:d.length<=5000)(j3:own.length<=c0)(j1:d.length<=c1)(d3:c1<=maxLen)(hf:∀x∈own,Bi x)(r0:Row w w.heap.size A0 (nums own))(r1:Row w w.heap.size A1 (nums d))(hc:(own.length:Int)=count d.length)(P:Ending->World->Prop)(b1:(∀i,i<own.length->fG (ib own i) (chunk d i)=0)->∀v w',w'.ownsRow w.heap.size 9 1 v own.length ((iv own d own.length).map .string)->E w w'->P (.returned (.tuple #[v,I 0])) w')(e0:∀i,i<own.length->fG (ib own i) (chunk d i)≠0->∀w',E w w'->P (.returned (.tuple #[Z,I 2])) w') :
 Calls prog 172 #[U A0 own.length c0,U A1 d.length c1] w P:=by
 obtain⟨i0,c4,c5,c8,d9⟩:=info_parts pP;have c6:=J b1;have c7:=J e0;have Hf:=J hf;have f6:=J r0;have f0:=J r1;have Hc:=J hc;have hb:(own.length != count _)=false:=o_
 have f5:=J d3;clear b1 e0 hf r0 r1 hc d3;generalize hN:own.length=n at*;have Hn:=J hN;generalize hM:d.length=m at*;have Hm:=J hM;clear hN hM;go_in;go_wp2_with fail;apply(wS m _ o_).mono;rintro e w'⟨rfl,rfl⟩;go_wp2
 go_loopw [1,6,20] (λv1 v6 i wr=>∃(k:Nat)(A:OA)(c:Nat),k<=n/\i = N k/\v1 = U A (m-122*k) c/\m-122*k<=c/\c<=maxLen/\Row w w.heap.size A (nums (d.drop (122*k))) /\
  (∀i,i<k->fG (ib own i) (chunk d i)=0)/\wr.ownsRow w.heap.size 9 1 v6 k ((iv own d k).map .string)/\E w wr) (λ_ _ i _=>n-(intOf i).toNat)
 case atStart=>exact⟨0,A1,_,o_,rfl,s_,o_,f5,by trivial,s_,World.ownsRow_nil _ _ _ _,bR⟩
 .obtain⟨k,A,c,hk,rfl,rfl,h7,d7,b2,d1,b3,d0⟩:=hrel;have b8:=J d1;have a5:=J b3;have r:=J d0;have a6:=J b2;have d8:=J d7;clear d1 b3 d0 b2 d7;by_cases i3:k<n
  .have u:=J (show 122*k<m/\m<=122*n/\122*n<m+122 by
    have h:=Hc.o;unfold count at h
    omega)
   have b0:0<(nums (d.drop (122*k))).length:=by
    rw[lM,length_drop,Hm];have:=u.out;omega
   obtain⟨b,off,hA,k0,f8⟩:=a6.at_ b0;subst hA;clear f8 b0;have d6:Row wr wr.heap.size (some ⟨b,off,none⟩) (nums (chunk d k)):=by
    have h1:=((a6.below r).more r.size).take 122;unfold chunk;rw[<-List.map_take]at h1;omega
   have a4:Row w w.heap.size (some ⟨b,off+122,none⟩) (nums (d.drop (122*(k+1)))):=by
    obtain h|⟨b',a9,h1,h2,h3⟩:=a6
    .left
     have h4:=congrArg length h;rw[lM,length_drop]at h4;simp at h4;simp;omega
    .injection h1 with h1
     injection h1 with e1 e2
     subst e1 e2;refine .inr ⟨b,_,rfl,h2,λi v hv=> ?_⟩;have:=h3 (122+i) v r_;grind
   have a7:=J d6;have b7:=J a4;clear d6 a4;generalize hQ:m-122*k=q at*;have Hq:=J hQ.symm;clear hQ;by_cases f7:k+1<n
   .skip
    have a1:k+1<own.length:=by rw[Hn];omega
    obtain⟨b',a9,f3,i4,b4⟩:=(f6.below r).at_ (by simpa using a1);subst f3;rw[getElem_map]at b4;have F:ib own k=own[k+1]'a1:=by
     unfold ib;rw[gE a1];rfl
    have G:=(Hf _ (gM a1)).1;generalize own[k+1]'a1=z at*;have hq:122<q:=by have:=Hq.o;have:=u.out;omega
    have H:(chunk d k).length=122:=by rw[sV,Hm,<-Hq];omega
    have e6:122<(q:Int):=o_
    have i6:k+1<(n:Int):=o_
    have e9:122<=(q:Int):=o_
    have e5:¬c=122:=o_
    have i7:0<=(k:Int)+1:=o_
    have e7:C _ _ _ (I z):=b4;clear b4;have f:=λ(M:fG (ib own k) (chunk d k)=0) W hr=>rM z (some ⟨b,off,none⟩) c (chunk d k) W G r_ hr
    have g:=λ(M:fG (ib own k) (chunk d k)≠0) W hr=>yv z (some ⟨b,off,none⟩) c _ W G (by rw[H];unfold maxLen;omega) r_ hr
    rw[H]at f g;have O:=J f;have R:=J g;have a2:=J F;have b6:=J H;clear f g F H G;by_cases M:fG (ib own k) (chunk d k)=0
    .have X:=J M;clear M;go_wp2_with fail;apply(O X _ a7).mono;rintro e w2⟨rfl,D⟩;have s:=(Over.under (B:=0) D).own a5 o_;have p:=r.trans (D.mono r.size);clear D;have d2:(0:Int)<=122:=o_
     go_wp2
     go_region_law (apply jq rfl _ _ _ rfl _ 9 _ _ _ underlying23 c4 c5 c8 d9 rfl w2.drew (T _) rfl u6 k _ rfl (s) rfl o_ d_ p.size;intro v' w3 y L)
     all_goals
      have a0:=J (L.below p.drew (s) o_ p.size);have V:=J y;clear L s p y;go_wp2;have f1:=Hq.o;have Y:w3.ownsRow w.heap.size 9 1 v' (k+1) ((iv own d (k+1)).map .string):=by
       rw[C3,map_append];have h9:=V.o;rw[<-a2]at h9;exact h9
      have a3:∀i,i<k+1->fG (ib own i) (chunk d i)=0:=by
       intro i hi;by_cases h:i<k
       .exact b8 i h
       .rw[show i=k by omega];exact X
      refine⟨⟨_,_,_,o_,s_,congrArg (λx=>Value.slice _ x _) o_,o_,aF o_ d8,b7,a3,Y,a0⟩,o_⟩
    .have X:=J M;clear M;go_wp2_with fail;apply(R X _ a7).mono;rintro e w2⟨rfl,D⟩;have b9:fG z _=2:=Fw (by rw[b6];omega) (by rw[<-a2];exact X);rw[b9];go_wp2;exact c7 k o_ X _ (r.trans (D.mono r.size))
   .skip
    have F:ib own k = -1:=by
     unfold ib;rw[getElem?_eq_none (by rw[Hn];omega)];rfl
    have hq:q<=122:=by have:=Hq.o;have:=u.out;omega
    have H:(chunk d k).length=q:=by rw[sV,Hm,<-Hq];omega
    have c9:¬ k+1<(n:Int):=o_
    have e6:¬ 122<(q:Int):=o_
    have G : -9223372036854775808<=(-1):=o_
    have f:=λ(M:fG (ib own k) (chunk d k)=0) W hr=>rM _ (some ⟨b,off,none⟩) c (chunk d k) W G r_ hr
    have g:=λ(M:fG (ib own k) (chunk d k)≠0) W hr=>yv _ (some ⟨b,off,none⟩) c _ W G (by rw[H];unfold maxLen;omega) r_ hr
    rw[H]at f g;have O:=J f;have R:=J g;have a2:=J F;have b6:=J H;clear f g F H G;by_cases M:fG (ib own k) (chunk d k)=0
    .have X:=J M;clear M;go_wp2_with fail;apply(O X _ a7).mono;rintro e w2⟨rfl,D⟩;have s:=(Over.under (B:=0) D).own a5 o_;have p:=r.trans (D.mono r.size);clear D;have d2:(0:Int)<=q:=o_
     go_wp2
     go_region_law (apply jq rfl _ _ _ rfl _ 9 _ _ _ underlying23 c4 c5 c8 d9 rfl w2.drew (T _) rfl u6 k _ rfl (s) rfl o_ d_ p.size;intro v' w3 y L)
     all_goals
      have a0:=J (L.below p.drew (s) o_ p.size);have V:=J y;clear L s p y;go_wp2;have f1:=Hq.o;have Y:w3.ownsRow w.heap.size 9 1 v' (k+1) ((iv own d (k+1)).map .string):=by
       rw[C3,map_append];have h9:=V.o;rw[<-a2]at h9;exact h9
      have a3:∀i,i<k+1->fG (ib own i) (chunk d i)=0:=by
       intro i hi;by_cases h:i<k
       .exact b8 i h
       .rw[show i=k by omega];exact X
      refine⟨⟨_,_,_,o_,s_,congrArg (λx=>Value.slice _ x _) o_,o_,aF o_ d8,by rw[drop_of_length_le (by rw[Hm];omega)];exact Row.nil _ _ _,a3,Y,a0⟩,o_⟩
    .have X:=J M;clear M;go_wp2_with fail;apply(R X _ a7).mono;rintro e w2⟨rfl,D⟩;have b9:fG (-1) _=2:=Fw (by rw[b6];omega) (by rw[<-a2];exact X);rw[b9];go_wp2;exact c7 k o_ X _ (r.trans (D.mono r.size))
  .have c9:¬ k<(n:Int):=o_
   go_wp2;have d4:k=n:=o_
   subst d4;exact c6 b8 _ _ a5 r
end Ch
end Go.Proofs.YtibjlpkpljnicaaGreatDoor
