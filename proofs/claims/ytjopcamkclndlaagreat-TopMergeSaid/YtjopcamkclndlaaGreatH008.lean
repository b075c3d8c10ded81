/- Parts of a proof. -/
import Derived.Test.YtjopcamkclndlaaGreatH007
import Derived.Shelf.Spec.SlicesGrow
import Derived.Shelf.SlSortCmp.WholeK
import Derived.Ground.Names8Prog
import Derived.Ground.SlsfProg
import Derived.Test.YtjopcamkclndlaaGreatProg
import Derived.Laws.IdiomStrings
import Derived.Maps.OwnRows
import Derived.Maps.RangeWalk
set_option linter.unusedVariables false
set_option linter.unusedSimpArgs false
set_option maxRecDepth 100000
set_option maxHeartbeats 8000000
namespace Go.Proofs
open List Go.Shelf
def Tryz.MZ:Go.Shelf.Ren:=⟨fun | 4=>155 | n=>n,fun | 22=>164 | 25=>98 | 3=>3 | 4=>4 | 9=>9 | 20=>20 | 0=>0 | n=>n,fun | n=>n⟩
theorem Tryz.ZE:Go.Proofs.Lays8.n4 Tryz.prog Tryz.MZ:={
 mixed:=by kernel_rfl
 f4:=⟨Tryz.f155.name,by decide,Tryz.func155.trans (congrArg some (by kernel_rfl))⟩
 t0:=Tryz.underlying0
 a0:=Tryz.isAgg0
 z0:=Tryz.sizeOf0
 v0:=Tryz.zeroValue0
 t3:=Tryz.underlying3
 a3:=Tryz.isAgg3
 z3:=Tryz.sizeOf3
 v3:=Tryz.zeroValue3
 t4:=Tryz.underlying4
 a4:=Tryz.isAgg4
 z4:=Tryz.sizeOf4
 v4:=Tryz.zeroValue4
 t9:=Tryz.underlying9
 a9:=Tryz.isAgg9
 z9:=Tryz.sizeOf9
 v9:=Tryz.zeroValue9
 t20:=Tryz.underlying20
 a20:=Tryz.isAgg20
 z20:=Tryz.sizeOf20
 v20:=Tryz.zeroValue20
 t22:=Tryz.underlying164
 a22:=Tryz.isAgg164
 z22:=Tryz.sizeOf164
 v22:=Tryz.zeroValue164 }
def Tryz.a9O:Go.Shelf.Ren:=⟨fun | 6=>119 | 15=>152 | 14=>151 | 28=>179 | 29=>180 | 20=>171 | 21=>172 | 22=>173 | 23=>174 | 24=>175 | 25=>176 | 26=>177 | 27=>178 | 46=>185 | 47=>186 | 48=>187 | 49=>188 | 50=>189 | 57=>191 | n=>n,fun | 22=>165 | 24=>168 | 25=>228 | 3=>3 | 39=>224 | 0=>0 | 53=>296 | 55=>245 | 4=>4 | 46=>290 | 45=>289 | 50=>163 | 5=>5 | 9=>9 | 66=>299 | 70=>303 | 76=>306 | 77=>307 | n=>n,fun | n=>n⟩
theorem Tryz.a9m:Go.Proofs.SlLaysF0.n6 Tryz.prog Tryz.a9O:={
 mixed:=by kernel_rfl
 f6:=⟨Tryz.f119.name,by decide,Tryz.func119.trans (congrArg some (by kernel_rfl))⟩
 f14:=⟨Tryz.f151.name,by decide,Tryz.func151.trans (congrArg some (by kernel_rfl))⟩
 f15:=Tryz.func152.trans (congrArg some (by kernel_rfl))
 f20:=⟨Tryz.f171.name,by decide,Tryz.func171.trans (congrArg some (by kernel_rfl))⟩
 f21:=⟨Tryz.f172.name,by decide,Tryz.func172.trans (congrArg some (by kernel_rfl))⟩
 f22:=⟨Tryz.f173.name,by decide,Tryz.func173.trans (congrArg some (by kernel_rfl))⟩
 f23:=⟨Tryz.f174.name,by decide,Tryz.func174.trans (congrArg some (by kernel_rfl))⟩
 f24:=⟨Tryz.f175.name,by decide,Tryz.func175.trans (congrArg some (by kernel_rfl))⟩
 f25:=⟨Tryz.f176.name,by decide,Tryz.func176.trans (congrArg some (by kernel_rfl))⟩
 f26:=⟨Tryz.f177.name,by decide,Tryz.func177.trans (congrArg some (by kernel_rfl))⟩
 f27:=⟨Tryz.f178.name,by decide,Tryz.func178.trans (congrArg some (by kernel_rfl))⟩
 f28:=Tryz.func179.trans (congrArg some (by kernel_rfl))
 f29:=Tryz.func180.trans (congrArg some (by kernel_rfl))
 f46:=⟨Tryz.f185.name,by decide,Tryz.func185.trans (congrArg some (by kernel_rfl))⟩
 f47:=Tryz.func186.trans (congrArg some (by kernel_rfl))
 f48:=Tryz.func187.trans (congrArg some (by kernel_rfl))
 f49:=⟨Tryz.f188.name,by decide,Tryz.func188.trans (congrArg some (by kernel_rfl))⟩
 f50:=⟨Tryz.f189.name,by decide,Tryz.func189.trans (congrArg some (by kernel_rfl))⟩
 f57:=⟨Tryz.f191.name,by decide,Tryz.func191.trans (congrArg some (by kernel_rfl))⟩
 t0:=Tryz.underlying0
 a0:=Tryz.isAgg0
 z0:=Tryz.sizeOf0
 v0:=Tryz.zeroValue0
 t3:=Tryz.underlying3
 a3:=Tryz.isAgg3
 z3:=Tryz.sizeOf3
 v3:=Tryz.zeroValue3
 t4:=Tryz.underlying4
 a4:=Tryz.isAgg4
 z4:=Tryz.sizeOf4
 v4:=Tryz.zeroValue4
 t5:=Tryz.underlying5
 a5:=Tryz.isAgg5
 z5:=Tryz.sizeOf5
 v5:=Tryz.zeroValue5
 t9:=Tryz.underlying9
 a9:=Tryz.isAgg9
 z9:=Tryz.sizeOf9
 v9:=Tryz.zeroValue9
 t22:=Tryz.underlying165
 a22:=Tryz.isAgg165
 z22:=Tryz.sizeOf165
 v22:=Tryz.zeroValue165
 t25:=Tryz.underlying228
 a25:=Tryz.isAgg228
 z25:=Tryz.sizeOf228
 v25:=Tryz.zeroValue228
 t39:=Tryz.underlying224
 a39:=Tryz.isAgg224
 z39:=Tryz.sizeOf224
 v39:=Tryz.zeroValue224
 t45:=Tryz.underlying289
 a45:=Tryz.isAgg289
 z45:=Tryz.sizeOf289
 v45:=Tryz.zeroValue289
 t46:=Tryz.underlying290
 a46:=Tryz.isAgg290
 z46:=Tryz.sizeOf290
 v46:=Tryz.zeroValue290
 t50:=Tryz.underlying163
 a50:=Tryz.isAgg163
 z50:=Tryz.sizeOf163
 v50:=Tryz.zeroValue163
 t53:=Tryz.underlying296
 a53:=Tryz.isAgg296
 z53:=Tryz.sizeOf296
 v53:=Tryz.zeroValue296
 t55:=Tryz.underlying245
 a55:=Tryz.isAgg245
 z55:=Tryz.sizeOf245
 v55:=Tryz.zeroValue245
 t66:=Tryz.underlying299
 a66:=Tryz.isAgg299
 z66:=Tryz.sizeOf299
 v66:=Tryz.zeroValue299
 t70:=Tryz.underlying303
 a70:=Tryz.isAgg303
 z70:=Tryz.sizeOf303
 v70:=Tryz.zeroValue303
 t76:=Tryz.underlying306
 a76:=Tryz.isAgg306
 z76:=Tryz.sizeOf306
 v76:=Tryz.zeroValue306
 t77:=Tryz.underlying307
 a77:=Tryz.isAgg307
 z77:=Tryz.sizeOf307
 v77:=Tryz.zeroValue307 }
end Go.Proofs
namespace Go.Proofs.YtjopcamkclndlaaGreat.Tc
open List Go.RowKit Base Go.Shelf
def xG (cs:List Cl) (w:World) (e:Ending) (w':World):Prop:=∃v,e = .returned v/\w'.ownsRow w.heap.size 98 12 v cs.length (cs.flatMap bT)/\Below w.heap.size w w'
theorem a9d {w:World} {g cap:Nat} {e:TypeId} (hc:cap<=maxLen) (cs:AV) (hs:cs.size=cap*12) (hg:w.heap[g]? = some (.cells cs e (0,0))) (B:Nat) (hB:B<=g):w.ownsRow B e 12 (.slice (some ⟨g,0,none⟩) 0 cap) 0 [] :=
 ⟨by simp,.inr ⟨g,cap,cs,rfl,hB,hg,aZ _,hc,hs,by simp⟩⟩
theorem a8L {ls:List Ll} {k:Nat} (hk:k<ls.length):(ls.take (k+1)).flatMap Ll.cs=(ls.take k).flatMap Ll.cs++ls[k].cs:=by
 rw [take_succ_eq_append_getElem hk,flatMap_append];simp
theorem R7 (ls:List Ll):(ls.flatMap Ll.cs).length=(ls.map fun l=>l.cs.length).sum:=by
 induction ls with
 | nil=>rfl
 | cons l ls ih=>rw [flatMap_cons,aS,ih,map_cons,sum_cons]
theorem Zs (z:AV) (n:Nat):(Builtin.zeroCells z n).size=n*z.size:=by
 unfold Builtin.zeroCells;simp
theorem abh (s:Nat) (w:World) (hs:s<=1000000):Calls Tryz.prog 155 #[.slice none 0 0,.int .i64 (s:Nat)] w fun e w'=>∃v,e = .returned v/\w'.ownsRow w.heap.size 98 12 v 0 []/\Below w.heap.size w w':=by
 obtain ⟨i0,cG,cI,cH,cJ⟩:=info_parts CU;by_cases h0:s=0
 .subst h0;have h:=Any8.slices_Grow_room Tryz.ZE none 0 0 0 w (ah _) (by omega) (by omega) (by omega);exact h.mono fun e w' ⟨h1,h2⟩=>⟨_,h1,gL _ _ _ _,h2▸aq _ _⟩
 .have h:=Any8.slices_Grow_grow Tryz.ZE i0 _ cG cI (by rw [cH];omega) none 0 0 s [] w (ah _) (by omega) (by rw [cJ];omega) (by omega) (by simp) (fun _=>rfl) (fun a h=>by cases h);refine h.mono fun e w' ⟨h1,h2⟩=>⟨_,h1,?_,?_⟩
  .rw [h2];have kt:=grownCap_ge w (0+s) 0 (Tryz.MZ.t 25);have BP:=grownCap_le_maxLen w (0+s) 0 (Tryz.MZ.t 25) (by unfold maxLen;omega);generalize grownCap w (0+s) 0 (Tryz.MZ.t 25)=G at *;refine a9d BP _ ?_ (heap_alloc_new w.drew _) _ (ah _);rw [Array.size_append,Array.size_append,Zs,Zs];have hz:(Value.agg zC).cells.size=12:=rfl;rw [hz];simp;omega
  .rw [h2];exact (aq _ _).drew.alloc (ah _) _
theorem a8m (A:OA) (c:Nat) (ls:List Ll) (w:World) (hr:Row w w.heap.size A (ls.map fi)) (he:∀l∈ls,Row w w.heap.size l.A (l.cs.flatMap bT)) (hn:ls.length<=4) (hl:∀l∈ls,l.cs.length<=1000) :
 Calls Tryz.prog 124 #[.slice A ls.length c] w (xG (ls.flatMap Ll.cs) w):=by
 obtain ⟨i0,cG,cI,cH,cJ⟩:=info_parts CU;have Hr:=kp hr;have He:=kp he;have Hl:=kp hl;have ug:=kp (count_le hl);have HQ:=kp (show ∀v w',w'.ownsRow w.heap.size 98 12 v (ls.flatMap Ll.cs).length ((ls.flatMap Ll.cs).flatMap bT)->Below w.heap.size w w'->xG (ls.flatMap Ll.cs) w (.returned v) w' from fun v w' h1 h2=>⟨v,rfl,h1,h2⟩);clear hr he hl;generalize hQ:xG (ls.flatMap Ll.cs) w=Q at *;clear hQ;obtain ⟨lx,dr⟩:∃lx,ls.length=lx:=⟨_,rfl⟩
 have ml:=kp dr;rw [dr] at hn ⊢;clear dr;go_enter Tryz.func124,Tryz.ntmps124;go_wp2_with fail
 go_loop [3,11] (fun v3 pr=>∃ (k s:Nat),k<=lx/\pr = .int .i64 k/\v3 = .int .i64 s/\s=((ls.take k).map fun l=>l.cs.length).sum) (fun _ pr=>lx-(intOf pr).toNat)
 case atStart=>exact ⟨0,0,aZ _,rfl,rfl,by simp⟩
 case round =>
  obtain ⟨k,s,hk,rfl,rfl,hs⟩:=hrel;have Hs:=kp hs;clear hs;by_cases ae:k<lx
  .have aA:k<ls.length:=by rw [ml.o];exact ae
   obtain ⟨b,off,hA,hb,c0⟩:=Row.at_ Hr.o (k:=k) (by rw [lM];exact aA);rw [getElem_map] at c0;have dw:=kp (Zi aA);have qb:s<=5000:=by have h1:=ug.o k;have h2:=Hs.o;omega
   have gY:(ls[k]'aA).cs.length<=5000:=by have h1:=ug.o (k+1);have h2:=dw.o;omega
   unfold fi at c0;generalize (ls[k]'aA).cs.length=q at *;generalize (ls[k]'aA).A=lA at *;generalize (ls[k]'aA).c=lc at *;have dz:(0:Int)<=(k:Int):=by omega
   have df:(k:Int)<(lx:Int):=by omega
   have mY:¬ ((s:Int)+(q:Int))<0:=by omega
   have aeP:decide (((s:Int)+(q:Int))<0)=false:=decide_eq_false mY;subst hA;go_wp2_with fail;exact ⟨⟨k+1,s+q,by omega,by go_num,by go_num,by rw [dw.o,Hs.o]⟩,by simp [intOf];omega⟩
  .obtain rfl:k=lx:=by omega
   have Th:s<=5000:=by have h1:=ug.o k;have h2:=Hs.o;omega
   have HG:=kp (abh s w (by omega));go_wp2_with fail;refine HG.o.mono ?_;rintro e w1 ⟨v1,rfl,j8,ax⟩;obtain ⟨A1,c1,rfl⟩:=eM j8;have fI:=kp j8;have aM:=kp ax;clear j8 ax;go_wp2_with fail
   go_loopw [6,27] (fun v6 DO wr=>∃ (j:Nat) (A2:OA) (c2:Nat),j<=k/\DO = .int .i64 j/\v6 = .slice A2 ((ls.take j).flatMap Ll.cs).length c2/\wr.ownsRow w.heap.size 98 12 (.slice A2 ((ls.take j).flatMap Ll.cs).length c2) ((ls.take j).flatMap Ll.cs).length (((ls.take j).flatMap Ll.cs).flatMap bT)/\Below w.heap.size w wr) (fun _ DO _=>k-(intOf DO).toNat)
   case atStart=>exact ⟨0,A1,c1,aZ _,rfl,rfl,fI.o,aM.o⟩
   case round =>
    obtain ⟨j,A2,c2,hj,rfl,rfl,gz,mb⟩:=hrel;have fK:=kp gz;have ec:=kp mb;clear gz mb;by_cases lu:j<k
    .have ra:j<ls.length:=by rw [ml.o];exact lu
     obtain ⟨b,off,hA,hb,c0⟩:=Row.at_ ((Hr.o.below ec.o).more ec.o.size) (k:=j) (by rw [lM];exact ra);rw [getElem_map] at c0;have dw:=kp (a8L ra);have sg:=kp (((He.o _ (gM ra)).below ec.o));have uf:((ls.take j).flatMap Ll.cs).length<=5000:=by have h1:=ug.o j;rw [R7];omega
     have sQ:(ls[j]'ra).cs.length<=1000:=Hl.o _ (gM ra);have G4:=kp (kI yM (ls[j]'ra).cs);have Kl:=kp (PC (ls[j]'ra).cs);unfold fi at c0;generalize cE:(ls[j]'ra).cs=cs at *;clear cE;generalize (ls[j]'ra).A=lA at *;generalize (ls[j]'ra).c=lc at *;generalize Ti:(ls.take j).flatMap Ll.cs=pre at *;clear Ti;obtain ⟨q,hq⟩:∃q,cs.length=q:=⟨_,rfl⟩
     have Hq:=kp hq;rw [hq] at c0 sQ G4;clear hq;obtain ⟨r,hr⟩:∃r,pre.length=r:=⟨_,rfl⟩
     have Hrr:=kp hr;rw [hr] at uf fK ⊢;clear hr;have dz:(0:Int)<=(j:Int):=by omega
     have df:(j:Int)<(k:Int):=by omega
     have hrq:r+q<1048576*64:=by omega
     have o9:=kp ec.o.size;subst hA
     go_wp2_with (at_builtin;refine Rk rfl (.tmp 31) (.tmp 32) 164 rfl w.heap.size 98 i0 _ 12 96 Tryz.underlying164 cG cI cH cJ rfl (by decide) wr (.slice A2 r c2) r (pre.flatMap bT) rfl fK.o lA q lc w.heap.size (cs.flatMap bT) rfl G4.o sg.o Kl.o hrq (by decide) o9.o ?_;intro v5 w5 aY bV;obtain ⟨A5,c5,h5⟩:=eM aY;subst h5;have cP:=kp aY;have bZ:=kp (bV.mO ec.o fK.o (ah _) o9.o);clear aY bV)
     refine ⟨⟨j+1,A5,c5,by omega,by go_num,?_,?_,bZ.o⟩,by simp [intOf];omega⟩
     .rw [dw.o,aS,Hrr.o,Hq.o]
     .rw [dw.o,aS,Hrr.o,Hq.o,flatMap_append];exact cP.o
    .obtain rfl:j=k:=by omega
     have Hf:=kp (HQ.o _ _ (by have:=fK.o;rw [take_of_length_le (by rw [ml.o];exact ah _)] at this;exact this) ec.o);rw [take_of_length_le (show ls.length<=j by rw [ml.o];exact ah _)];go_wp2_with fail;exact Hf.o
theorem J3 (n:Nd) (w:World) (hr:dp w w.heap.size n) (hn:n.ls.length<=4) (hl:∀l∈n.ls,l.cs.length<=1000) :
 Calls Tryz.prog 81 #[.agg (bG n)] w (xG (n.ls.flatMap Ll.cs++[n.all]) w):=by
 obtain ⟨aj,nA,ls,nc,x⟩:=n;obtain ⟨i0,cG,cI,cH,cJ⟩:=info_parts CU;dsimp only [bG];dsimp only at hn hl;have au:=(aq w.heap.size w).alloc (ah _) (.cells (bG ⟨aj,nA,ls,nc,x⟩) 100);have cQ:=kp (aa.new w 100 (bG ⟨aj,nA,ls,nc,x⟩));have D4:=(hr.below au).more au.size;have lz:=kp (show (ls.flatMap Ll.cs).length<=5000 by have h1:=count_le hl ls.length;rw [take_of_length_le (ah _)] at h1;rw [R7];omega);have HC:=kp (a8m nA nc ls (w.alloc (.cells (bG ⟨aj,nA,ls,nc,x⟩) 100)) D4.row D4.each hn hl);have ay:=kp au;have HQ:=kp (show ∀v w',w'.ownsRow w.heap.size 98 12 v ((ls.flatMap Ll.cs).length+1) ((ls.flatMap Ll.cs).flatMap bT++(bQ x).toList)->Below w.heap.size w w'->xG (ls.flatMap Ll.cs++[x]) w (.returned v) w' from fun v w' h1 h2=>⟨v,rfl,by rw [aS,flatMap_append];exact h1,h2⟩);clear hr hl D4 au;generalize hQ:xG (ls.flatMap Ll.cs++[x]) w=Q at *;clear hQ;generalize Ti:ls.flatMap Ll.cs=pre at *;clear Ti;obtain ⟨lx,dr⟩:∃lx,ls.length=lx:=⟨_,rfl⟩
 dsimp only [bG] at cQ HC ay;rw [dr] at hn cQ HC ay ⊢;clear dr;have dD:=(aa.cw cQ.o).1;go_enter Tryz.func81,Tryz.ntmps81;go_wp2_with fail;refine HC.o.mono ?_;rintro e w1 ⟨v1,rfl,j8,ax⟩;obtain ⟨A1,c1,rfl⟩:=eM j8;have aM:=aR ay ax;have fI:=kp (nX j8 ay.o.size);have bL:=bu cQ ax;clear j8 ax dD HC cQ ay;have dD:=(aa.cw bL.o).1;have Tj:=lz.o;obtain ⟨r,hr⟩:∃r,pre.length=r:=⟨_,rfl⟩
 rw [hr] at Tj fI HQ ⊢;clear hr;have cz:r+1<1048576*64:=by omega
 have iV:=kp aM.o.size
 go_wp2_with (at_builtin;refine vG rfl (.tmp 7) (.tmp 10) 164 rfl w.heap.size 98 i0 _ 12 96 Tryz.underlying164 cG cI cH cJ rfl (by decide) w1 (bQ x) rfl (M3 x) (.slice A1 r c1) r (pre.flatMap bT) rfl fI.o rfl cz (by decide) iV.o ?_;intro v5 w5 aY bV;obtain ⟨A5,c5,h5⟩:=eM aY;subst h5;have cP:=kp aY;have bZ:=kp (bV.mO aM.o fI.o (ah _) iV.o);clear aY bV)
 exact HQ.o _ _ cP.o bZ.o
end Go.Proofs.YtjopcamkclndlaaGreat.Tc
namespace Go.Proofs.YtjopcamkclndlaaGreat.Tc
open List Go.RowKit Base
theorem a9v (x:Cl) (k:Nat) (w:World):Calls Tryz.prog 164 #[.agg (bQ x),.int .i64 (k:Nat)] w fun e w'=>e = .returned (.int .i64 (iO x.key k))/\Below w.heap.size w w':=by
 have au:=(aq w.heap.size w).alloc (ah _) (.cells (bQ x) 98);have HB:=kp (aa.new w 98 (bQ x));have ay:=kp au;have HC:=kp (fun w=>Q9 x.key k w);clear au;generalize iO x.key k=V at *;obtain ⟨d0,_⟩:=(aa.fQ HB.o).1;go_enter Tryz.func164,Tryz.ntmps164;go_wp2_with fail;refine (HC.o _).mono ?_;rintro e w1 ⟨rfl,rfl⟩;go_wp2_with fail;go_ret;exact ⟨rfl,ay.o⟩
theorem Yb {a b:Nat}:(iO a b<0)↔a<b:=by
 unfold iO;by_cases h1:a<b
 .simp [h1]
 .by_cases h2:b<a<;>simp [h1,h2]
theorem a6U {a b:Nat}:(iO a b=0)↔a=b:=by
 unfold iO;by_cases h1:a<b
 .simp [h1];omega
 .by_cases h2:b<a
  .simp [h1,h2];omega
  .simp [h1,h2];omega
def Qq (l:List Cl) (k:Nat) (w:World) (e:Ending) (w':World):Prop:=∃ (i:Nat) (f:Bool),e = .returned (.tuple #[.int .i64 (i:Nat),.bool f])/\i<=l.length/\(∀j (h:j<l.length),j<i->l[j].key<k)/\(∀j (h:j<l.length),i<=j->k<=l[j].key)/\(f=true↔∃h:i<l.length,l[i].key=k)/\Below w.heap.size w w'
theorem Qb {l:List Cl} (h:∀i (h:i+1<l.length),l[i].key<l[i+1].key) {i j:Nat} (hij:i<j) (hj:j<l.length):(l[i]'(by omega)).key<l[j].key:=by
 induction j with
 | zero=>omega
 | succ j ih =>
  by_cases e:i=j
  .subst e;exact h i hj
  .have h1:=ih (by omega) (by omega);have h2:=h j hj;omega
theorem a8r (A:OA) (l:List Cl) (c k:Nat) (w:World) (hr:Row w w.heap.size A (l.flatMap bT)) (hn:l.length<=1000000) (hi:∀i (h:i+1<l.length),l[i].key<l[i+1].key) :
 Calls Tryz.prog 163 #[.slice A l.length c,.int .i64 (k:Nat),.func (.func 164) #[] #[]] w (Qq l k w):=by
 have HC:=kp a9v;have Hr:=kp hr;have Hi:=kp (fun i j (hij:i<j) (hj:j<l.length)=>Qb hi hij hj);have HQ:=kp (show ∀ (i:Nat) (f:Bool) w',i<=l.length->(∀j (h:j<l.length),j<i->l[j].key<k)->(∀j (h:j<l.length),i<=j->k<=l[j].key)->(f=true↔∃h:i<l.length,l[i].key=k)->Below w.heap.size w w'->Qq l k w (.returned (.tuple #[.int .i64 (i:Nat),.bool f])) w' from fun i f w' h1 h2 h3 h4 h5=>⟨i,f,rfl,h1,h2,h3,h4,h5⟩);clear hr hi;generalize hQ:Qq l k w=Q at *;clear hQ;obtain ⟨n,hN⟩:∃n,l.length=n:=⟨_,rfl⟩
 have Hn:=kp hN;rw [hN] at hn ⊢;clear hN;go_enter Tryz.func163,Tryz.ntmps163;go_wp2_with fail
 go_loopw [9,10] (fun s9 Kn wr=>∃lo hi:Nat,s9 = .int .i64 lo/\Kn = .int .i64 hi/\lo<=hi/\hi<=n/\(∀j (h:j<l.length),j<lo->l[j].key<k)/\(∀j (h:j<l.length),hi<=j->k<=l[j].key)/\Below w.heap.size w wr) (fun s9 Kn _=>(intOf Kn).toNat-(intOf s9).toNat)
 case atStart=>exact ⟨0,n,rfl,rfl,aZ _,ah _,fun j h h'=>by omega,fun j h h'=>by have:=Hn.o;omega,aq _ _⟩
 case round =>
  obtain ⟨lo,hi,rfl,rfl,h1,h2,h3,h4,aC⟩:=hrel;have ai:=kp aC;have H3:=kp h3;have H4:=kp h4;clear aC h3 h4;by_cases ae:lo<hi
  .have nh:(lo+hi) / 2<l.length:=by rw [Hn.o];omega
   obtain ⟨b,off,hA,hb,c0,c1,c2,c3,c4,c5,c6,c7,c8,c9,iw,rb⟩:=rO ((Hr.o.below ai.o).more ai.o.size) ((lo+hi) / 2) nh;subst hA;have Tk:=kp (fun w=>HC.o (l[(lo+hi) / 2]'nh) k w);have HV:=kp (show (iO (l[(lo+hi) / 2]'nh).key k<0)↔(l[(lo+hi) / 2]'nh).key<k from Yb)
   have Hx:=kp (show ∀j (h:j<l.length),j<=(lo+hi) / 2->l[j].key<=(l[(lo+hi) / 2]'nh).key from fun j h hj=>by
    by_cases e:j=(lo+hi) / 2
    .subst e;exact ah _
    .exact Nat.le_of_lt (Hi.o j _ (by omega) nh))
   have Hy:=kp (show ∀j (h:j<l.length),(lo+hi) / 2<=j->(l[(lo+hi) / 2]'nh).key<=l[j].key from fun j h hj=>by
    by_cases e:(lo+hi) / 2=j
    .subst e;exact ah _
    .exact Nat.le_of_lt (Hi.o _ j (by omega) h))
   generalize (l[(lo+hi) / 2]'nh)=y at *;generalize iO y.key k=V at *;have zf:(0:Int)<=((lo:Int)+(hi:Int)) / 2:=by omega
   have dg:((lo:Int)+(hi:Int)) / 2<(n:Int):=by omega
   go_upto_region 5 with fail
   go_wp2_with fail;refine (Tk.o _).mono ?_;rintro e w1 ⟨rfl,ax⟩;have aM:=aR ai ax;clear ax c0 c1 c2 c3 c4 c5 c6 c7 c8 c9 iw rb;by_cases hv:V<0
   .have hvd:decide (V<0)=true:=decide_eq_true hv;have lC:=HV.o.1 hv;go_wp2_with fail;refine ⟨⟨(lo+hi) / 2+1,hi,by go_num,rfl,by omega,by omega,fun j h hj => ?_,H4.o,aM.o⟩,by simp [intOf];omega⟩;have:=Hx.o j h (by omega);omega
   .have hvd:decide (V<0)=false:=decide_eq_false hv;have lC:¬y.key<k:=fun h=>hv (HV.o.2 h)
    go_wp2_with fail;refine ⟨⟨lo,(lo+hi) / 2,rfl,by go_num,by omega,by omega,H3.o,fun j h hj => ?_,aM.o⟩,by simp [intOf];omega⟩;have:=Hy.o j h hj;omega
  .obtain rfl:lo=hi:=by omega
   by_cases um:lo<n
   .have nh:lo<l.length:=by rw [Hn.o];exact um
    obtain ⟨b,off,hA,hb,c0,c1,c2,c3,c4,c5,c6,c7,c8,c9,iw,rb⟩:=rO ((Hr.o.below ai.o).more ai.o.size) lo nh;subst hA;have Tk:=kp (fun w=>HC.o (l[lo]'nh) k w);have HQk:=kp (fun f w' (hf:f=decide (iO (l[lo]'nh).key k=0)) hb=>HQ.o lo f w' (by rw [Hn.o];exact h2) H3.o H4.o (by rw [hf,decide_eq_true_eq,a6U];exact ⟨fun h=>⟨nh,h⟩,fun ⟨_,h⟩=>h⟩) hb);generalize (l[lo]'nh)=y at *;generalize iO y.key k=V at *;have zf:(0:Int)<=(lo:Int):=by omega
    have dg:(lo:Int)<(n:Int):=by omega
    have qR:decide ((lo:Int)<(n:Int))=true:=decide_eq_true dg;have HVb:=kp (show (V == 0)=decide (V=0) from by rw [Bool.eq_iff_iff];simp);go_wp2_with fail;refine (Tk.o _).mono ?_;rintro e w1 ⟨rfl,ax⟩;have Hf:=kp (HQk.o (V == 0) _ HVb.o (ai.o.trans (ax.mono ai.o.size)));clear ax c0 c1 c2 c3 c4 c5 c6 c7 c8 c9 iw rb;go_wp2_with fail;exact Hf.o
   .obtain rfl:lo=n:=by omega
    have dg:¬ (lo:Int)<(lo:Int):=by omega
    have Hf:=kp (HQ.o lo false _ (by rw [Hn.o];exact ah _) H3.o H4.o ⟨(fun h=>by cases h),(fun ⟨h,_⟩=>by rw [Hn.o] at h;omega)⟩ ai.o);go_wp2_with fail;exact Hf.o
def CY (o:Option Cl) (w:World) (e:Ending) (w':World):Prop:=e = .returned (.tuple #[.agg (bQ (o.getD cO)),.bool o.isSome])/\Below w.heap.size w w'
def cellAt (l:List Cl) (k:Nat):Option Cl:=l.find? fun c=>c.key == k
theorem Zv {l:List Cl} (hi:∀i (h:i+1<l.length),l[i].key<l[i+1].key) {i:Nat} (h:i<l.length):cellAt l l[i].key=some l[i]:=by
 unfold cellAt;rw [find?_eq_some_iff_append];refine ⟨by simp,l.take i,l.drop (i+1),?_,?_⟩
 .rw [<-drop_eq_getElem_cons h,take_append_drop]
 .intro a ha;obtain ⟨j,hj,rfl⟩:=getElem_of_mem ha;rw [length_take] at hj;rw [getElem_take];have:=Qb hi (show j<i by omega) h;simp;omega
theorem a0R {l:List Cl} {k:Nat} (h:∀i (h:i<l.length),l[i].key≠k):cellAt l k=none:=by
 unfold cellAt;rw [find?_eq_none];intro c hc;obtain ⟨i,hi,rfl⟩:=getElem_of_mem hc;simpa using h i hi
theorem a5y (n:Nd) (t k:Int) (w:World) (ej:1<=n.ls.length) (hn:n.ls.length<=4) (ht:t<0) :
 Calls Tryz.prog 140 #[.agg (bG n),.agg #[.int .i64 t,.int .i64 k]] w (CY (some n.all) w):=by
 obtain ⟨aj,nA,ls,nc,key,child,ac,s0,n0,x0,s1,n1,x1,s2,n2,x2⟩:=n;have HQ:=kp (show ∀w',Below w.heap.size w w'->CY (some ⟨key,child,ac,s0,n0,x0,s1,n1,x1,s2,n2,x2⟩) w (.returned (.tuple #[.agg #[.int .i64 (key:Nat),.int .i64 (child:Nat),.int .i64 ac,.int .i64 s0,.int .i64 n0,.int .i64 x0,.int .i64 s1,.int .i64 n1,.int .i64 x1,.int .i64 s2,.int .i64 n2,.int .i64 x2],.bool true])) w' from fun w' h=>⟨rfl,h⟩);dsimp only at ej hn;dsimp only [bG];generalize hQ:CY (some ⟨key,child,ac,s0,n0,x0,s1,n1,x1,s2,n2,x2⟩) w=Q at *;clear hQ;obtain ⟨lx,dr⟩:∃lx,ls.length=lx:=⟨_,rfl⟩
 rw [dr] at ej hn ⊢;clear dr;have q1:((lx:Int) == 0)=false:=by simp;omega
 have q2:¬ (lx:Int)<=t:=by omega
 have kz:decide ((lx:Int)<=t)=false:=decide_eq_false q2;have zG:decide (t<0)=true:=decide_eq_true ht;go_enter Tryz.func140,Tryz.ntmps140;go_wp2_with fail;refine bodyPost_ret (v := .tuple #[.agg #[.int .i64 (key:Nat),.int .i64 (child:Nat),.int .i64 ac,.int .i64 s0,.int .i64 n0,.int .i64 x0,.int .i64 s1,.int .i64 n1,.int .i64 x1,.int .i64 s2,.int .i64 n2,.int .i64 x2],.bool true]) (by simp [results,Tryz.results140,go_sem]) rfl (HQ.o _ ((((aq _ w).alloc (ah _) _).alloc (by simp) _).alloc (by simp;omega) _))
theorem abr (n:Nd) (t k:Nat) (L:Ll) (w:World) (hr:dp w w.heap.size n) (hn:n.ls.length<=4) (hL:n.ls[t]? = some L) (hl:L.cs.length<=1000000) (hi:∀i (h:i+1<L.cs.length),L.cs[i].key<L.cs[i+1].key) :
 Calls Tryz.prog 140 #[.agg (bG n),.agg #[.int .i64 (t:Nat),.int .i64 (k:Nat)]] w (CY (cellAt L.cs k) w):=by
 obtain ⟨aj,nA,ls,nc,key,child,ac,s0,n0,x0,s1,n1,x1,s2,n2,x2⟩:=n;dsimp only at hn hL;obtain ⟨ht,hLe⟩:=bS hL;dsimp only [bG];obtain ⟨bl,ol,hA,zl,l0⟩:=Row.at_ hr.row (k:=t) (by rw [lM];exact ht);rw [getElem_map] at l0;dsimp only at hA;subst hA;have fg:=hr.each _ (gM ht);unfold fi at l0;dsimp only at l0 fg;rw [hLe] at l0 fg;clear hLe hL;obtain ⟨lA,cs,lc⟩:=L;dsimp only at hl hi l0 fg ⊢;have HB:=kp (fun w h=>a8r lA cs lc k w h hl hi);have HN:=kp (fun h=>a0R (l:=cs) (k:=k) h);have HS:=kp (fun i (h:i<cs.length)=>Zv hi h);have Hi:=kp hi;clear hi;have HQ:=kp (show ∀ (o:Option Cl) w',cellAt cs k=o->Below w.heap.size w w'->CY (cellAt cs k) w (.returned (.tuple #[.agg (bQ (o.getD cO)),.bool o.isSome])) w' from fun o w' h1 h=>by subst h1;exact ⟨rfl,h⟩);generalize hQ:CY (cellAt cs k) w=Q at *;clear hQ;obtain ⟨lx,dr⟩:∃lx,ls.length=lx:=⟨_,rfl⟩
 rw [dr] at hn ht ⊢;clear dr;obtain ⟨m,hm⟩:∃m,cs.length=m:=⟨_,rfl⟩
 have Hm:=kp hm;rw [hm] at hl l0 HB;clear hm;have au:=(((aq _ w).alloc (ah w.heap.size) (.cells #[.int .i64 (aj:Nat),.slice (some ⟨bl,ol,none⟩) lx nc,.int .i64 (key:Nat),.int .i64 (child:Nat),.int .i64 ac,.int .i64 s0,.int .i64 n0,.int .i64 x0,.int .i64 s1,.int .i64 n1,.int .i64 x1,.int .i64 s2,.int .i64 n2,.int .i64 x2] 100)).alloc (by simp) (.cells #[.int .i64 (t:Nat),.int .i64 (k:Nat)] 69))
 have iW:=kp ((aa.new w 100 #[.int .i64 (aj:Nat),.slice (some ⟨bl,ol,none⟩) lx nc,.int .i64 (key:Nat),.int .i64 (child:Nat),.int .i64 ac,.int .i64 s0,.int .i64 n0,.int .i64 x0,.int .i64 s1,.int .i64 n1,.int .i64 x1,.int .i64 s2,.int .i64 n2,.int .i64 x2]).alloc (.cells #[.int .i64 (t:Nat),.int .i64 (k:Nat)] 69));have re:=kp (aa.lay (w:=w.alloc (.cells #[.int .i64 (aj:Nat),.slice (some ⟨bl,ol,none⟩) lx nc,.int .i64 (key:Nat),.int .i64 (child:Nat),.int .i64 ac,.int .i64 s0,.int .i64 n0,.int .i64 x0,.int .i64 s1,.int .i64 n1,.int .i64 x1,.int .i64 s2,.int .i64 n2,.int .i64 x2] 100)) (g:=w.heap.size+1) (t:=69) (cs:=#[.int .i64 (t:Nat),.int .i64 (k:Nat)]) (by simp));generalize dj:(w.alloc (.cells #[.int .i64 (aj:Nat),.slice (some ⟨bl,ol,none⟩) lx nc,.int .i64 (key:Nat),.int .i64 (child:Nat),.int .i64 ac,.int .i64 s0,.int .i64 n0,.int .i64 x0,.int .i64 s1,.int .i64 n1,.int .i64 x1,.int .i64 s2,.int .i64 n2,.int .i64 x2] 100)).alloc (.cells #[.int .i64 (t:Nat),.int .i64 (k:Nat)] 69)=W0 at *;have mY:W0.heap.size=w.heap.size+1+1:=by rw [<-dj];simp
 have ax:=au.alloc (show w.heap.size<=W0.heap.size by omega) (.cells zC 98);have yj:=kp (iW.o.alloc (.cells zC 98));have acC:=kp (re.o.alloc (.cells zC 98));have Gd:=kp (aa.lay (w:=W0) (t:=98) (cs:=zC) mY);generalize dk:W0.alloc (.cells zC 98)=W1 at *;have a2g:=kp (((fg.below ax).more ax.size));have l1:=aL (ax.mono (ah _)) l0;have aM:=kp ax;clear ax au hr fg l0 iW re;have dD:=(aa.cw yj.o).1;obtain ⟨p0,p1,_,_⟩:=acC.o.two;have q1:((lx:Int) == 0)=false:=by simp;omega
 have q2:¬ (lx:Int)<=(t:Int):=by omega
 have kz:decide ((lx:Int)<=(t:Int))=false:=decide_eq_false q2;have zH:decide (lx<=t)=false:=decide_eq_false (by omega);have q3:¬ (t:Int)<0:=by omega
 have zG:decide ((t:Int)<0)=false:=decide_eq_false q3;have q4:(0:Int)<=(t:Int):=by omega
 have q5:(t:Int)<(lx:Int):=by omega
 have Dr:=kp (HB.o W1 a2g.o);go_enter Tryz.func140,Tryz.ntmps140;go_wp2_with fail;refine Dr.o.mono ?_;rintro e w2 ⟨i,f,rfl,df,jd,tY,va,aH⟩;have aF:=aR aM aH;have vd:=bu Gd aH;have DN:=kp ((a2g.o.below aH).more aH.size);have H4:=kp va;have H2:=kp jd;have H3:=kp tY;clear aH df jd tY va dD p0 p1 l1 q1 q2 kz zH q3 zG q4 q5 dj dk mY;obtain ⟨⟨r0,r1,r2,r3,r4,r5,r6,r7,r8,r9,kB,kC⟩,fD⟩:=aa.fQ vd.o;rcases f with _ | _
 .have kn:=kp (HN.o (fun j hj hk=>by
   rcases Nat.lt_or_ge j i with h | h
   .have:=H2.o j hj h;omega
   .by_cases e:i=j
    .subst e;have:=H4.o.2 ⟨hj,hk⟩;cases this
    .have h1:=H3.o i (by omega) (ah _);have h2:=Qb Hi.o (show i<j by omega) hj
     omega))
  obtain ⟨Wf,bW⟩:∃Wf,aK w2 (w.heap.size+1+1) 0 [.int .i64 0,.int .i64 0,.int .i64 0,.int .i64 0,.int .i64 0,.int .i64 0,.int .i64 0,.int .i64 0,.int .i64 0,.int .i64 0,.int .i64 0,.int .i64 0]=Wf:=⟨_,rfl⟩
  have qx:=kp (show Below w.heap.size w Wf by rw [<-bW];exact eU (by omega) _ _ _ aF.o);have dW:=kp (show aa Wf (w.heap.size+1+1) 98 zC by rw [<-bW];exact eO vd.o _ rfl);simp only [aK,Nat.zero_add,Nat.reduceAdd] at bW;have HF:=kp (HQ.o none Wf kn.o qx.o);go_wp2_with fail;clear r0 r1 r2 r3 r4 r5 r6 r7 r8 r9 kB kC;obtain ⟨r0,r1,r2,r3,r4,r5,r6,r7,r8,r9,kB,kC⟩:=(aa.fQ dW.o).1;refine bodyPost_ret (v := .tuple #[.agg (bQ ((none:Option Cl).getD cO)),.bool (none:Option Cl).isSome]) (by simp [results,Tryz.results140,go_sem,cO,aO,r0,r1,r2,r3,r4,r5,r6,r7,r8,r9,kB,kC]) rfl HF.o
 .obtain ⟨D3,oR⟩:=H4.o.1 rfl;have No:=kp (show cellAt cs k=some (cs[i]'D3) by rw [<-oR];exact HS.o i D3);have lv:i<m:=by rw [<-Hm.o];exact D3
  obtain ⟨b,off,hA,hb,c0,c1,c2,c3,c4,c5,c6,c7,c8,c9,iw,rb⟩:=rO DN.o i D3;subst hA;clear oR;generalize (cs[i]'D3)=x at *;obtain ⟨Wf,bW⟩:∃Wf,aK w2 (w.heap.size+1+1) 0 (bT x)=Wf:=⟨_,rfl⟩
  have qx:=kp (show Below w.heap.size w Wf by rw [<-bW];exact eU (by omega) _ _ _ aF.o);have dW:=kp (show aa Wf (w.heap.size+1+1) 98 (bQ x) by rw [<-bW];exact eO vd.o _ rfl);simp only [aK,Nat.zero_add,Nat.reduceAdd] at bW;have HF:=kp (HQ.o (some x) Wf No.o qx.o);have q4:(0:Int)<=(i:Int):=by omega
  have q5:(i:Int)<(m:Int):=by omega
  go_wp2_with fail;clear r0 r1 r2 r3 r4 r5 r6 r7 r8 r9 kB kC;obtain ⟨r0,r1,r2,r3,r4,r5,r6,r7,r8,r9,kB,kC⟩:=(aa.fQ dW.o).1;refine bodyPost_ret (v := .tuple #[.agg (bQ ((some x:Option Cl).getD cO)),.bool (some x:Option Cl).isSome]) (by simp [results,Tryz.results140,go_sem,r0,r1,r2,r3,r4,r5,r6,r7,r8,r9,kB,kC]) rfl HF.o
theorem a86:(Tryz.prog.info? 5).map (fun i=>(i.zero,i.size,i.bytes))=some (some (.int .u8 0),1,1):=by kernel_rfl
def mW (at_:Nat) (part:LN):List UInt8:=UInt8.ofNat at_::part.flatMap fun i=>[UInt8.ofNat (i / 256),UInt8.ofNat i]
def AZ (l:List UInt8):LV:=l.map fun b => .int .u8 (b.toNat:Int)
theorem a9e {at_:Nat} {part:LN} {k:Nat} (hk:k<part.length):mW at_ (part.take (k+1))=mW at_ (part.take k)++[UInt8.ofNat (part[k] / 256),UInt8.ofNat part[k]]:=by
 unfold mW;rw [take_succ_eq_append_getElem hk,flatMap_append];simp
theorem XF (at_:Nat) (part:LN):(mW at_ part).length=1+part.length*2:=by
 unfold mW;rw [length_cons];have:(part.flatMap fun i=>[UInt8.ofNat (i / 256),UInt8.ofNat i]).length=part.length*2:=by
  induction part with
  | nil=>rfl
  | cons a l ih=>rw [flatMap_cons,aS,ih];simp only [length_cons,length_nil];omega
 omega
theorem Qc (i:Nat):(((UInt8.ofNat i).toNat:Nat):Int)=(i:Int) % 256:=by
 have h:(UInt8.ofNat i).toNat=i % 256:=by simp
 rw [h];omega
theorem a7O (l:List UInt8) (i j:Nat):AZ (l++[UInt8.ofNat i,UInt8.ofNat j])=AZ l++[.int .u8 ((i:Int) % 256),.int .u8 ((j:Int) % 256)]:=by
 unfold AZ;rw [map_append,map_cons,map_cons,map_nil,Qc,Qc]
theorem aaG (i:Nat):AZ [UInt8.ofNat i]=[.int .u8 ((i:Int) % 256)]:=by
 unfold AZ;rw [map_cons,map_nil,Qc]
theorem aan (A:OA) (c at_:Nat) (part:LN) (w:World) (hr:Row w w.heap.size A (aP part)) (hn:part.length<=100000) (br:at_<=1000000) (hp:∀i∈part,i<=1000000) :
 Calls Tryz.prog 75 #[.int .i64 (at_:Nat),.slice A part.length c] w fun e w'=>e = .returned (.string ⟨(mW at_ part).toArray⟩)/\Below w.heap.size w w':=by
 obtain ⟨i0,cG,cI,cH,cJ⟩:=info_parts a86;have Hr:=kp hr;have Hp:=kp hp;have lz:=kp (fun k=>XF at_ (part.take k));generalize hQ:(fun (e:Ending) w'=>e = .returned (.string ⟨(mW at_ part).toArray⟩)/\Below w.heap.size w w')=Q;have HQ:=kp (show ∀w',Below w.heap.size w w'->Q (.returned (.string ⟨(mW at_ part).toArray⟩)) w' from fun w' hb=>by rw [<-hQ];exact ⟨rfl,hb⟩);clear hQ hr hp;obtain ⟨n,hN⟩:∃n,part.length=n:=⟨_,rfl⟩
 have Hn:=kp hN;rw [hN] at hn ⊢;clear hN;have zr:IntKind.i64.wrap (2*(n:Int))=2*(n:Int):=IntWalk.i64_in _ (by omega);have Tl:IntKind.i64.wrap (2*(n:Int)+1)=2*(n:Int)+1:=IntWalk.i64_in _ (by omega);go_enter Tryz.func75,Tryz.ntmps75
 go_wp2_with (first
  | (at_make;refine wpList_make_own _ rfl _ _ 114 rfl w.heap.size 5 i0 (.int .u8 0) 1 Tryz.underlying114 cG cI cH .i64 .i64 (2*(n:Int)+1) (2*n+1) rfl rfl (by omega) (by rw [cJ];omega) (by unfold maxLen;omega) (ah _) ?_;intro w1 j8 ve;have fI:=kp j8;have zn:=kp ve;clear j8 ve)
  | (at_builtin;refine tE rfl (.tmp 13) (.tmp 16) 114 rfl w.heap.size 5 i0 (.int .u8 0) 1 Tryz.underlying114 cG cI cH cJ rfl w1 (.int .u8 ((at_:Int) % 256)) rfl (.slice (some ⟨w.heap.size,0,none⟩) 0 (2*n+1)) 0 [] rfl fI.o rfl (by omega) (by decide) zn.o.size ?_;intro v5 w5 aY bV;obtain ⟨A5,c5,h5⟩:=iq aY;subst h5;have cP:=kp aY;have bZ:=kp (bV.below (((aq _ w).grown zn.o (ah _) (fun k hk=>by cases hk))) fI.o (ah _) zn.o.size);clear aY bV))
 go_loopw [5,20] (fun v5 v20 wr=>∃ (k:Nat) (A':OA) (c':Nat),k<=n/\v20 = .int .i64 k/\v5 = .slice A' (1+k*2) c'/\wr.ownsRow w.heap.size 5 1 (.slice A' (1+k*2) c') (1+k*2) (AZ (mW at_ (part.take k)))/\Below w.heap.size w wr) (fun _ v20 _=>n-(intOf v20).toNat)
 case atStart=>exact ⟨0,A5,c5,aZ _,rfl,rfl,by have:=cP.o;unfold mW;rw [take_zero,flatMap_nil,aaG];exact this,bZ.o⟩
 case round =>
  obtain ⟨k,A',c',hk,rfl,rfl,aE,aC⟩:=hrel;have bF:=kp aE;have ai:=kp aC;clear aE aC;by_cases ae:k<n
  .have aA:k<part.length:=by rw [Hn.o];exact ae
   obtain ⟨b,off,hA,hb,c0⟩:=Row.at_ ((Hr.o.below ai.o).more ai.o.size) (k:=k) (by rw [ke];exact aA);unfold aP at c0;rw [getElem_map] at c0;subst hA;have hpk:=Hp.o _ (gM aA);have dw:=kp (a9e (at_:=at_) aA);generalize (part[k]'aA)=x at *;have dz:(0:Int)<=(k:Int):=by omega
   have df:(k:Int)<(n:Int):=by omega
   have o9:=kp ai.o.size;have cz:1+k*2+2<1048576*64:=by omega
   go_wp2_with (at_builtin;refine Rk rfl (.tmp 24) (.tmp 30) 114 rfl w.heap.size 5 i0 (.int .u8 0) 1 1 Tryz.underlying114 cG cI cH cJ rfl (by decide) _ (.slice A' (1+k*2) c') (1+k*2) (AZ (mW at_ (part.take k))) rfl (bF.o.alloc (.cells #[.int .u8 ((x:Int) / 256 % 256),.int .u8 ((x:Int) % 256)] 5)) (some ⟨wr.heap.size,0,none⟩) 2 2 _ [.int .u8 ((x:Int) / 256 % 256),.int .u8 ((x:Int) % 256)] rfl rfl (Yy wr #[.int .u8 ((x:Int) / 256 % 256),.int .u8 ((x:Int) % 256)] 5) (by intro u hu;simp at hu;rcases hu with rfl | rfl<;>rfl) cz (by decide) (by simp;have:=o9.o;omega) ?_;intro v5 w6 aY bV;obtain ⟨A6,c6,h5⟩:=iq aY;subst h5;have gR:=kp aY;have eI:=kp ((Y6 bV).below ai.o bF.o (ah _) o9.o);clear aY bV)
   refine ⟨⟨k+1,A6,c6,by omega,by go_num,?_,?_,eI.o⟩,by simp [intOf];omega⟩
   .rw [Nat.add_mul];rfl
   .rw [dw.o,a7O,show 1+(k+1)*2=1+k*2+2 by omega];have:=gR.o;rw [show ((x:Int) / 256)=((x / 256:Nat):Int) from rfl] at this;exact this
  .obtain rfl:k=n:=by omega
   have ko:=lz.o k;rw [take_of_length_le (show part.length<=k by rw [Hn.o];exact ah _)] at ko;have aE:=bF.o;rw [take_of_length_le (show part.length<=k by rw [Hn.o];exact ah _)] at aE;rw [Hn.o] at ko;have Hf:=kp (HQ.o _ ai.o);obtain ⟨g,cap,cur,hv,hB,hh,j7,fj,cE,ht⟩:∃g cap cur,Value.slice A' (1+k*2) c' = .slice (some ⟨g,0,none⟩) (1+k*2) cap/\w.heap.size<=g/\wr.heap[g]? = some (.cells cur 5 (0,0))/\_/\_/\_/\_:=by
    rcases aE.2 with ⟨_,h0⟩ | h
    .omega
    .exact h
   injection hv with zI _ Ko
   subst zI Ko
   have Tm:=run_convert_bytes_back (P:=Tryz.prog) wr 114 9 5 ⟨g,0,none⟩ c' (mW at_ part) Tryz.underlying114 Tryz.underlying5 Tryz.underlying9 (fun j hj=>by
    have:=aE.cells (g:=g) rfl j (.int .u8 (((mW at_ part)[j]).toNat:Int)) (by unfold AZ;rw [getElem?_map,gE hj];rfl)
    exact this)
   rw [ko] at Tm;clear aE ko hB hh j7 fj cE ht;go_wp2_with fail;exact Hf.o
theorem aaR:(Tryz.prog.info? 73).map (fun i=>(i.zero,i.size,i.bytes))=some (some (.slice none 0 0),1,24):=by kernel_rfl
theorem ep.same {w w':World} {B:Nat} {A:OA} {l:List Fa} (h:ep w B A l) (hs:∀b,ir A l b->w'.heap[b]? = w.heap[b]?):ep w' B A l :=
 ⟨yJ h.row (fun b off e av=>hs b (.inl ⟨off,e,by rintro rfl;exact av rfl⟩)),fun f hf=>yJ (h.each f hf) (fun b off e av=>hs b (.inr ⟨f,hf,off,e,av⟩))⟩
theorem ep.cW {w:World} {B:Nat} {A:OA} {l:List Fa} (h:ep w B A l) {b:Nat} (hf:ir A l b):b<B:=by
 rcases hf with ⟨off,e,av⟩ | ⟨f,hf,off,e,av⟩
 .rcases h.row with h0 | ⟨b',jy,e',hb,_⟩
  .exact absurd (map_eq_nil_iff.1 h0) av
  .rw [e] at e';injection e' with e'
   injection e' with e1 _ _
   omega
 .rcases h.each f hf with h0 | ⟨b',jy,e',hb,_⟩
  .exact absurd h0 av
  .rw [e] at e';injection e' with e'
   injection e' with e1 _ _
   omega
def vP (w:World) (v:Value) (r:Rn):Prop:=ep w w.heap.size r.A r.fs/\∀b,ir r.A r.fs b->v.ownBlock≠some b
theorem vP.app {wr w':World} {v v':Value} {r:Rn} (h:vP wr v r) (ha:App wr w' v v'):vP w' v' r:=by
 have ae:∀b,ir r.A r.fs b->b<wr.heap.size:=fun b hb=>h.1.cW hb
 refine ⟨(h.1.same (fun b hb=>ha.de (ae b hb) (h.2 b hb))).more ha.grown.size,fun b hb => ?_⟩;rcases ha.qH with hl | ⟨k,hl,hk⟩
 .rw [hl];exact h.2 b hb
 .rw [hl];intro hh;injection hh with hh
  have:=ae b hb;omega
theorem vP.below {w w':World} {v:Value} {r:Rn} (h:vP w v r) (hb:Below w.heap.size w w'):vP w' v r:=⟨(h.1.below hb).more hb.size,h.2⟩
theorem fX.D2 {w:World} {B n c:Nat} {A:OA} {l:List Fa} (h:fX w B (.slice A n c) l) {b:Nat} (hb:ir A l b):B<=b:=by
 rcases hb with ⟨off,e,av⟩ | ⟨f,hf,off,e,av⟩
 .have:=h.1;rw [e] at this;exact (this.lt b rfl).1
 .exact h.2.2 f hf b off e av
theorem vP.new {w:World} {B n c:Nat} {A:OA} {l:List Fa} {v:Value} (h:fX w B (.slice A n c) l) (hv:∀k,v.ownBlock=some k->k<B):vP w v ⟨A,l,c⟩:=by
 refine ⟨h.at_,fun b hb hh => ?_⟩;have h1:=hv b hh;have h2:=h.D2 hb;omega
def pT (w:World) (B:Nat) (v:Value) (rs:List Rn):Prop:=w.ownsRow B 73 1 v rs.length (rs.map kH)/\∀r∈rs,vP w v r/\∀b,ir r.A r.fs b->B<=b
theorem pT.nil (w:World) (B:Nat):pT w B (.slice none 0 0) []:=⟨gL _ _ _ _,fun x hx=>by cases hx⟩
theorem pT.below {w w':World} {B:Nat} {v:Value} {rs:List Rn} (h:pT w B v rs) (hb:Below w.heap.size w w'):pT w' B v rs:=⟨eV h.1 hb,fun r hr=>⟨(h.2 r hr).1.below hb,(h.2 r hr).2⟩⟩
theorem pT.app {w w':World} {B n c n' c':Nat} {A A':OA} {rs:List Rn} {r:Rn} (h:pT w B (.slice A n c) rs) (hr:vP w (.slice A n c) r) (hf:∀b,ir r.A r.fs b->B<=b)
 (ho:w'.ownsRow B 73 1 (.slice A' n' c') (n+1) (rs.map kH++[kH r])) (ha:App w w' (.slice A n c) (.slice A' n' c')) (hn:rs.length=n):pT w' B (.slice A' n' c') (rs++[r]):=by
 refine ⟨?_,fun x hx => ?_⟩
 .rw [aS,hn,map_append];exact ho
 .rcases mem_append.1 hx with hx | hx
  .exact ⟨(h.2 x hx).1.app ha,(h.2 x hx).2⟩
  .rw [mem_singleton.1 hx];exact ⟨hr.app ha,hf⟩
structure sI (w:World) (B:Nat) (A:OA) (rs:List Rn):Prop where
 row:Row w B A (rs.map kH)
 each:∀r∈rs,ep w B r.A r.fs
theorem sI.below {w w':World} {B:Nat} {A:OA} {rs:List Rn} (h:sI w B A rs) (hb:Below B w w'):sI w' B A rs:=⟨h.row.below hb,fun r hr=>(h.each r hr).below hb⟩
theorem sI.more {w:World} {B B':Nat} {A:OA} {rs:List Rn} (h:sI w B A rs) (hB:B<=B'):sI w B' A rs:=⟨h.row.more hB,fun r hr=>(h.each r hr).more hB⟩
theorem pT.at_ {w:World} {B n c:Nat} {A:OA} {rs:List Rn} (h:pT w B (.slice A n c) rs):sI w w.heap.size A rs:=by
 obtain ⟨A',c',e⟩:=iq h.1;injection e with e1 e2 e3
 subst e1 e2 e3;exact ⟨gV h.1,fun r hr=>(h.2 r hr).1.1⟩
def N8 (A:OA) (rs:List Rn) (b:Nat):Prop:=(∃off,A=some ⟨b,off,none⟩/\rs≠[])\/∃r∈rs,ir r.A r.fs b
theorem sI.same {w w':World} {B:Nat} {A:OA} {rs:List Rn} (h:sI w B A rs) (hs:∀b,N8 A rs b->w'.heap[b]? = w.heap[b]?):sI w' B A rs :=
 ⟨yJ h.row (fun b off e av=>hs b (.inl ⟨off,e,by rintro rfl;exact av rfl⟩)),fun r hr=>(h.each r hr).same (fun b hb=>hs b (.inr ⟨r,hr,hb⟩))⟩
theorem sI.cW {w:World} {B:Nat} {A:OA} {rs:List Rn} (h:sI w B A rs) {b:Nat} (hf:N8 A rs b):b<B:=by
 rcases hf with ⟨off,e,av⟩ | ⟨r,hr,hf⟩
 .rcases h.row with h0 | ⟨b',jy,e',hb,_⟩
  .exact absurd (map_eq_nil_iff.1 h0) av
  .rw [e] at e';injection e' with e'
   injection e' with e1 _ _
   omega
 .exact (h.each r hr).cW hf
theorem pT.D2 {w:World} {B n c:Nat} {A:OA} {rs:List Rn} (h:pT w B (.slice A n c) rs) {b:Nat} (hb:N8 A rs b):B<=b:=by
 rcases hb with ⟨off,e,av⟩ | ⟨r,hr,hf⟩
 .have:=h.1;rw [e] at this;exact (this.lt b rfl).1
 .exact (h.2 r hr).2 b hf
def gl (d:cR):List LN:=(range d.aw.length).map (fq d)
def Rp (s:aW) (w:World) (e:Ending) (w':World):Prop:=∃ (A:OA) (c:Nat) (rs:List Rn),e = .returned (.slice A rs.length c)/\pT w' w.heap.size (.slice A rs.length c) rs/\rs.map (fun r=>r.fs.map Fa.keys)=s.ak.map gl/\Below w.heap.size w w'
theorem a8H (s:aW) (w:World) (h:gW w w.heap.size s) (ho:dO s):Calls Tryz.prog 31 #[.agg (cj s)] w (Rp s w):=by
 obtain ⟨i0,cG,cI,cH,cJ⟩:=info_parts aaR;obtain ⟨j0,DP,DQ,DR,DS⟩:=info_parts N7;have HM:=kp a6s;have HQ:=kp (show ∀A c rs w',pT w' w.heap.size (.slice A rs.length c) rs->rs.map (fun r=>r.fs.map Fa.keys)=s.ak.map gl->Below w.heap.size w w'->Rp s w (.returned (.slice A rs.length c)) w' from fun A c rs w' h1 h2 h3=>⟨A,c,rs,rfl,h1,h2,h3⟩);have Hh:=kp h;have Ho:=kp ho;have mw:=ho.n2;have au:=(aq w.heap.size w).alloc (ah _) (.cells (cj s) 25);have HB:=kp (aa.new w 25 (cj s));have ay:=kp au;clear h ho au;generalize hQ:Rp s w=Q at *;clear hQ;unfold cj at HB ay ⊢;obtain ⟨z0,z1,_,_⟩:=HB.o.two;obtain ⟨m,hm⟩:∃m,s.ak.length=m:=⟨_,rfl⟩
 have Hm:=kp hm;rw [hm] at z0 mw HB ay ⊢;clear hm;go_enter Tryz.func31,Tryz.ntmps31;go_wp2_with fail;clear z0 z1;generalize w.alloc (.cells #[.slice s.A m s.c,.slice s.Am s.aU.length s.cm] 25)=W0 at *
 go_loopw [3,11] (fun v3 pr wr=>∃ (k:Nat) (rs:List Rn) (A:OA) (c:Nat),k<=m/\pr = .int .i64 k/\v3 = .slice A k c/\rs.length=k/\rs.map (fun r=>r.fs.map Fa.keys)=(s.ak.take k).map gl/\pT wr w.heap.size (.slice A k c) rs/\Below w.heap.size w wr) (fun _ pr _=>m-(intOf pr).toNat)
 case atStart=>exact ⟨0,[],none,0,aZ _,rfl,rfl,rfl,rfl,pT.nil _ _,ay.o⟩
 case round =>
  obtain ⟨k,rs,A,c,hk,rfl,rfl,nw,ua,aE,aC⟩:=hrel;have wI:=kp nw;have Kq:=kp ua;have bF:=kp aE;have ai:=kp aC;clear nw ua aE aC;by_cases ae:k<m
  .have bE:k<s.ak.length:=by rw [Hm.o];exact ae
   have br:=(Hh.o.below ai.o).more ai.o.size;obtain ⟨b,off,hA,hb,c0,c1⟩:=br.aj k bE;have pX:=br.ak _ (gM bE);have db:=Ho.o.ak k bE;have fw:=db.n2;have cS:=(aq wr.heap.size wr).alloc (ah _) (.cells (ew (s.ak[k]'bE)) 128);have bC:=aR ai cS;have Ns:=kp (fun to W (fH:to<(s.ak[k]'bE).aw.length) (hW:Below wr.heap.size wr W)=>HM.o (s.ak[k]'bE) to W ((pX.below hW).more hW.size) db fH);have uh:=kp cS;have DF:=kp (aa.new wr 128 (ew (s.ak[k]'bE)));have jN:=kp (bF.o.below cS);have Kg:=kp (show ∀r:Rn,r.fs.map Fa.keys=gl (s.ak[k]'bE)->(rs++[r]).map (fun r=>r.fs.map Fa.keys)=(s.ak.take (k+1)).map gl from fun r hr=>by rw [take_succ_eq_append_getElem bE,map_append,map_append,Kq.o,map_cons,map_nil,map_cons,map_nil,hr]);unfold ew at Ns uh DF bC cS jN
   have HD:=kp (show ∀j (hj:j<(s.ak[k]'bE).aw.length),(gl (s.ak[k]'bE)).take (j+1)=(gl (s.ak[k]'bE)).take j++[fq (s.ak[k]'bE) j] from fun j hj=>by
    rw [take_succ_eq_append_getElem (by unfold gl;rw [lM,length_range];exact hj)];unfold gl
    rw [getElem_map,getElem_range])
   have HDl:=kp (show (gl (s.ak[k]'bE)).length=(s.ak[k]'bE).aw.length by unfold gl;rw [lM,length_range]);generalize Tn:fq (s.ak[k]'bE)=mp at *;clear Tn;generalize gl (s.ak[k]'bE)=ln at *;generalize (s.ak[k]'bE).A=dA at *;generalize (s.ak[k]'bE).name=dn at *;generalize (s.ak[k]'bE).aw.length=dl at *;generalize (s.ak[k]'bE).c=dc at *;have dz:(0:Int)<=(k:Int):=by omega
   have df:(k:Int)<(m:Int):=by omega
   rw [hA];clear br pX db hA;go_upto_region 6 with fail
   clear c0 c1 cS;generalize dH:wr.alloc (.cells #[.string dn,.slice dA dl dc] 128)=W3 at *;clear dH;have DG:wr.heap.size<W3.heap.size:=DF.o.lt;generalize DH:wr.heap.size=g5 at *;have Hgg:=kp DH;clear DH;obtain ⟨y0,y1,_,_⟩:=DF.o.two;go_wp2_with fail;clear y0 y1
   go_loopw [6,18] (fun v6 Dl w4=>∃ (j:Nat) (xs:List Fa) (A':OA) (c':Nat),j<=dl/\Dl = .int .i64 j/\v6 = .slice A' j c'/\xs.length=j/\xs.map Fa.keys=ln.take j/\fX w4 W3.heap.size (.slice A' j c') xs/\Below W3.heap.size W3 w4) (fun _ Dl _=>dl-(intOf Dl).toNat)
   case atStart=>exact ⟨0,[],none,0,aZ _,rfl,rfl,rfl,by rw [take_zero];rfl,fX.nil _ _,aq _ _⟩
   case round =>
    obtain ⟨j,xs,A',c',hj,rfl,rfl,se,pW,pq,cq⟩:=hrel;have sf:=kp se;have sZ:=kp pW;have lE:=kp pq;have bH:=kp cq;obtain ⟨y0,y1,_,_⟩:=(DF.o.under cq).two;clear se pW pq cq;by_cases lu:j<dl
    .have HMj:=kp (Ns.o j wr lu (uh.o.trans (bH.o.mono (by omega))));have Hdj:=kp (HD.o j lu);generalize mp j=mj at *;have T5:g5<wr.heap.size:=dL DG bH.o.size;go_wp2_with fail;refine HMj.o.mono ?_;rintro e w5 ⟨v5,rfl,aY,cV⟩;obtain ⟨A5,c5,rfl⟩:=iq aY;have bZ:=aR bH cV;have cP:=kp (lE.o.below cV);have HN:=kp (MW (n:=0) (w:=w5) (v := .slice A' j c') (B0:=W3.heap.size) aY (fun i hi=>(lE.o.1.lt i hi).2) bH.o.size);have lJ:=kp (show w5.ownsRow W3.heap.size 27 1 (.slice A' j c') j (xs.map lg) by have:=cP.o.1;rw [sf.o] at this;exact this);have zJ:=kp bZ.o.size;have cz:j<1048576*64:=by omega
     clear aY cV y0 y1
     go_wp2_with (at_builtin;refine tE rfl (.tmp 21) (.tmp 25) 73 rfl W3.heap.size 27 j0 (.slice none 0 0) 24 Tryz.underlying73 DP DQ DR DS rfl w5 (.slice A5 mj.length c5) rfl (.slice A' j c') j (xs.map lg) rfl lJ.o rfl cz (by decide) zJ.o ?_;intro v6 w6 iL jE;obtain ⟨A6,c6,h6⟩:=iq iL;subst h6;have gR:=kp iL;have lK:=kp jE;have eI:=kp (jE.below bZ.o lJ.o (ah _) zJ.o);clear iL jE)
     have HF:=kp (fX.app (f:=⟨A5,mj,c5,aO⟩) cP.o HN.o.1 HN.o.2 gR.o lK.o sf.o);exact ⟨⟨j+1,xs++[⟨A5,mj,c5,aO⟩],A6,c6,by omega,by go_num,rfl,by rw [aS,sf.o];rfl,by rw [Hdj.o,map_append,sZ.o];rfl,HF.o,eI.o⟩,by simp [intOf];omega⟩
    .obtain rfl:j=dl:=by omega
     have yk:=kp (show Below g5 W3 wr from bH.o.mono (by omega));have kr:=kp (bC.o.trans (yk.o.mono (by rw [<-Hgg.o];exact ai.o.size)));have BQ:=kp (jN.o.below bH.o);have To:=kp (vP.new (v := .slice A k c) lE.o (fun i hi=>(jN.o.1.lt i hi).2));have acD:=kp (show ∀b,ir A' xs b->w.heap.size<=b from fun b hb=>by have h1:=lE.o.D2 hb;have h2:=kr.o.size;have h3:=ai.o.size;have h4:=Hgg.o;omega);have Hxr:=kp (Kg.o ⟨A',xs,c'⟩ (by have:=sZ.o;rw [take_of_length_le (by rw [HDl.o];exact ah _)] at this;exact this));have a2h:=kp (show wr.ownsRow w.heap.size 73 1 (.slice A k c) k (rs.map kH) by have:=BQ.o.1;rw [wI.o] at this;exact this);have Hs9:=kp kr.o.size;have cz:k<1048576*64:=by omega
     clear y0 y1
     go_wp2_with (at_builtin;refine tE rfl (.tmp 28) (.tmp 30) 80 rfl w.heap.size 73 i0 (.slice none 0 0) 24 Tryz.underlying80 cG cI cH cJ rfl wr (.slice A' j c') rfl (.slice A k c) k (rs.map kH) rfl a2h.o rfl cz (by decide) Hs9.o ?_;intro v6 w6 iL jE;obtain ⟨A6,c6,h6⟩:=iq iL;subst h6;have gR:=kp iL;have lK:=kp jE;have eI:=kp (jE.below kr.o a2h.o (ah _) Hs9.o);clear iL jE)
     have HF:=kp (pT.app (r:=⟨A',xs,c'⟩) BQ.o To.o acD.o (by unfold kH;rw [sf.o];exact gR.o) lK.o wI.o);exact ⟨⟨k+1,rs++[⟨A',xs,c'⟩],A6,c6,by omega,by go_num,rfl,by rw [aS,wI.o];rfl,Hxr.o,HF.o,eI.o⟩,by simp [intOf];omega⟩
  .obtain rfl:k=m:=by omega
   have HF:=kp (HQ.o A c rs);rw [wI.o] at HF;have Hf:=kp (HF.o _ bF.o (by have:=Kq.o;rw [take_of_length_le (by rw [Hm.o];exact ah _)] at this;exact this) ai.o);go_wp2_with fail;exact Hf.o
end Go.Proofs.YtjopcamkclndlaaGreat.Tc
namespace Go.Proofs.YtjopcamkclndlaaGreat.Tc
open List Go.RowKit Base Go.Shelf
structure Gr where
 key:Nat
 A:OA
 part:LN
 c:Nat
deriving Inhabited
abbrev gI (g:Gr):LV:=[.int .i64 g.key,.slice g.A g.part.length g.c]
abbrev yI (g:Gr):AV:=#[.int .i64 g.key,.slice g.A g.part.length g.c]
theorem Fb (g:Gr):(gI g).length=2:=rfl
theorem a9W (g:Gr):∀u∈(yI g).toList,u.oneCell'=true:=by
 intro u hu;simp only [yI,mem_cons,not_mem_nil,or_false] at hu;rcases hu with rfl | rfl<;>rfl
theorem a7f (g:Gr):∀u∈gI g,u.oneCell'=true:=by
 intro u hu;simp only [gI,mem_cons,not_mem_nil,or_false] at hu;rcases hu with rfl | rfl<;>rfl
theorem abG:(Tryz.prog.info? 168).map (fun i=>(i.zero,i.size,i.bytes))=some (some (.agg #[.int .i64 0,.slice none 0 0]),2,32):=by kernel_rfl
theorem YQ (gs:List Gr):Sort.flatK gI 2 gs.toArray=(gs.flatMap gI).toArray:=by
 have hl:=kI Fb gs;refine Sort.ext_get! (by rw [Sort.size_flatK];simp only [size_toArray];omega) fun t ht => ?_
 have lY:t<gs.length*2:=by simpa using ht
 have hi:t / 2<gs.length:=by omega
 rw [Sort.get_flatK gI 2 gs.toArray t (by simpa using lY)];have h:=MG Fb gs (t / 2) hi (t % 2) (Nat.mod_lt _ (by omega));rw [Nat.mul_comm,Nat.div_add_mod] at h;have e1:gs.toArray[t / 2]! = gs[t / 2]:=by rw [getElem!_pos _ _ (by simpa using hi)];simp
 rw [e1];have e2:(gs.flatMap gI).toArray[t]! = (gs.flatMap gI)[t]'(by omega):=by rw [getElem!_pos _ _ (by simp only [size_toArray];omega)];simp
 have hm:t % 2<(gI gs[t / 2]).length:=by rw [Fb];omega
 have e3:(gI gs[t / 2])[t % 2]! = (gI gs[t / 2])[t % 2]'hm:=getElem!_pos (gI gs[t / 2]) (t % 2) hm;rw [e2,e3];rw [gE (by omega),gE hm] at h;exact (Option.some.inj h).symm
theorem a9P (x y:Gr) (W:World):Calls Tryz.prog 120 #[.agg (gI x).toArray,.agg (gI y).toArray] W fun e w'=>e = .returned (.int .i64 (iO x.key y.key))/\∃q Tp,w'=Sort.grow (W.drewN q) Tp:=by
 have HC:=kp (fun w=>Q9 x.key y.key w);have bL:=kp ((aa.new W 168 (yI x)).alloc (.cells (yI y) 168));have aV:=kp (aa.lay (w:=W.alloc (.cells (yI x) 168)) (g:=W.heap.size+1) (t:=168) (cs:=yI y) (by simp));have HQ:=kp (show ∃q Tp,(W.alloc (.cells (yI x) 168)).alloc (.cells (yI y) 168)=Sort.grow (W.drewN q) Tp from ⟨0,_,by rw [Sort.alloc_eq_grow,Sort.alloc_eq_grow,Sort.grow_grow];rfl⟩);generalize iO x.key y.key=V at *;obtain ⟨a0,a1,_,_⟩:=bL.o.two;obtain ⟨b0,b1,_,_⟩:=aV.o.two;go_enter Tryz.func120,Tryz.ntmps120;go_wp2_with fail;refine (HC.o _).mono ?_;rintro e w1 ⟨rfl,rfl⟩;go_wp2_with fail;go_ret;exact ⟨rfl,HQ.o⟩
theorem MP (x y:Gr):ltOf (fun x y:Gr=>iO x.key y.key) x y=decide (x.key<y.key):=by
 unfold ltOf;rw [Bool.eq_iff_iff,decide_eq_true_eq,decide_eq_true_eq];exact Yb
theorem abJ:Sort.SWO (ltOf fun x y:Gr=>iO x.key y.key) where
 irrefl x:=by rw [MP];simp
 trans x y z h1 h2:=by rw [MP] at *;simp at *;omega
 ntrans x y z h1 h2:=by rw [MP] at *;simp at *;omega
theorem a8u (cur F:AV) (h:F.size<=cur.size):(Sort.putCells id 0 F cur).toList.take F.size=F.toList:=by
 apply ext_getElem?;intro j;by_cases hj:j<F.size
 .rw [getElem?_take_of_lt hj,Array.getElem?_toList,Array.getElem?_toList];simp [Sort.putCells,hj,show j<cur.size by omega]
 .rw [getElem?_take_eq_none (by omega),getElem?_eq_none (by simp;omega)]
def a8c (g c B:Nat) (gs:List Gr) (w:World) (e:Ending) (w':World):Prop:=e = .returned (.tuple #[])/\∃uq:List Gr,uq.Perm gs/\uq.Pairwise (fun a b=>a.key<=b.key)/\w'.ownsRow B 168 2 (.slice (some ⟨g,0,none⟩) gs.length c) gs.length (uq.flatMap gI)/\bK (fun k=>k=g) w w'
theorem a9u (g c B:Nat) (gs:List Gr) (w:World) (aX:gs.length<=1000000) (aE:w.ownsRow B 168 2 (.slice (some ⟨g,0,none⟩) gs.length c) gs.length (gs.flatMap gI)) :
 Calls Tryz.prog 119 #[.slice (some ⟨g,0,none⟩) gs.length c,.func (.func 120) #[] #[]] w (a8c g c B gs w):=by
 obtain ⟨g',cap,cur,hv,hB,hh,j7,fj,cE,ht⟩:∃g' cap cur,Value.slice (some ⟨g,0,none⟩) gs.length c = .slice (some ⟨g',0,none⟩) gs.length cap/\B<=g'/\w.heap[g']? = some (.cells cur 168 (0,0))/\gs.length<=cap/\cap<=maxLen/\cur.size=cap*2/\cur.toList.take (gs.length*2)=gs.flatMap gI:=by
  rcases aE.2 with ⟨h0,_⟩ | h
  .cases h0
  .exact h
 injection hv with zI _ Ko
 injection zI with zI
 injection zI with zI _ _
 subst zI Ko;have ae:g<w.heap.size:=(Array.getElem?_eq_some_iff.1 hh).1;have oV:=kI Fb gs;have hH:Sort.HoldsK gI 2 w g 0 gs.toArray:=by
  unfold Sort.HoldsK;rw [YQ];intro j hj;have vW:j<(gs.flatMap gI).length:=by simpa only [size_toArray] using hj
  refine ⟨?_,by simp [World.frozen?,hh]⟩;have h1:=aE.cells (g:=g) rfl j _ (gE vW);rw [xO] at h1;rw [h1];have e3:(gs.flatMap gI).toArray[j]! = (gs.flatMap gI).toArray[j]'hj:=getElem!_pos (gs.flatMap gI).toArray j hj;rw [e3];simp
 have acE:=AnyQ.slices_SortFunc Tryz.a9m 2 Tryz.isAgg168 Tryz.sizeOf168 gI (fun _=>rfl) a7f (fun x y:Gr=>iO x.key y.key) abJ 120 #[] g 0 c gs.toArray w (enters_of Tryz.func120 (by kernel_rfl) rfl) (fun _ _ _ _ x y=>a9P x y _) hH ae (by simp only [size_toArray];omega);refine acE.mono ?_;rintro e w' ⟨rfl,d',n,os,hp,hs,rfl⟩;have JQ:d'.size=gs.length:=by have:=hp.1;simpa using this
 refine ⟨rfl,d'.toList,?_,?_,?_,?_⟩
 .have e1:d'.extract 0 gs.toArray.size=d':=by
   have:gs.toArray.size=d'.size:=by simp [JQ]
   rw [this];simp
  have e2:gs.toArray.extract 0 gs.toArray.size=gs.toArray:=by simp
  have h2:=hp.2.2;rw [e1,e2] at h2;simpa using h2
 .rw [pairwise_iff_getElem];intro i j hi hj hij;have gP:i<d'.size:=by simpa using hi
  have vW:j<d'.size:=by simpa using hj
  have:=hs i j (aZ _) hij (by simp;omega);have e3:d'[i]! = d'[i]'gP:=getElem!_pos d' i gP;have e4:d'[j]! = d'[j]'vW:=getElem!_pos d' j vW;rw [MP,e3,e4] at this;simp at this;simpa using this
 .have O4:Sort.flatK gI 2 d'=(d'.toList.flatMap gI).toArray:=by
   have:=YQ d'.toList;simpa using this
  have dR:(d'.toList.flatMap gI).length=gs.length*2:=by rw [kI Fb,Array.length_toList,JQ]
  unfold sortWorldK Sort.putRowK;rw [O4];refine ⟨dR,.inr ⟨g,c,Sort.putCells id 0 (d'.toList.flatMap gI).toArray cur,rfl,hB,?_,j7,fj,?_,?_⟩⟩
  .rw [Sort.heap_grow_old _ _ (by simpa using ae)];simp [Sort.putRow,Sort.mapBlock,Sort.ahead,Array.getElem?_modify,hh,Sort.onCells]
  .simp [Sort.putCells,cE]
  .have h1:=a8u cur (d'.toList.flatMap gI).toArray (by simp only [size_toArray];omega);simp only [size_toArray] at h1;rw [dR] at h1;simpa using h1
 .refine ⟨rfl,rfl,rfl,by simp [sortWorldK,Sort.putRowK],fun k hk av => ?_⟩;unfold sortWorldK Sort.putRowK;rw [Sort.heap_grow_old _ _ (by simpa using hk)];have:g≠k:=fun e=>av e.symm
  simp [Sort.putRow,Sort.mapBlock,Sort.ahead,Array.getElem?_modify,this]
end Go.Proofs.YtjopcamkclndlaaGreat.Tc
namespace Go.Proofs.YtjopcamkclndlaaGreat.Tc
open List Go.RowKit Base Go.Maps Go.WideMaps
def ia (key:Nat->Nat) (part:LN) (k:Nat):LN:=part.filter fun i=>key i == k
def eu (key:Nat->Nat) (part:LN):List (Nat×LN):=(range 200).filterMap fun k=>if ia key part k=[] then none else some (k,ia key part k)
theorem uO {key:Nat->Nat} {part:LN} {g:Nat×LN}:g∈eu key part↔g.1<200/\g.2=ia key part g.1/\g.2≠[]:=by
 unfold eu;rw [mem_filterMap];constructor
 .rintro ⟨k,hk,h⟩;split at h
  .cases h
  .rename_i av;injection h with h
   subst h;exact ⟨mem_range.1 hk,rfl,av⟩
 .rintro ⟨h1,h2,h3⟩;refine ⟨g.1,mem_range.2 h1,?_⟩;rw [<-h2,if_neg h3]
theorem IP (key:Nat->Nat) (part:LN):(eu key part).Pairwise fun a b=>a.1<b.1:=by
 unfold eu;rw [pairwise_filterMap];refine pairwise_lt_range.imp fun {a b} vp => ?_
 intro x hx y hy;split at hx
 .cases hx
 .split at hy
  .cases hy
  .injection hx with hx
   injection hy with hy
   subst hx hy;exact vp
theorem aaQ {key:Nat->Nat} {part:LN} {l:List (Nat×LN)} (h1:(l.map Prod.fst).Nodup) (h2:l.Pairwise fun a b=>a.1<=b.1) (h3:∀g,g∈l↔g.1<200/\g.2=ia key part g.1/\g.2≠[]):l=eu key part:=by
 have hm:∀g,g∈l↔g∈eu key part:=fun g=>(h3 g).trans uO.symm
 have hn:(eu key part).Nodup:=by
  rw [nodup_iff_pairwise_ne];refine (IP key part).imp fun {a b} h e => ?_
  rw [e] at h;omega
 have hl:l.Nodup:=by
  have:=h1;rw [nodup_iff_pairwise_ne,pairwise_map] at this;rw [nodup_iff_pairwise_ne];exact this.imp fun h e=>h (by rw [e])
 have hp:l.Perm (eu key part):=(perm_ext_iff_of_nodup hl hn).2 hm;refine hp.eq_of_pairwise (le:=fun a b:Nat×LN=>a.1<=b.1) (fun a b ha hb vp wJ => ?_) h2 ((IP key part).imp Nat.le_of_lt);have e:a.1=b.1:=Nat.le_antisymm vp wJ;have h4:=((h3 a).1 ha).2.1;have h5:=(uO.1 hb).2.1;refine Prod.ext e ?_;rw [h4,h5,e]
def uV (key:Nat->Nat) (pre:LN) (x:Int):List Int:=(pre.filter fun i=>(key i:Int) == x).map fun i:Nat=>(i:Int)
def J7 (zs:List Int):DataW Unit:=match zs with
 | [] => .nil
 | _ => .slice (Go.ChangeShapes.lits .i64 zs) []
structure uP (D:DataW Unit) (key:Nat->Nat) (pre:LN):Prop where
 map:IsMap D
 at_:∀x:Int,D.atKey (.int .i64 x) .nil=J7 (uV key pre x)
 has:∀x:Int,Maps.has D (.int .i64 x) = !(uV key pre x).isEmpty
theorem uP.nil (key:Nat->Nat):uP (.map []:DataW Unit) key []:=⟨isMap_empty,fun x=>rfl,fun x=>rfl⟩
theorem Xg (key:Nat->Nat) (pre:LN) (i:Nat) (x:Int):uV key (pre++[i]) x=if (key i:Int)=x then uV key pre x++[(i:Int)] else uV key pre x:=by
 unfold uV;rw [filter_append,map_append];by_cases h:(key i:Int)=x
 .rw [if_pos h];simp [h]
 .rw [if_neg h];simp [h]
theorem uP.put {D:DataW Unit} {key:Nat->Nat} {pre:LN} (h:uP D key pre) (i:Nat):uP (D.put (.int .i64 (key i:Int)) (J7 (uV key pre (key i:Int)++[(i:Int)]))) key (pre++[i]):=by
 have hk:WideAt.IsKeyLit (.int .i64 (key i:Int)):=trivial;refine ⟨h.map.put _ _,fun x => ?_,fun x => ?_⟩
 .rw [Xg];by_cases e:(key i:Int)=x
  .rw [if_pos e,<-e,atKey_put_same h.map hk]
  .rw [if_neg e,atKey_put_other (fun hh=>e (by injection hh with _ hh;exact hh.symm))];exact h.at_ x
 .rw [Xg];by_cases e:(key i:Int)=x
  .rw [if_pos e,<-e,has_put_same h.map hk];simp
  .rw [if_neg e,has_put_other (fun hh=>e (by injection hh with _ hh;exact hh.symm))];exact h.has x
theorem a1b:∀ {a b:List Int},(Go.ChangeShapes.lits .i64 a:List (DataW Unit))=Go.ChangeShapes.lits .i64 b->a=b
 | [],[],_=>rfl
 | [],_::_,h=>by cases h
 | _::_,[],h=>by cases h
 | a::x,b::y,h=>by
  unfold Go.ChangeShapes.lits at h;rw [map_cons,map_cons] at h;injection h with h1 h2
  injection h1 with h1
  injection h1 with _ h1
  rw [h1,a1b h2]
theorem uP.owned {D:DataW Unit} {key:Nat->Nat} {pre:LN} (h:uP D key pre) {x:Int} {w:World} {base:Nat} {e:TypeId} {v:Value} {zs:List Int} (ho:w.ownsInts base e .i64 v zs) (br:D.atKey (.int .i64 x) .nil=rowDatum .i64 v zs):zs=uV key pre x:=by
 rw [h.at_] at br;unfold J7 at br;rcases ho.datum (H:=Unit) with ⟨h1,h2⟩ | h1
 .rw [h1] at br;rw [h2];split at br
  .rename_i h0;rw [h0]
  .cases br
 .rw [h1] at br;split at br
  .cases br
  .injection br with br
   exact (a1b br).symm
theorem a6J {w:World} {base:Nat} {e:TypeId} {v:Value} {zs:List Int} (ho:w.ownsInts base e .i64 v zs) (av:zs≠[]):J7 zs=rowDatum (H:=Unit) .i64 v zs:=by
 rw [ho.datum_pos av];unfold J7;split
 .exact absurd rfl av
 .rfl
theorem ZQ (key:Nat->Nat) (pre:LN) (k:Nat):uV key pre (k:Int)=(ia key pre k).map fun i:Nat=>(i:Int):=by
 unfold uV ia
 congr 1
 apply filter_congr;intro i _;rw [Bool.eq_iff_iff];simp only [beq_iff_eq];omega
theorem a7p (l:LN):(l.map fun i:Nat=>(i:Int)).map (Value.int .i64)=aP l:=by
 unfold aP;rw [map_map];rfl
theorem a7w (w:World):(zeroValue 27).run Tryz.prog w = .ok (.slice none 0 0) w:=by kernel_rfl
def CS (g:Gr):Nat×LN:=(g.key,g.part)
def QT (ps:List (Nat×LN)) (w:World) (e:Ending) (w':World):Prop:=∃ (A:OA) (c:Nat) (gs:List Gr),e = .returned (.slice A gs.length c)/\gs.map CS=ps/\w'.ownsRow w.heap.size 168 2 (.slice A gs.length c) gs.length (gs.flatMap gI)/\(∀g∈gs,Row w' w'.heap.size g.A (aP g.part)/\kh w.heap.size g.A (aP g.part))/\Below w.heap.size w w'
structure J1 (w:World) (Af:OA) (fs:List Fa) (Al:OA) (rs:List Rn) (at_ dm:Nat) (r:Rn) (lf:Fa) (part:LN) (key:Nat->Nat):Prop where
 facts:dG w w.heap.size Af fs
 lifts:sI w w.heap.size Al rs
 aj:rs[at_]? = some r
 dm:r.fs[dm]? = some lf
 key:∀i∈part,∃f q z,fs[i]? = some f/\f.keys[at_]? = some q/\lf.keys[q]? = some z/\key i=z/\z<200
 nf:fs.length<=1000000
 nr:rs.length<=1000000
 nt:r.fs.length<=1000000
 nl:lf.keys.length<=1000000
 nk:∀f∈fs,f.keys.length<=1000000
theorem J1.below {w w':World} {Af Al:OA} {fs:List Fa} {rs:List Rn} {at_ dm:Nat} {r:Rn} {lf:Fa} {part:LN} {key:Nat->Nat} (h:J1 w Af fs Al rs at_ dm r lf part key) (hb:Below w.heap.size w w'):J1 w' Af fs Al rs at_ dm r lf part key :=
 ⟨(h.facts.below hb).more hb.size,(h.lifts.below hb).more hb.size,h.aj,h.dm,h.key,h.nf,h.nr,h.nt,h.nl,h.nk⟩
structure vU (w0:World) (base:Nat) (D:DataW Unit) (left:Lit->Bool) (key:Nat->Nat) (part:LN) (gs:List Gr):Prop where
 nodup:(gs.map Gr.key).Nodup
 mem:∀x:Int,(∃g∈gs,(g.key:Int)=x)↔Maps.has D (.int .i64 x)=true/\left (.int .i64 x)=false
 each:∀g∈gs,g.key<200/\g.part=ia key part g.key/\g.part≠[]/\w0.ownsRow base 3 1 (.slice g.A g.part.length g.c) g.part.length (aP g.part)
theorem vU.start (w0:World) (base:Nat) (D:DataW Unit) (key:Nat->Nat) (part:LN):vU w0 base D (Maps.has D) key part [] :=
 ⟨nodup_nil,fun x=>by cases Maps.has D (.int .i64 x)<;>simp,fun g hg=>by cases hg⟩
theorem vU.step {w0:World} {base:Nat} {D:DataW Unit} {left:Lit->Bool} {key:Nat->Nat} {part:LN} {gs:List Gr} (h:vU w0 base D left key part gs) {g:Gr} (yl:Maps.has D (.int .i64 (g.key:Int))=true) (acF:left (.int .i64 (g.key:Int))=true)
 (hg:g.key<200/\g.part=ia key part g.key/\g.part≠[]/\w0.ownsRow base 3 1 (.slice g.A g.part.length g.c) g.part.length (aP g.part)) :
 vU w0 base D (fun z=>left z && !z.sameKey (.int .i64 (g.key:Int))) key part (gs++[g]):=by
 refine ⟨?_,fun x => ?_,fun x hx => ?_⟩
 .rw [map_append,nodup_append];refine ⟨h.nodup,by simp,?_⟩;intro a ha b hb;obtain ⟨g',hg',rfl⟩:=mem_map.1 ha;obtain rfl:b=g.key:=by simpa using hb
  intro e;have:=((h.mem (g'.key:Int)).1 ⟨g',hg',rfl⟩).2;rw [e,acF] at this;cases this
 .by_cases e:(g.key:Int)=x
  .subst e;constructor
   .intro _;exact ⟨yl,by simp [Lit.sameKey]⟩
   .intro _;exact ⟨g,mem_append_right _ mem_cons_self,rfl⟩
  .have hs:(Lit.int .i64 x).sameKey (.int .i64 (g.key:Int))=false:=sameKey_ne (fun hh=>e (by injection hh with _ hh;exact hh.symm));rw [hs,Bool.not_false,Bool.and_true,<-h.mem x];constructor
   .rintro ⟨g',hg',e'⟩;rcases mem_append.1 hg' with hg' | hg'
    .exact ⟨g',hg',e'⟩
    .rw [mem_singleton.1 hg'] at e';exact absurd e' e
   .rintro ⟨g',hg',e'⟩;exact ⟨g',mem_append_left _ hg',e'⟩
 .rcases mem_append.1 hx with hx | hx
  .exact h.each x hx
  .rw [mem_singleton.1 hx];exact hg
theorem vU.len {w0:World} {base:Nat} {D:DataW Unit} {left:Lit->Bool} {key:Nat->Nat} {part:LN} {gs:List Gr} (h:vU w0 base D left key part gs):gs.length<=200:=by
 have hp:(gs.map Gr.key).Perm ((range 200).filter fun k=>decide (k∈gs.map Gr.key)):=by
  refine (perm_ext_iff_of_nodup h.nodup (List.Pairwise.filter _ nodup_range)).2 fun k => ?_
  rw [mem_filter,mem_range,decide_eq_true_eq];constructor
  .intro hk;obtain ⟨g,hg,rfl⟩:=mem_map.1 hk;exact ⟨(h.each g hg).1,hk⟩
  .exact fun h=>h.2
 have h1:=hp.length_eq;rw [lM] at h1;have h2:=length_filter_le (fun k=>decide (k∈gs.map Gr.key)) (range 200);rw [length_range] at h2;omega
theorem vU.all {w0:World} {base:Nat} {D:DataW Unit} {left:Lit->Bool} {key:Nat->Nat} {part:LN} {gs:List Gr} (h:vU w0 base D left key part gs) (hD:uP D key part) (hl:∀kl,left kl=false) :
 ∀p:Nat×LN,p∈gs.map CS↔p.1<200/\p.2=ia key part p.1/\p.2≠[]:=by
 intro p;constructor
 .intro hp;obtain ⟨g,hg,rfl⟩:=mem_map.1 hp;obtain ⟨h1,h2,h3,_⟩:=h.each g hg;exact ⟨h1,h2,h3⟩
 .rintro ⟨h1,h2,h3⟩;have yl:Maps.has D (.int .i64 (p.1:Int))=true:=by
   rw [hD.has,ZQ,<-h2];simp [h3]
  obtain ⟨g,hg,e⟩:=(h.mem (p.1:Int)).2 ⟨yl,hl _⟩;have e':g.key=p.1:=by omega
  refine mem_map.2 ⟨g,hg,?_⟩;unfold CS;rw [(h.each g hg).2.1,e',<-h2]
theorem a6V {D:DataW Unit} {key:Nat->Nat} {part:LN} (hD:uP D key part) (ae:∀i∈part,key i<200) {w0:World} {base:Nat} {x:Int} {A:OA} {l c:Nat} {y:DataW Unit×List MemPlace}
 (hR:rowElem (H:=Unit) w0 base 3 .i64 (.slice A l c)=some y) (br:∀zd,D.atKey (.int .i64 x) zd=y.1) :
 ∃g:Gr,(g.key:Int)=x/\g.A=A/\g.part.length=l/\g.c=c/\Maps.has D (.int .i64 (g.key:Int))=true/\(g.key<200/\g.part=ia key part g.key/\g.part≠[]/\w0.ownsRow base 3 1 (.slice g.A g.part.length g.c) g.part.length (aP g.part)):=by
 obtain ⟨zs,ho,rfl⟩:=rowElem_inv hR;have jY:=hD.owned ho (br .nil);have yl:Maps.has D (.int .i64 x)=true:=has_true_of_atKey br;have av:uV key part x≠[]:=by
  intro h0;rw [hD.has,h0] at yl;cases yl
 obtain ⟨z,hz⟩:=exists_mem_of_ne_nil _ av;unfold uV at hz;obtain ⟨i,hi,_⟩:=mem_map.1 hz;obtain ⟨df,jd⟩:=mem_filter.1 hi;have hx:(key i:Int)=x:=by simpa using jd
 subst hx;rw [ZQ] at jY av;have hl:=a6' ho.1;obtain ⟨A',c',e⟩:=iq ho.1;injection e with e1 e2 e3
 have dR:(ia key part (key i)).length=l:=by rw [e2,jY,lM]
 refine ⟨⟨key i,A,ia key part (key i),c⟩,rfl,rfl,dR,rfl,yl,ae i df,rfl,fun h0=>av (by have h1:ia key part (key i)=[]:=h0;rw [h1];rfl),?_⟩;have h1:=ho.1;rw [jY,a7p,lM] at h1;dsimp only;rw [dR] at h1 ⊢;exact h1
theorem abo (gb:Nat) (Af Al Ap:OA) (fs:List Fa) (cf cl cp:Nat) (rs:List Rn) (po pm pe:Value) (at_ dm:Nat) (r:Rn) (lf:Fa) (part:LN) (key:Nat->Nat) (w:World)
 (kM:aa w gb 84 #[.slice Af fs.length cf,.slice Al rs.length cl,po,pm,pe]) (hk:J1 w Af fs Al rs at_ dm r lf part key) (hp:Row w w.heap.size Ap (aP part)) (av:part≠[]) (hn:part.length<=1000000) :
 Calls Tryz.prog 76 #[.pointer (some ⟨gb,0,none⟩),.int .i64 (at_:Nat),.int .i64 (dm:Nat),.slice Ap part.length cp] w (QT (eu key part) w):=by
 have rQ:=@run_makeMap Tryz.prog;obtain ⟨i0,cG,cI,cH,cJ⟩:=info_parts vV;obtain ⟨j0,DP,DQ,DR,DS⟩:=info_parts abG;have HQ:=kp (show ∀A c (gs:List Gr) w',gs.map CS=eu key part->w'.ownsRow w.heap.size 168 2 (.slice A gs.length c) gs.length (gs.flatMap gI)->(∀g∈gs,Row w' w'.heap.size g.A (aP g.part)/\kh w.heap.size g.A (aP g.part))->Below w.heap.size w w'->QT (eu key part) w (.returned (.slice A gs.length c)) w' from fun A c gs w' h1 h2 h3 h4=>⟨A,c,gs,rfl,h1,h2,h3,h4⟩);generalize hQ:QT (eu key part) w=Q at *;clear hQ;have Hk:=kp hk;have Hp:=kp hp;have BR:=kp kM;obtain ⟨bl,ol,hA,zl,l0⟩:=Row.at_ hk.lifts.row (k:=at_) (by rw [lM];exact (bS hk.aj).1);subst hA;rw [getElem_map,(bS hk.aj).2] at l0;have Ge:=hk.lifts.each r (mem_of_getElem? hk.aj);obtain ⟨bt,ot,hA,Nk,t0⟩:=Row.at_ Ge.row (k:=dm) (by rw [lM];exact (bS hk.dm).1);rw [getElem_map,(bS hk.dm).2] at t0;have To:=kp (Ge.each lf (mem_of_getElem? hk.dm));have br:=(bS hk.aj).1;have xV:=(bS hk.dm).1;have Tq:=hk.nr;have wo:=hk.nt;unfold kH at l0;unfold lg at t0;rw [hA] at l0;clear Ge hA hk hp kM;obtain ⟨nl,oF⟩:∃nl,lf.keys.length=nl:=⟨_,rfl⟩
 have zK:=kp oF;rw [oF] at t0;obtain ⟨n,hN⟩:∃n,part.length=n:=⟨_,rfl⟩
 have Hn:=kp hN;rw [hN] at hn ⊢;clear hN oF;obtain ⟨x0,x1,x2,x3,x4⟩:w.cell? ⟨gb,0,none⟩=some (.slice Af fs.length cf)/\w.cell? ⟨gb,1,none⟩=some (.slice (some ⟨bl,ol,none⟩) rs.length cl)/\True/\True/\True:=⟨BR.o.cell 0,BR.o.cell 1,trivial,trivial,trivial⟩
 have a0:(0:Int)<=(at_:Int):=by omega
 have a1:(at_:Int)<(rs.length:Int):=by omega
 have a2:(0:Int)<=(dm:Int):=by omega
 have a3:(dm:Int)<(r.fs.length:Int):=by omega
 go_enter Tryz.func76,Tryz.ntmps76;go_wp2_with fail;clear x0 x1 l0 t0
 go_loopw [30] (fun wA wr=>∃ (k:Nat) (D:DataW Unit),k<=n/\wA = .int .i64 k/\wr.ownsGroups Tryz.prog 3 (w.heap.size+1) 3 .i64 w.heap.size k D/\uP D key (part.take k)/\Below w.heap.size w wr/\w.heap.size+1<=wr.heap.size) (fun wA _=>n-(intOf wA).toNat)
 case atStart=>exact ⟨0,_,aZ _,rfl,World.ownsGroups_made _ _ _ _ _,uP.nil key,(aq _ _).alloc (ah _) _,by simp⟩
 case round =>
  obtain ⟨k,D,hk,rfl,aE,a2i,aC,Tr⟩:=hrel;have Ts:=kp a2i;have ai:=kp aC;clear a2i aC;by_cases ae:k<n
  .have aA:k<part.length:=by rw [Hn.o];exact ae
   obtain ⟨bp,op,hA,Tt,p0⟩:=Row.at_ ((Hp.o.below ai.o).more ai.o.size) (k:=k) (by rw [ke];exact aA);subst hA;unfold aP at p0;rw [getElem_map] at p0;have dw:=kp (show part.take (k+1)=part.take k++[part[k]'aA] from take_succ_eq_append_getElem aA);obtain ⟨f,q,z,hf,hq,hz,hkz,kT⟩:=Hk.o.key _ (gM aA);generalize (part[k]'aA)=i at *;have jF:=Hk.o.below ai.o;have Gf:=(bS hf).1;have hqf:=(bS hq).1;have hzf:=(bS hz).1;obtain ⟨bf,of,hA,yg,f0,_⟩:=jF.facts.cells i Gf;rw [(bS hf).2] at f0;have FN:=jF.facts.keys f (mem_of_getElem? hf);obtain ⟨bq,oq,hAq,hbq,q0⟩:=Row.at_ FN (k:=at_) (by rw [ke];exact hqf);unfold aP at q0;rw [getElem_map,(bS hq).2] at q0;obtain ⟨bz,oz,NO,ku,z0⟩:=Row.at_ ((To.o.below ai.o).more ai.o.size) (k:=q) (by rw [ke];exact hzf);unfold aP at z0;rw [getElem_map,(bS hz).2] at z0;rw [hAq] at f0;rw [NO];have y0:=(BR.o.under ai.o).cell 0;change wr.cell? ⟨gb,0,none⟩=some (.slice Af fs.length cf) at y0;rw [hA] at y0;have O5:=jF.nf;have zL:=jF.nk f (mem_of_getElem? hf);have aeQ:nl<=1000000:=by rw [<-zK.o];exact jF.nl
   rw [zK.o] at hzf;clear jF FN hf hq hz hAq NO hA;have Hkz:=kp hkz;clear hkz;have b0:(0:Int)<=(k:Int):=by omega
   have b1:(k:Int)<(n:Int):=by omega
   have b2:(0:Int)<=(i:Int):=by omega
   have b3:(i:Int)<(fs.length:Int):=by omega
   have b4:(at_:Int)<(f.keys.length:Int):=by omega
   have b5:(0:Int)<=(q:Int):=by omega
   have b6:(q:Int)<(nl:Int):=by omega
   have qU:=kp (keyOf_int_mk (P:=Tryz.prog) Tryz.underlying3 (show (Lit.int .i64 (z:Int)).wf=true from WalkArith.wf_i64 (by omega)));have Hkm:=kp (show k<maxLen by unfold maxLen;omega);have Hwi:=kp (show (Lit.int .i64 (i:Int)).wf=true from WalkArith.wf_i64 (by omega));go_upto_region 7 with fail
   go_wp2_with (first
    | (at_lookup;refine wpList_lookup_groups _ rfl (.tmp 50) (.tmp 51) 225 rfl 3 27 3 .i64 FE Tryz.underlying225 (a7w _) (w.heap.size+1) w.heap.size k D rfl aE Hkm.o (.int .i64 (z:Int)) (.int .i64 (z:Int)) rfl qU.o ?_;intro v zs nC Kr FI Tm)
    | (at_builtin;refine wpList_append_own_at _ rfl (.tmp 52) (.tmp 54) 27 rfl (w.heap.size+1) 3 i0 (.int .i64 0) 1 8 Tryz.underlying27 cG cI cH cJ rfl (by decide) v zs.length (zs.map (Value.int .i64)) rfl (Kr.1.alloc _) ⟨wr.heap.size,0,none⟩ 1 1 [.int .i64 (i:Int)] rfl rfl (cell_one_new _ _ _) (ints_oneCell .i64 [(i:Int)]) (by unfold maxLen;omega) (by omega) (by simp;omega) ?_;intro v' w1 jZ vf FR Gg)
    | (at_mapUpdate;refine wpList_mapUpdate_back _ rfl (.tmp 48) (.tmp 49) (.tmp 55) 225 rfl Tm rfl rfl rfl ((World.grownBy_alloc _ _ _).trans vf) (Kr.appended jZ Hwi.o) (by simp;omega) (Gg.imp id (fun h=>⟨_,h,by simp⟩)) ?_;intro w2 gz a2j))
   have jY:=Ts.o.owned Kr nC;have fv:=Kr.appended jZ Hwi.o;have eY:=(World.grownBy_alloc wr _ _).trans vf;refine ⟨⟨k+1,D.put (.int .i64 (z:Int)) (rowDatum .i64 v' (zs++[(i:Int)])),by omega,by go_num,gz,?_,ai.o.groups Kr eY a2j ai.o.size (Nat.le_succ _) (ah _),aT Tr (aT eY.size a2j.size)⟩,by simp [intOf];omega⟩;have FU:=Ts.o.put i;rw [Hkz.o,<-jY,a6J fv (by simp)] at FU;rw [dw.o];exact FU
  .obtain rfl:k=n:=by omega
   have a2k:=kp (show uP D key part by have:=Ts.o;rw [take_of_length_le (by rw [Hn.o];exact ah _)] at this;exact this);obtain ⟨es,cl0,g1,g2,g3,g4,g5,g6,g7⟩:=aE;have a2l:wr.ownsMap Tryz.prog 3 (rowElem (H:=Unit) wr (w.heap.size+1) 3 .i64) w.heap.size k D:=⟨es,cl0,g1,g2,g3,g4⟩
   have Tf:=kp (show ∀v zs,rowElem (H:=Unit) wr (w.heap.size+1) 3 .i64 v=some (rowDatum .i64 v zs,rowPlaces v)->True from fun _ _ _=>trivial);clear g1 g2 g3 g4 g5 g6 g7
   go_wp2_with (at_range;refine wpList_range_own _ rfl (.tmp 57) 225 rfl 3 27 FE Tryz.underlying225 _ w.heap.size k D rfl a2l ?_;intro w0 acG hg0 mY)
   go_frame
   have acH:=kp (show Below wr.heap.size wr w0 from (aq _ _).grown hg0 (ah _) (fun j hj=>by cases hj));have Ng:=kp (show wr.heap.size<w0.heap.size by omega);obtain ⟨WR,rfl⟩:∃WR,WR=wr:=⟨_,rfl⟩
   have a2m:=kp (show ∀i∈part,key i<200 from fun i hi=>by obtain ⟨f,q,z,_,_,_,e1,e2⟩:=Hk.o.key i hi;omega);have Hws:=kp Tr;clear a2l hg0 mY Tf Tr
   go_loopw [14] (fun rW w5=>∃ (left:Lit->Bool) (Tu:Nat) (gs:List Gr) (A:OA) (c:Nat),rW = .slice A gs.length c/\w5.ranges Tryz.prog 3 (rowElem (H:=Unit) WR (w.heap.size+1) 3 .i64) w.heap.size WR.heap.size k D left Tu/\w5.ownsRow (WR.heap.size+1) 168 2 (.slice A gs.length c) gs.length (gs.flatMap gI)/\vU WR (w.heap.size+1) D left key part gs/\Below WR.heap.size WR w5/\WR.heap.size<w5.heap.size) (fun _ w5=>w5.rangeLeft w.heap.size WR.heap.size)
   case atStart=>exact ⟨_,_,[],none,0,rfl,acG,gL _ _ _ _,vU.start _ _ _ _ _,acH.o,Ng.o⟩
   case round =>
    obtain ⟨left,Tu,gs,A,c,rfl,ya,lB,a2n,cV,Ks⟩:=hrel;have ph:=kp lB;have Kt:=kp a2n;have bZ:=kp cV;have O6:=kp Ks;clear lB a2n cV Ks;have qR:=Kt.o.len;obtain ⟨m,hm⟩:∃m,gs.length=m:=⟨_,rfl⟩
    have Hm:=kp hm;rw [hm] at ph qR ⊢;clear hm
    go_wp2_with (at_next;refine wpList_next_ranges _ rfl (.tmp 58) rfl 3 FE (rowElem (H:=Unit) WR (w.heap.size+1) 3 .i64) (Value.int .i64) (fun p:OA×Nat×Nat=>Value.slice p.1 p.2.1 p.2.2) (fun key kl hk=>by obtain ⟨x,hx,_⟩:=Maps.keyOf_int_inv Tryz.underlying3 hk;exact ⟨x,hx⟩) (fun v y hv=>by obtain ⟨zs,ho,_⟩:=rowElem_inv hv;obtain ⟨A',c',e⟩:=iq ho.1;exact ⟨(A',zs.length,c'),e⟩) w.heap.size WR.heap.size k D left Tu rfl ya ?_ ?_)
    .intro O7 sL;have qX:=kp (Kt.o.all a2k.o sL);have ym:=kp (show ((gs.map CS).map Prod.fst).Nodup by rw [map_map];exact Kt.o.nodup);have zf:m≠0:=by
      intro h0;have h1:gs=[]:=length_eq_zero_iff.1 (Hm.o.trans h0);obtain ⟨i,hi⟩:=exists_mem_of_ne_nil _ av;have h2:ia key part (key i)≠[]:=by
       intro h2;have:i∈ia key part (key i):=mem_filter.2 ⟨hi,by simp⟩;rw [h2] at this;cases this
      have:=(qX.o (key i,ia key part (key i))).2 ⟨a2m.o i hi,rfl,h2⟩;rw [h1] at this;cases this
     obtain ⟨g,hgA,hgB⟩:∃g,A=some ⟨g,0,none⟩/\WR.heap.size+1<=g:=by
      rcases ph.o.2 with ⟨_,h0⟩ | ⟨g,cap,cur,hv,hB,_⟩
      .exact absurd h0 zf
      .injection hv with hv _ _
       exact ⟨g,hv,hB⟩
     subst hgA;have HS:=kp (a9u g c (WR.heap.size+1) gs wr (by rw [Hm.o];omega) (by rw [Hm.o];exact ph.o));rw [Hm.o] at HS
     have HF:=kp (show ∀ (uq:List Gr) w',uq.Perm gs->uq.Pairwise (fun a b=>a.key<=b.key)->w'.ownsRow (WR.heap.size+1) 168 2 (.slice (some ⟨g,0,none⟩) m c) m (uq.flatMap gI)->bK (fun k=>k=g) wr w'->Q (.returned (.slice (some ⟨g,0,none⟩) m c)) w' from fun uq w' hp hs ho ht=>by
      have hl:uq.length=m:=by rw [hp.length_eq];exact Hm.o
      have hbw:Below WR.heap.size wr w':=ht.toBelow (fun k hk=>by omega) (Nat.le_of_lt O6.o);have h3:∀g∈uq,Row w' w'.heap.size g.A (aP g.part)/\kh w.heap.size g.A (aP g.part):=fun x hx=>by
       have h4:=(Kt.o.each x (hp.mem_iff.1 hx)).2.2.2;refine ⟨((gV h4).below (bZ.o.trans hbw)).more (aT bZ.o.size ht.size),kh.own h4 (Nat.le_succ _)⟩
      have:=HQ.o (some ⟨g,0,none⟩) c uq w' (aaQ ((hp.map CS).map Prod.fst |>.nodup_iff.2 ym.o) (pairwise_map.2 hs) (fun p=>((hp.map CS).mem_iff).trans (qX.o p))) (by rw [hl];exact nX ho (by have:=ai.o.size;omega)) h3 ((ai.o.trans (bZ.o.mono ai.o.size)).trans (hbw.mono ai.o.size));rw [hl] at this
      exact this)
     clear ya;go_wp2_with fail;refine HS.o.mono ?_;rintro e w9 ⟨rfl,uq,hp,hs,ho,ht⟩;have bN:=kp (HF.o uq w9 hp hs (by rw [Hm.o] at ho;exact ho) ht);clear hp hs ho ht;go_wp2_with fail;exact bN.o
    .intro x pA pl pc kl yd yp w6 acI wU ko hR br a2o a2p Tv Ku hen;obtain ⟨x',hx',aA,Kv⟩:=Maps.keyOf_int_inv Tryz.underlying3 wU;injection hx' with _ hx'
     subst hx' aA;obtain ⟨g,rfl,rfl,rfl,rfl,yl,DH⟩:=a6V a2k.o a2m.o hR br;have acJ:=kp (Kt.o.step yl ko DH);have eI:=kp (show Below WR.heap.size WR w6 from bZ.o.grown Tv bZ.o.size (fun j hj=>by cases hj;exact ah _))
     have Tx:=kp (show w6.ownsRow (WR.heap.size+1) 168 2 (.slice A m c) m (gs.flatMap gI) from ph.o.kept Tv (by
      rcases ho:(Value.slice A m c).ownBlock with _ | j
      .exact .inl rfl
      .refine .inr fun e => ?_
       have h1:=(ph.o.lt j ho).1;injection e with e
       omega))
     have Hr6:=kp (show WR.heap.size+1<=w6.heap.size by rw [Ku];exact O6.o);have acK:=kp ya.left_eq;have acL:=kp a2p;have acM:=kp a2o;have cz:m+1<1048576*64:=by omega
     clear wU ko hR br yl DH ya a2o a2p Tv Ku Kv
     go_wp2_with (at_builtin;refine vG rfl (.tmp 64) (.tmp 68) 165 rfl (WR.heap.size+1) 168 j0 _ 2 32 Tryz.underlying165 DP DQ DR DS rfl (by decide) w6 (yI g) rfl (a9W g) (.slice A m c) m (gs.flatMap gI) rfl Tx.o rfl cz (by decide) Hr6.o ?_;intro v7 w7 ur Kw;obtain ⟨A7,c7,h7⟩:=eM ur;subst h7;have DT:=kp ur;have Ty:=kp Kw;clear ur Kw)
     have eG:∀j,j<=WR.heap.size->some j≠(Value.slice A m c).ownBlock:=fun j hj e=>by
      have:=(Tx.o.lt j e.symm).1;omega
     have a2q:=acM.o.kept Ty.o.grown (eG _ (by have:=Hws.o;omega)) (eG _ (ah _));have hl:(gs++[g]).length=m+1:=by rw [aS,Hm.o];rfl
     refine ⟨⟨_,acI,gs++[g],A7,c7,by rw [hl],a2q,?_,acJ.o,?_,?_⟩,?_⟩
     .rw [hl,flatMap_append];exact DT.o
     .exact eI.o.grown Ty.o.grown eI.o.size (fun j hj=>by have:=(Tx.o.lt j hj).1;omega)
     .have h1:=Ty.o.grown.size;have h2:=Hr6.o;omega
     .rw [a2q.left_eq,acK.o];exact acL.o
end Go.Proofs.YtjopcamkclndlaaGreat.Tc
namespace Go.Proofs.YtjopcamkclndlaaGreat.Tc
open List Go.RowKit Base
def mS (ps:List (LN×Ag)) (i:Nat):Ag:=((ps[i]?).getD ([],aO)).2
def gq:Ag->List Ag->Option Ag
 | o,[]=>some o
 | o,a::l=>(bY o a).bind fun j=>gq j l
def tG (ps:List (LN×Ag)) (part:LN):Option Ag:=gq aO (part.map (mS ps))
theorem Qg {fs:List Fa} {i:Nat} {f:Fa} (h:fs[i]? = some f):mS (aG fs) i=f.ag:=by
 unfold mS aG;rw [getElem?_map,h];rfl
def Re (a:Ag) (w:World) (e:Ending) (w':World):Prop:=e = .returned (.agg (bj a))/\Below w.heap.size w w'
theorem ZX:∀ (l:List Ag) (o r:Ag),eX o->(∀a∈l,eX a)->gq o l=some r->eX r
 | [],o,r,ho,_,h=>by injection h with h;rw [<-h];exact ho
 | a::l,o,r,ho,ha,h=>by
  unfold gq at h;rcases hj:bY o a with _ | j
  .rw [hj] at h;cases h
  .rw [hj] at h;exact ZX l j r (Mu ho (ha a mem_cons_self) hj) (fun x hx=>ha x (mem_cons_of_mem _ hx)) h
theorem Fe:eX aO:=by
 unfold eX aO fit;refine ⟨?_,?_,?_,?_,?_,?_,?_,?_,?_,?_⟩<;>(dsimp only;omega)
theorem a5u (gb:Nat) (Af Ap:OA) (fs:List Fa) (cf cp:Nat) (l1 po pm pe:Value) (part:LN) (w:World)
 (kM:aa w gb 84 #[.slice Af fs.length cf,l1,po,pm,pe]) (hf:dG w w.heap.size Af fs) (hp:Row w w.heap.size Ap (aP part)) (hn:part.length<=1000000) (O5:fs.length<=1000000) (lh:∀i∈part,i<fs.length) (zB:∀f∈fs,eX f.ag) (r:Ag) (hr:tG (aG fs) part=some r) :
 Calls Tryz.prog 122 #[.pointer (some ⟨gb,0,none⟩),.slice Ap part.length cp] w (Re r w):=by
 have HJ:=kp QX;have HQ:=kp (show ∀w',Below w.heap.size w w'->Re r w (.returned (.agg (bj r))) w' from fun w' h=>⟨rfl,h⟩);generalize hQ:Re r w=Q at *;clear hQ;have Hf:=kp hf;have Hp:=kp hp;have BR:=kp kM;have Bk:=kp lh;have BK:=kp zB;have Hr:=kp (show gq aO (part.map (mS (aG fs)))=some r from hr);clear hf hp kM lh zB hr;obtain ⟨n,hN⟩:∃n,part.length=n:=⟨_,rfl⟩
 have Hn:=kp hN;rw [hN] at hn ⊢;clear hN;have bL:=kp ((aa.new w 54 (bj aO)).alloc (.cells (bj aO) 54));have aV:=kp (aa.lay (w:=w.alloc (.cells (bj aO) 54)) (g:=w.heap.size+1) (t:=54) (cs:=bj aO) (by simp));have ay:=kp (((aq _ w).alloc (ah w.heap.size) (.cells (bj aO) 54)).alloc (by simp) (.cells (bj aO) 54));go_enter Tryz.func122,Tryz.ntmps122;go_wp2_with fail
 go_loopw [6,12] (fun v6 kq wr=>∃ (k:Nat) (o:Ag),k<=n/\kq = .int .i64 k/\v6 = .bool true/\aa wr w.heap.size 54 (bj aO)/\aa wr (w.heap.size+1) 54 (bj o)/\eX o/\gq o ((part.drop k).map (mS (aG fs)))=some r/\Below w.heap.size w wr) (fun _ kq _=>n-(intOf kq).toNat)
 case atStart=>exact ⟨0,aO,aZ _,rfl,rfl,bL.o,aV.o,Fe,Hr.o,ay.o⟩
 case round =>
  obtain ⟨k,o,hk,rfl,rfl,ax,aH,ho,hj,aC⟩:=hrel;have aM:=kp ax;have aF:=kp aH;have Ho:=kp ho;have Hj:=kp hj;have ai:=kp aC;clear ax aH ho hj aC bL aV ay;by_cases ae:k<n
  .have aA:k<part.length:=by rw [Hn.o];exact ae
   obtain ⟨bp,op,hA,Tt,p0⟩:=Row.at_ ((Hp.o.below ai.o).more ai.o.size) (k:=k) (by rw [ke];exact aA);subst hA;unfold aP at p0;rw [getElem_map] at p0;have Ka:=kp (show (part.drop k).map (mS (aG fs))=mS (aG fs) (part[k]'aA)::(part.drop (k+1)).map (mS (aG fs)) by rw [drop_eq_getElem_cons aA];rfl);have Gf:=Bk.o _ (gM aA);generalize (part[k]'aA)=i at *;have ie:=(Hf.o.below ai.o).more ai.o.size;obtain ⟨b,off,hA,hb,c0,c1,c2,c3,c4,c5,c6,c7,c8,c9,iw⟩:=ie.cells i Gf;have wK:=kp (BK.o _ (gM Gf));have Haf:=kp (Qg (gE Gf));generalize (fs[i]'Gf)=f at *;have y0:=(BR.o.under ai.o).cell 0;change wr.cell? ⟨gb,0,none⟩=some (.slice Af fs.length cf) at y0;rw [hA] at y0;have jB:gb<wr.heap.size:=(BR.o.under ai.o).lt;obtain ⟨j,O8⟩:∃j,bY o f.ag=some j:=by
    have:=Hj.o;rw [Ka.o,gq,Haf.o] at this;rcases h:bY o f.ag with _ | j
    .rw [h] at this;cases this
    .exact ⟨j,rfl⟩
   have Hjn:=kp (show gq j ((part.drop (k+1)).map (mS (aG fs)))=some r by
    have:=Hj.o;rw [Ka.o,gq,Haf.o,O8] at this
    exact this)
   have NV:=kp (Mu Ho.o wK.o O8);have DC:=kp (fun w=>HJ.o o f.ag w Ho.o wK.o);unfold N2 at DC;rw [O8] at DC;simp only [Option.getD_some,Option.isSome_some] at DC;obtain ⟨⟨a0,a1,a2,a3,a4,a5,a6,a7,a8,a9⟩,fD⟩:=aa.eS aF.o;have j':w.heap.size+1<wr.heap.size:=aF.o.lt;have b0:(0:Int)<=(k:Int):=by omega
   have b1:(k:Int)<(n:Int):=by omega
   have b2:(0:Int)<=(i:Int):=by omega
   have b3:(i:Int)<(fs.length:Int):=by omega
   clear ie O8 hA;go_upto_region 5 with fail
   refine wp_region_noPanic ?_;refine IX (t:=13) (S:=(fun w'=>(oQ w' (w.heap.size+1) o)/\w'.cell? ⟨gb,0,none⟩=some (.slice (some ⟨b,off,none⟩) fs.length cf)/\(w'.cell? ⟨b,off+i*11+1,none⟩=some (.int .i64 f.ag.c)/\w'.cell? ⟨b,off+i*11+2,none⟩=some (.int .i64 f.ag.s0)/\w'.cell? ⟨b,off+i*11+3,none⟩=some (.int .i64 f.ag.n0)/\w'.cell? ⟨b,off+i*11+4,none⟩=some (.int .i64 f.ag.x0)/\w'.cell? ⟨b,off+i*11+5,none⟩=some (.int .i64 f.ag.s1)/\w'.cell? ⟨b,off+i*11+6,none⟩=some (.int .i64 f.ag.n1)/\w'.cell? ⟨b,off+i*11+7,none⟩=some (.int .i64 f.ag.x1)/\w'.cell? ⟨b,off+i*11+8,none⟩=some (.int .i64 f.ag.s2)/\w'.cell? ⟨b,off+i*11+9,none⟩=some (.int .i64 f.ag.n2)/\w'.cell? ⟨b,off+i*11+10,none⟩=some (.int .i64 f.ag.x2)))) (by kernel_rfl) ⟨⟨a0,a1,a2,a3,a4,a5,a6,a7,a8,a9⟩,y0,c1,c2,c3,c4,c5,c6,c7,c8,c9,iw⟩ (fun ad => ?_);refine tu 0 ad ?_;refine tu 1 ad ?_;refine tu 2 ad ?_;refine tu 3 ad ?_;refine tu 4 ad ?_;refine tu 5 ad ?_;refine tu 6 ad ?_;refine tu 7 ad ?_;refine tu 8 ad ?_;refine oU 9 fun K hK=>?_
   go_simp
   refine (DC.o wr.drew).mono ?_;rintro e wc ⟨rfl,cU⟩;have bh:=kp (show Below wr.heap.size wr wc from (aq _ _).drew.trans cU);clear cU;refine oK hK ?_ fun af=>?_
   .exact ⟨⟨aL bh.o a0,aL bh.o a1,aL bh.o a2,aL bh.o a3,aL bh.o a4,aL bh.o a5,aL bh.o a6,aL bh.o a7,aL bh.o a8,aL bh.o a9⟩,aL bh.o y0,aL bh.o c1,aL bh.o c2,aL bh.o c3,aL bh.o c4,aL bh.o c5,aL bh.o c6,aL bh.o c7,aL bh.o c8,aL bh.o c9,aL bh.o iw⟩
   replace ad:=af;clear hK K af;refine tu 10 ad ?_;refine tu 11 ad ?_;refine aa' (i:=12) (oi := ?op12) (v := ?vp12) ?ap12 (by kernel_rfl) (by kernel_rfl) (by kernel_rfl) (by kernel_rfl) (fun _ _ _ h=>h) ?bp12 ad ?cp12
   case ap12=>(simp only [getElem?_toArray,getElem?_cons_succ,getElem?_cons_zero];exact rfl)
   case bp12=>(refine Or.inl ⟨by rfl,?_⟩;intro w _;go_simp;try exact rfl)
   try simp only [Act.put,setIfInBounds_toArray,set_cons_zero,set_cons_succ]
   have a2r:=kp (aF.o.under bh.o);have acN:=kp (aM.o.under bh.o);have iI:=kp (ai.o.trans (bh.o.mono ai.o.size));clear a0 a1 a2 a3 a4 a5 a6 a7 a8 a9 fD;obtain ⟨⟨a0,a1,a2,a3,a4,a5,a6,a7,a8,a9⟩,fD⟩:=aa.eS a2r.o;refine Y8 (o := ?op13) (by kernel_rfl) ?ap13 (by kernel_rfl) (fun K hK => ?bp13)
   case ap13=>(simp only [getElem?_toArray,getElem?_cons_succ,getElem?_cons_zero];exact rfl)
   go_simp
   refine hK.out _ _ ?_;clear hK K ad
   try simp only [Act.put,setIfInBounds_toArray,set_cons_zero,set_cons_succ]
   refine aaD (i:=14) (oi := ?op14) (v := ?vp14) ?ap14 (by kernel_rfl) (by kernel_rfl) (by kernel_rfl) (by kernel_rfl) (fun _ _ _ h=>h) ?bp14 ?cp14
   case ap14=>(simp only [getElem?_toArray,getElem?_cons_succ,getElem?_cons_zero];exact rfl)
   case bp14=>(refine Or.inl ⟨by rfl,?_⟩;intro w _;go_simp;try exact rfl)
   try simp only [Act.put,setIfInBounds_toArray,set_cons_zero,set_cons_succ]
   refine Z0 (by kernel_rfl) ?_ _
   try clear ad
   refine NoPanic.normal ?_;obtain ⟨Wf,bW⟩:∃Wf,aK wc (w.heap.size+1) 0 [.int .i64 j.c,.int .i64 j.s0,.int .i64 j.n0,.int .i64 j.x0,.int .i64 j.s1,.int .i64 j.n1,.int .i64 j.x1,.int .i64 j.s2,.int .i64 j.n2,.int .i64 j.x2]=Wf:=⟨_,rfl⟩
   have qx:=kp (show Below w.heap.size w Wf by rw [<-bW];exact eU (by omega) _ _ _ iI.o);have dW:=kp (show aa Wf (w.heap.size+1) 54 (bj j) by rw [<-bW];exact eO a2r.o _ rfl);have acO:=kp (show aa Wf w.heap.size 54 (bj aO) by rw [<-bW];exact (gu (by omega) _ _ _).trans acN.o);simp only [aK,Nat.zero_add,Nat.reduceAdd] at bW;rw [bW];clear bW a0 a1 a2 a3 a4 a5 a6 a7 a8 a9 fD;go_wp2_with fail;exact ⟨⟨k+1,j,by omega,by go_num,rfl,acO.o,dW.o,NV.o,Hjn.o,qx.o⟩,by simp [intOf];omega⟩
  .obtain rfl:k=n:=by omega
   have K6:o=r:=by
    have:=Hj.o;rw [drop_of_length_le (by rw [Hn.o];exact ah _)] at this;injection this
   subst K6;obtain ⟨⟨a0,a1,a2,a3,a4,a5,a6,a7,a8,a9⟩,_⟩:=aa.eS aF.o;obtain ⟨⟨z0,z1,z2,z3,z4,z5,z6,z7,z8,z9⟩,fD⟩:=aa.eS aM.o;obtain ⟨Wf,bW⟩:∃Wf,aK wr w.heap.size 0 [.int .i64 o.c,.int .i64 o.s0,.int .i64 o.n0,.int .i64 o.x0,.int .i64 o.s1,.int .i64 o.n1,.int .i64 o.x1,.int .i64 o.s2,.int .i64 o.n2,.int .i64 o.x2]=Wf:=⟨_,rfl⟩
   have qx:=kp (show Below w.heap.size w Wf by rw [<-bW];exact eU (by omega) _ _ _ ai.o);have dW:=kp (show aa Wf w.heap.size 54 (bj o) by rw [<-bW];exact eO aM.o _ rfl);simp only [aK,Nat.zero_add,Nat.reduceAdd] at bW;have bN:=kp (HQ.o _ qx.o);go_wp2_with fail;clear z0 z1 z2 z3 z4 z5 z6 z7 z8 z9;obtain ⟨⟨z0,z1,z2,z3,z4,z5,z6,z7,z8,z9⟩,_⟩:=aa.eS dW.o;refine bodyPost_ret (v := .agg (bj o)) (by simp [results,Tryz.results122,go_sem,z0,z1,z2,z3,z4,z5,z6,z7,z8,z9]) rfl bN.o
end Go.Proofs.YtjopcamkclndlaaGreat.Tc
