/- Parts. -/
import Derived.Test.YtibjlpkpljnicaaGreatDoorR13
import Derived.Test.YtibjlpkpljnicaaGreatDoorR14
import Derived.Test.YtibjlpkpljnicaaGreatDoorR15
set_option maxRecDepth 100000
set_option maxHeartbeats 8000000
set_option linter.all false
namespace Go.Proofs.YtibjlpkpljnicaaGreatDoor
namespace Tc
open List Go.RowKit Base Go.Shelf Go.Proofs.Tryz
def mL(cs:List Cl)(w:World)(e:Ending)(w':World):Prop:=∃v,e = .returned v/\w'.ownsRow w.heap.size 155 12 v cs.length (cs.flatMap ch)/\E w w'
def GR{w:World}{g cap e}(c:cap<=maxLen) cs(b:cs.size=cap*12)(d:w.heap[g]? = some (.cells cs e (0,0))) B(f:B<=g):w.ownsRow B e 12 (U (some ⟨g,0,none⟩) 0 cap) 0 []:=
 ⟨s_,.inr ⟨g,_,_,rfl,f,d,o_,c,b,s_⟩⟩
def GY{ls:List Ll}{k}(hk:k<ls.length):(ls.take (k+1)).flatMap Ll.cs=(ls.take k).flatMap Ll.cs++ls[k].cs:=by
 rw[take_succ_eq_append_getElem hk,flatMap_append];simp
def sS(ls:List Ll):(ls.flatMap Ll.cs).length=(ls.map λl=>l.cs.length).sum:=by
 simp
def Fy z n:(Builtin.zeroCells z n).size=n*z.size:=by
 unfold Builtin.zeroCells;simp
def Ju s w(q:s<=1000000):Calls prog 261 #[Z,N s] w λe w'=>∃v,e = .returned v/\w'.ownsRow w.heap.size 155 12 v 0 []/\E w w':=by
 obtain⟨n,b,g,d,c⟩:=info_parts o6;by_cases h0:s=0
 .subst h0;have h:=Any8.slices_Grow_room Tryz.By none 0 0 0 w o_ o_ o_ o_;exact h.mono λe w'⟨h1,h2⟩=>⟨_,h1,cK _ _ _ _,h2▸bR⟩
 .have h:=Any8.slices_Grow_grow Tryz.By n _ b g o_ none 0 0 s [] w o_ o_ r_ o_ s_ (λ_=>rfl) (λa h=>o_);refine h.mono λe w'⟨h1,h2⟩=>⟨_,h1,?_,?_⟩
  .rw[h2];have m:=grownCap_ge w (0+s) 0 (Tryz.tv.t 25);have f:=grownCap_le_maxLen w (0+s) 0 (Tryz.tv.t 25) (by unfold maxLen;omega);generalize grownCap w _ 0 _=G at*;refine GR f _ ?_ (heap_alloc_new _ _) _ o_;rw[Array.size_append,Array.size_append,Fy,Fy];have p:(Value.agg zC).cells.size=12:=rfl;grind
  .rw[h2];exact bR.drew.alloc o_ _
def Ir A c(ls:List Ll) w(L:Row w w.heap.size A (ls.map dq))(he:∀l∈ls,Row w w.heap.size l.A (l.cs.flatMap ch))(hn:ls.length<=4)(hl:∀l∈ls,l.cs.length<=1000) :
 Calls prog 195 #[U A ls.length c] w (mL (ls.flatMap Ll.cs) w):=by
 obtain⟨i0,a1,a9,b0,a2⟩:=info_parts o6;have z:=J (count_le hl);have HQ:Kp (∀v w',w'.ownsRow w.heap.size 155 12 v (ls.flatMap Ll.cs).length ((ls.flatMap Ll.cs).flatMap ch)->E w _->mL _ w _ w'):=λv w' h1 h2=>⟨v,rfl,h1,h2⟩;generalize u:mL _ w=Q at*;obtain⟨T,H⟩:=e_ ls.length;have B:=J H;rw[H]at hn⊢;go_in;go_wp2;go_loop [3,11] (λu G=>∃(k s:Nat),k<=T/\G = I k/\u = I s/\s=((ls.take k).map λl=>l.cs.length).sum) (λ_ G=>T-(intOf G).toNat)
 case atStart=>exact⟨0,0,o_,rfl,rfl,s_⟩
 .obtain⟨k,s,hk,rfl,rfl,(y:Kp _)⟩:=hrel;by_cases u:k<T
  .have n:k<ls.length:=o_
   obtain⟨b,off,G,V,c0⟩:=Row.at_ (J L) (by rw[lM];exact n);rw[getElem_map]at c0;have u:=J (AT n);have D:s<=5000:=by have h1:=z k;have h2:=y.o;omega
   have D:(ls[k]'n).cs.length<=5000:=r_
   unfold dq at c0;generalize(ls[k]'n).cs.length=q at*;generalize(ls[k]'n).A=lA at*;generalize(ls[k]'n).c=lc at*;have Z:0<=(k:Int):=o_;have a6:k<(T:Int):=o_;have Y:¬(s+(q:Int))<0:=o_;subst G;go_wp2;exact⟨⟨k+1,_,o_,o_,o_,by rw[u,y]⟩,o_⟩
  .obtain rfl:k=T:=o_;have D:s<=5000:=by have h1:=z k;have h2:=y.o;omega
   have y:=J (Ju s w o_);go_wp2_with fail;apply y.mono;rintro e y⟨y,rfl,y,O⟩;obtain⟨A1,c1,rfl⟩:=cI y;go_wp2;go_loopw [6,27] (λM D wr=>∃(j:Nat)(A2:OA)(c2:Nat),j<=k/\D = I j/\M = U A2 ((ls.take j).flatMap Ll.cs).length c2/\wr.ownsRow w.heap.size 155 12 (U A2 ((ls.take j).flatMap Ll.cs).length c2) ((ls.take j).flatMap Ll.cs).length (((ls.take j).flatMap Ll.cs).flatMap ch)/\E w wr) (λ_ D _=>k-(intOf D).toNat)
   case atStart=>exact⟨0,_,_,o_,rfl,rfl,(J y),(J O)⟩
   .obtain⟨j,A2,c2,y,rfl,rfl,p,C⟩:=hrel;have g:=J p;have f:=J C;clear p C;by_cases y:j<k
    .have d:j<ls.length:=o_
     obtain⟨b,off,G,V,c0⟩:=Row.at_ (((J L).below f).more f.size) (by rw[lM];exact d);rw[getElem_map]at c0;have u:=J (GY d);have M:=J ((((J he) _ (gM d)).below f));have D:((ls.take j).flatMap Ll.cs).length<=5000:=by have h1:=z j;rw[sS];omega
     have y:=(J hl) _ (gM d);have R:=J (iX mr (ls[j]'d).cs);have O:=J (wQ (ls[j]'d).cs);unfold dq at c0;generalize z:(ls[j]'d).cs=cs at*;generalize(ls[j]'d).A=lA at*;generalize(ls[j]'d).c=lc at*;generalize z:(ls.take j).flatMap _=pre at*;obtain⟨q,W⟩:=e_ cs.length;rw[W]at c0 y R;obtain⟨r,L⟩:=e_ pre.length;have V:=J L;rw[L]at D g⊢;have Z:0<=(j:Int):=o_;have a6:j<(k:Int):=o_;have Z:r+q<1048576*64:=o_;have N:=J f.size;subst G;go_wp2_with(at_builtin;apply nL rfl _ _ _ rfl _ 155 _ _ _ _ underlying223 a1 a9 b0 a2 rfl d_ _ (U _ r _) r _ rfl g _ q _ _ _ rfl R M O Z d_ N;intro y y m x;obtain⟨D,y,z⟩:=cI m;subst z;have F:=J m;have X:=J (x.ew f g o_ N);clear m x);refine⟨⟨j+1,D,y,o_,o_,?_,?_,X⟩,o_⟩
     .rw[u,aE,V,W]
     .rw[u,aE,V,W,flatMap_append];exact F
    .obtain rfl:j=k:=o_;have u:=J (HQ _ _ (by have:=g.o;rw[take_of_length_le o_]at this;omega) f);rw[take_of_length_le o_];go_wp2;exact u
def x9 n w(B:du w w.heap.size n)(R:n.ls.length<=4)(G:∀l∈n.ls,l.cs.length<=1000) :
 Calls prog 119 #[.agg (aZ n)] w (mL (n.ls.flatMap Ll.cs++[n.all]) w):=by
 obtain⟨aj,F,ls,I,x⟩:=n;obtain⟨u,O,N,V,T⟩:=info_parts o6;dsimp only[aZ];dsimp only at R G;have p:=(ah _ w).alloc (ae _) (.cells (aZ ⟨aj,F,ls,I,x⟩) 157);have f:=J (aa.new w 157 (aZ ⟨aj,F,ls,I,x⟩));have s:=(B.below p).more p.size;have z:=J (show(ls.flatMap _).length<=5000 by have h1:=count_le G ls.length;rw[take_of_length_le o_]at h1;rw[sS];omega);have H:=J (Ir F I ls _ s.row s.each R G);have m:=J p;have Y:Kp (∀v w',w'.ownsRow w.heap.size 155 12 v ((ls.flatMap Ll.cs).length+1) ((ls.flatMap Ll.cs).flatMap ch++(bH x).toList)->E w _->mL (ls.flatMap Ll.cs++[x]) w _ w'):=λv w' h1 h2=>⟨v,rfl,r_,h2⟩;clear B G s p;generalize y:mL _ w=Q at*;clear y;generalize C:ls.flatMap _=pre at*;clear C;obtain⟨y,A⟩:=e_ ls.length;dsimp only[aZ]at f H m;rw[A]at R f H m⊢;clear A;have Z:=(aa.bK f).1;go_in;go_wp2_with fail;apply H.mono;rintro e L⟨y,rfl,b,q⟩;obtain⟨A1,c1,rfl⟩:=cI b;have D:=ay m q;have c:=J (dZ b m.size);have M:=bu f q;clear b q Z H f m;have Z:=(aa.bK M).1;have X:=z.o;obtain⟨r,B⟩:=e_ pre.length;rw[B]at X c Y⊢;clear B;have W:r+1<1048576*64:=o_;have y:=J D.size;go_wp2_with(at_builtin;apply je rfl _ _ _ rfl _ 155 u _ _ _ underlying223 O N V T rfl d_ L _ rfl (sW x) (U _ r _) r _ rfl c rfl W d_ y;intro u u d g;obtain⟨u,u,u⟩:=cI d;subst u;have u:=J d;have L:=J (g.ew D c o_ y);clear d g);exact Y _ _ u L
end Tc
namespace Tc
open List Go.RowKit Base Go.Proofs.Tryz
def ko(w:World)(v:Value)(n:Nd):Prop:=Ap w v n.A (n.ls.map dq)/\∀l∈n.ls,Ap w v l.A (l.cs.flatMap ch)
def ko.app{wr w':World}{v c:Value}{n:Nd}(h:ko wr v n)(b:App wr w' v c):ko w' c n:=⟨h.1.app b,λl d=>(h.2 l d).app b⟩
def ko.below{w w':World}{v:Value}{n:Nd}(h:ko w v n)(b:E w w'):ko w' v n:=⟨h.1.below b,λl c=>(h.2 l c).below b⟩
def wD{w:World}{v:Value}{A:OA}{d:LV}{B:Nat}(g:Row w w.heap.size A d)(n:eB B A d)(m:∀k,v.ownBlock=some k->k<B):Ap w v A d:=
 ⟨g,λb off e c f=>by have h1:=m b f;have h2:=n b _ e c;omega⟩
def ko.new{w:World}{v:Value}{n:Nd}{B:Nat}(h:du w w.heap.size n)(d:gW B n)(b:∀k,v.ownBlock=some k->k<B):ko w v n:=⟨wD h.row d.1 b,λl c=>wD (h.each l c) (d.2 l c) b⟩
def gW.less{B c:Nat}{n:Nd}(h:gW B n)(b:c<=B):gW c n:=⟨h.1.less b,λl d=>(h.2 l d).less b⟩
def ep(w:World)(B:Nat)(v:Value)(b:List Nd):Prop:=w.ownsRow B 157 14 v b.length (b.flatMap cO)/\∀n∈b,ko w v n/\gW B n
def ep.nil(w:World)(B:Nat):ep w B (Z) []:=⟨cK _ _ _ _,λx hx=>r_⟩
def Di{w w':World}{B:Nat}{e:TypeId}{sz n:Nat}{v:Value}{xs:LV}(h:w.ownsRow B e sz v n xs)(d:Over B w w'):w'.ownsRow B e sz v n xs:=by
 obtain⟨h1,h2⟩:=h;refine⟨h1,?_⟩;obtain h2|⟨g,cap,cur,e,c,b,r⟩:=h2
 .grind
 .exact .inr ⟨g,_,_,e,c,(d.block g c (Array.getElem?_eq_some_iff.1 b).1).trans b,r⟩
def zW{w w':World}{B:Nat}{v:Value}{A:OA}{f:LV}(h:Ap w v A f)(n:eB B A f)(m:Over B w w'):Ap w' v A f:=by
 refine⟨(mI h.1 (λb off e c=>m.block b (n b _ e c) ?_)).more m.size,h.2⟩;obtain h0|⟨p,g,d,r,_⟩:=h.1
 .grind
 grind
def ep.tX{w w':World}{B:Nat}{v:Value}{c:List Nd}(h:ep w B v c)(d:Over B w w'):ep w' B v c:=
 ⟨Di h.1 d,λn b=>⟨⟨zW (h.2 n b).1.1 (h.2 n b).2.1 d,λl e=>zW ((h.2 n b).1.2 l e) ((h.2 n b).2.2 l e) d⟩,(h.2 n b).2⟩⟩
def ep.below{w w':World}{B:Nat}{v:Value}{b:List Nd}(h:ep w B v b)(c:E w w'):ep w' B v b:=⟨bS h.1 c,λn d=>⟨(h.2 n d).1.below c,(h.2 n d).2⟩⟩
def ep.app{w w':World}{B n c e g:Nat}{A f:OA}{b:List Nd}{x:Nd}(h:ep w B (U A n c) b)(hx:ko w (U A n c) x)(r:gW B x)
 (q:w'.ownsRow B 157 14 (U f e g) (n+1) (b.flatMap cO++cO x))(m:App w w' (U A n c) (U f e g))(p:b.length=n):ep w' B (U f e g) (b++[x]):=by
 refine⟨?_,λy d=> ?_⟩
 .grind
 .obtain d|d:=mem_append.1 d
  .exact⟨(h.2 y d).1.app m,(h.2 y d).2⟩
  .rw[mem_singleton.1 d];exact⟨hx.app m,r⟩
def ep.at_{w:World}{B n c:Nat}{A:OA}{b:List Nd}(h:ep w B (U A n c) b):gX w w.heap.size A b:=by
 obtain⟨p,q,e⟩:=cI h.1;injection e with d f g;subst d f g;exact⟨dF h.1,λx hx=>⟨(h.2 x hx).1.1.1,λl m=>((h.2 x hx).1.2 l m).1⟩⟩
abbrev eV(As:OA)(d cs m:Nat)(e:OA)(b c most:Nat):AV:=#[U As d cs,N m,U e b c,N most]
def qt(ga:Nat)(As f:OA)(b cs m c g most:Nat)(w:World)(h:aa w ga 217 (eV As b cs m f c g most))(hx:1<=b) :
 Calls prog 112 #[Y ga 0] w λe w'=>e = .returned (.bool true)/\w=w':=by
 obtain⟨⟨u,r,q,s⟩,_⟩:=aa.four h;have n:0<(b:Int):=o_;have p:decide (0<b)=true:=o_;go_in;go_wp2;go_ret;simp
def Gb(ga gp gn:Nat)(As p:OA)(v cs m e q most aj:Nat)(nv:AV)(x:Cl)(b off F:Nat)(w:World)(h:aa w ga 217 (eV As v cs m p e q most))
 (r:C w gp 0 (Y ga 0))(g:C w gn 0 (N aj))(A:p=some ⟨b,off,none⟩)(B:x.child<e)(H:e<=1000000)(hd:aj<=1000000)(f:C w b (off+x.child*14) (I ((aj+1:Nat):Int))) :
 Calls prog 276 #[.agg (bH x),Y gp 0,Y gn 0] w (R_ (.bool true) w):=by
 obtain⟨key,child,ag⟩:=x;dsimp only at B f;subst A;have d:=(ah _ w).alloc (ae _) (.cells (bH ⟨key,child,ag⟩) 155);have u:=J (aa.new w 155 (bH ⟨key,child,ag⟩));have z:=((aa.four (h.under d)).1).2.2.1;have s:=al d r;have n0:=al d g;have c0:=al d f;have n:=u.cell 1;change _=some (I (child:Nat))at n;have D:child<(e:Int):=o_;have G:0<=(child:Int):=o_;have M:IntKind.i64.wrap _=aj+1:=IntWalk.i64_in _ o_;go_in;go_upto_region 1 with fail;generalize w.alloc _=E at*;apply wp_region_noPanic;refine br (t:=99) (S:=(λw'=>C w' _ 1 (N _)/\C w' _ 0 _/\C w' _ 2 _/\C w' b _ _/\C w' _ 0 _)) k_ ⟨n,s,z,c0,n0⟩ (λc=> ?_);apply tD 0 1 2 3 c;apply tD 4 5 6 7 c;apply tD 8 9 10 11 c;apply tD 12 13 14 15 c;apply tD 16 17 18 19 c;apply tD 20 21 22 23 c;refine bQ k_ ?_ _;try clear c
 apply NoPanic.normal;go_wp2;go_ret;exact⟨rfl,(J d).drew⟩
def nU(n:Nd):List Cl:=n.ls.flatMap Ll.cs++[n.all]
def zu(b:List Nd)(n:Nd):Prop:=∀c∈nU n,∃x,b[c.child]? = some x/\x.aj=n.aj+1
def KC(ga:Nat)(As An:OA)(B cs m cn most:Nat)(q:List Nd)(n:Nd)(w:World)(h:aa w ga 217 (eV As B cs m An q.length cn most))(hr:Row w w.heap.size An (q.flatMap cO))(f5:du w w.heap.size n)
 (n5:1<=B)(m9:B<=16)(hd:n.aj<=1000000)(e1:q.length<=1000000)(b2:n.ls.length<=4)(hl:∀l∈n.ls,l.cs.length<=1000)(ho:n.aj+1=B\/zu q n) :
 Calls Tryz.prog 214 #[.pointer (some ⟨ga,0,none⟩),.agg (aZ n)] w λe w'=>e = .returned (.bool true)/\Below w.heap.size w w':=by
 obtain⟨aj,z,ls,A,key,child,ac,s0,n0,x0,s1,n1,x1,s2,n2,x2⟩:=n;have u:=kp (λw h=>x9 _ w h b2 hl);have b6:=kp (show(nU ⟨aj,z,ls,A,key,child,ac,s0,n0,x0,s1,n1,x1,s2,n2,x2⟩).length<=5001 by
  have h1:=count_le hl ls.length;dsimp only at h1 b2;rw[take_of_length_le o_]at h1;unfold nU;rw[aE,sS];grind)
 have U:=kp (show aj+1=B\/∀c∈nU _,∃x,q[c.child]? = some x/\x.aj=aj+1 from ho);have O:=kp (show∀w,du w _ _->Calls _ _ _ w (mL (nU _) w)from u);generalize nU _=cl at*;have L:=kp (λw=>mD As B cs m aj w o_ o_ hd);have f1:=kp Gb;generalize u:(λ(e:Ending) w'=>e = .returned _/\Below _ w _)=Q;have HQ:=kp (show∀w',Below w.heap.size w w'->Q (.returned (.bool true)) w' fromλw' V=>r_);dsimp only at hd;dsimp only[aZ]at O⊢;obtain⟨X,u⟩:∃X,ls.length=X:=⟨_,rfl⟩;rw[u]at O⊢;obtain⟨nn,E⟩:∃nn,q.length=nn:=⟨_,rfl⟩;rw[E]at e1 h;have Z:=(ah _ w).alloc (ae _) (.cells #[.pointer (some ⟨ga,0,none⟩)] 37);have y:=aa.new w 37 #[.pointer (some ⟨ga,0,none⟩)];have D:(w.alloc (.cells #[.pointer (some ⟨ga,0,none⟩)] 37)).heap.size=w.heap.size+1:=s_
 have d:=Z.alloc o_ (.cells #[.int .i64 aj,.slice z X A,.int .i64 key,.int .i64 child,.int .i64 ac,.int .i64 s0,.int .i64 n0,.int .i64 x0,.int .i64 s1,.int .i64 n1,.int .i64 x1,.int .i64 s2,.int .i64 n2,.int .i64 x2] 157);have u:=y.alloc (.cells #[.int .i64 aj,.slice z X A,.int .i64 key,.int .i64 child,.int .i64 ac,.int .i64 s0,.int .i64 n0,.int .i64 x0,.int .i64 s1,.int .i64 n1,.int .i64 x1,.int .i64 s2,.int .i64 n2,.int .i64 x2] 157);have T:=aa.lay (t:=157) (cs:=#[.int .i64 aj,.slice z X A,.int .i64 key,.int .i64 child,.int .i64 ac,.int .i64 s0,.int .i64 n0,.int .i64 x0,.int .i64 s1,.int .i64 n1,.int .i64 x1,.int .i64 s2,.int .i64 n2,.int .i64 x2]) D;generalize h0:(w.alloc _).alloc _=W at*;have R:=kp (h.under (d.mono o_));have b8:=kp ((hr.below d).more d.size);have f3:=kp ((f5.below d).more d.size);obtain⟨⟨z,Z,a2,a3⟩,_⟩:=aa.four R;obtain⟨G,_⟩:=u.one;obtain⟨y,d1,d2,d3,d4,d5,d6,d7,d8,d9,f9,g9,g6,g8⟩:=(aa.bK T).1;go_enter Tryz.func214,Tryz.ntmps214;go_upto_region 1 with fail;clear h0;refine wp_region_noPanic ?_;refine br (t:=99) (S:=(λw'=>w'.cell? _=some _/\w'.cell? _=some (.slice _ B _)/\w'.cell? _=some (.int _ _)/\w'.cell? _=some _)) k_ ⟨G,z,Z,y⟩ (λg=> ?_);refine tD 0 1 2 3 g ?_;refine tB 4 5 g ?_;refine oT 6 λK hK=>?_;go_simp;refine(L _).mono ?_;rintro e L⟨rfl,D⟩;have f:=kp (show Below W.heap.size W L from bR.drew.trans D);refine oK hK ?_ λD=>?_
 .exact⟨al f G,al f z,al f Z,al f y⟩
 replace g:=D;refine bQ k_ ?_ _;try clear g
 refine NoPanic.normal ?_;have F:=kp (d.trans (f.o.mono d.size));have b0:=kp (u.under f);have G:=kp (T.under f);have b7:=kp (R.o.under f);have M:=kp ((b8.o.below f).more f.o.size);have D:=kp ((f3.o.below f).more f.o.size);by_cases p:aj+1=B
 .rw[decide_eq_true p];have u:=kp (HQ _ F);go_wp2;exact u
 .have h5:=kp (U.o.resolve_left p);rw[decide_eq_false p];obtain⟨y,d1,d2,d3,d4,d5,d6,d7,d8,d9,f9,g9,g6,g8⟩:=(aa.bK G).1;have y:=kp (O L D);go_wp2_with fail;refine y.o.mono ?_;rintro e y⟨D,rfl,s,d⟩;obtain⟨A2,c2,rfl⟩:=cI s;have v:=kp (dF s);have D:=ay F d;have b5:=bu b0 d;have Y:=bu G d;have e2:=bu b7 d;have I:=kp ((M.o.below d).more d.size);have M:=b6.o;obtain⟨L,G⟩:∃L,cl.length=L:=⟨_,rfl⟩;rw[G]at M⊢;go_wp2;go_loopw [19] (λN wr=>∃k:Nat,k<=L/\N = .int .i64 k/\Below y.heap.size y wr) (λN _=>L-(intOf N).toNat)
  case atStart=>exact⟨0,o_,rfl,bR⟩
  case round=>
   obtain⟨k,hk,rfl,C⟩:=hrel;by_cases y:k<L
   .have H:k<cl.length:=o_
    obtain⟨b,off,y,V,c0,c1,h4,c3,c4,U,c6,c7,c8,c9,e5,h7⟩:=nV ((v.o.below C).more C.size) k H;subst y;obtain⟨x,hx,O⟩:=h5 _ (gM H);generalize(cl[k]'H)=y at*;have G:=(ah _ wr).alloc (ae _) (.cells (bH y) 155);have g7:=kp (aa.new wr 155 (bH y));have r:=ay (J C) G;have G:=(aO hx).1;have V:=(I.o.below r).more r.o.size;obtain⟨bn,on,e8,M,M,h8⟩:=pV V _ G;rw[(aO hx).2,O]at M;have O:=kp (e2.o.under r);have e9:=kp ((b5.o.under r).cell 0);have V:=kp ((Y.o.under r).cell 0);have h2:=kp (f1 _ _ _ _ _ B _ m _ _ _ _ #[] y _ _ 0 _ O e9 V e8 o_ e1 hd M);have E:0<=(k:Int):=o_
    have E:k<(L:Int):=o_
    go_upto_region 7 with fail;clear c0 c1 h4 c3 c4 U c6 c7 c8 c9 e5 h7;generalize wr.alloc _=y at*;generalize wr.heap.size=y at*;obtain⟨z,Z,a2,a3,y,y,y,y,y,y,y,y⟩:=(aa.gu g7).1;go_wp2_with fail;refine h2.o.mono ?_;rintro e y⟨rfl,z⟩;have y:=ay r z;go_wp2;exact⟨⟨k+1,o_,o_,y⟩,o_⟩
   .obtain rfl:k=L:=o_
    have u:=kp (HQ _ (D.o.trans (C.mono D.o.size)));go_wp2;exact u
def tH{w w':World}{g:Nat}{s r n v q u y p m x d c b f:Value}(A:w'.heap[g]? = w.heap[g]?)(h:w.cell? ⟨g,0,none⟩=some s/\w.cell? ⟨g,1,none⟩=some r/\w.cell? ⟨g,2,none⟩=some n/\w.cell? ⟨g,3,none⟩=some v/\w.cell? ⟨g,4,none⟩=some q/\w.cell? ⟨g,5,none⟩=some u/\w.cell? ⟨g,6,none⟩=some y/\w.cell? ⟨g,7,none⟩=some p/\w.cell? ⟨g,8,none⟩=some m/\w.cell? ⟨g,9,none⟩=some x/\w.cell? ⟨g,10,none⟩=some d/\w.cell? ⟨g,11,none⟩=some c/\w.cell? ⟨g,12,none⟩=some b/\w.cell? ⟨g,13,none⟩=some f):w'.cell? ⟨g,0,none⟩=some s/\w'.cell? ⟨g,1,none⟩=some r/\w'.cell? ⟨g,2,none⟩=some n/\w'.cell? ⟨g,3,none⟩=some v/\w'.cell? ⟨g,4,none⟩=some q/\w'.cell? ⟨g,5,none⟩=some u/\w'.cell? ⟨g,6,none⟩=some y/\w'.cell? ⟨g,7,none⟩=some p/\w'.cell? ⟨g,8,none⟩=some m/\w'.cell? ⟨g,9,none⟩=some x/\w'.cell? ⟨g,10,none⟩=some d/\w'.cell? ⟨g,11,none⟩=some c/\w'.cell? ⟨g,12,none⟩=some b/\w'.cell? ⟨g,13,none⟩=some f:=by
 have z:=h;have e:∀i,w'.cell? _=w.cell? ⟨g,i,none⟩:=λi=>bF A;grind
def isRow(v:Value)(k:Nat):Prop:=v.ownBlock=some k
def qz(B ga:Nat)(As:OA)(q cs m:Nat)(n:OA)(g most:Nat)(b:List Nd)(p:aQ)(w:World)(e:Ending)(w':World):Prop:=
 (b.length<most->∃(d:OA)(c:Nat)(f:Nd),e = .returned (.tuple #[I b.length,I 0])/\aK f=p/\ep w' B (U d (b.length+1) c) (b++[f])/\aa w' ga 217 (eV As q cs m d (b.length+1) c most) /\
   ((Value.slice d (b.length+1) c).ownBlock=(Value.slice n b.length g).ownBlock\/∃k,(Value.slice d (b.length+1) c).ownBlock=some k/\w.heap.size<=k)/\gW w.heap.size f/\aq (λk=>k=ga\/isRow (U n b.length g) k) w w') /\
 (¬b.length<most->e = .returned (.tuple #[I 0,I 7])/\E w w')
def FN(B ga:Nat)(As q:OA)(xs:List Fa)(cs m r most:Nat)(f:List Nd)(n:Nd)(w:World)(p7:ga<B)(k8:B<=w.heap.size)(h:aa w ga 217 (eV As xs.length cs m q f.length r most))(hx:cG w w.heap.size As xs)(c8:ep w B (U q f.length r) f)(i7:du w w.heap.size n)
 (e4:xs.length<=16)(j1:1<=m)(hm:m<=3)(k4:f.length<=1000000)(n5:most<=1000000)(T:n.aj<xs.length)(ho:im (decide (n.aj+1=xs.length)) (xs[n.aj]'T).keys m (aK n))(hl:∀l∈n.ls,l.cs.length<=1000)(e3:n.aj+1=xs.length\/zu f n) :
 Calls prog 148 #[Y ga 0,.agg (aZ n)] w (qz B ga As xs.length cs m q r most f (aK n) w):=by
 obtain⟨i0,n9,o1,n6,q8⟩:=info_parts BK;have c6:n.ls.length<=4:=by have:=ho.n4;unfold aK at this;rw[lM]at this;omega
 have HT:=J (λw h=>qt ga As q xs.length cs m f.length r most w h o_);have HC:=J (λw h1 h2=>tP As cs m _ n w h1 h2 e4 j1 hm T ho);have HL:=J (λw h1 h2 h3=>KC ga As q _ cs m r most f n w h1 h2 h3 o_ e4 o_ k4 c6 hl e3);have HN:=J (λw h=>xU n w h c6 (λl p8=>aF (hl l p8) o_));obtain⟨aj,nA,ls,nc,key,child,ac,s0,n0,x0,s1,n1,x1,s2,n2,x2⟩:=n
 have b4:=J (show∀(V:OA) W O w',f.length<most->aK O=aK ⟨aj,nA,ls,nc,key,child,ac,s0,n0,x0,s1,n1,x1,s2,n2,x2⟩->ep _ B _ _->aa _ _ _ _ ->
  ((Value.slice V _ W).ownBlock=(Value.slice q _ r).ownBlock\/∃k,(Value.slice V _ W).ownBlock=some k/\w.heap.size<=k)->gW _ O->aq (λk=>k=ga\/isRow _ k) w _ ->
  qz B _ As xs.length cs m q r _ f _ w _ w' from
  λV W O w' h0 h1 h2 h3 h4 h5 h6=>⟨λ_=>⟨V,W,O,rfl,h1,h2,h3,h4,h5,h6⟩,λh=>absurd h0 h⟩)
 have k3:Kp (∀w',¬f.length<most->E w _->qz B ga As xs.length cs m q r _ f (aK ⟨aj,nA,ls,nc,key,child,ac,s0,n0,x0,s1,n1,x1,s2,n2,x2⟩) w _ w'):=λw' h0 h1=>⟨λh=>absurd h h0,λ_=>⟨rfl,h1⟩⟩;generalize aK _=pn at*;generalize hQ:qz B _ _ _ _ m q r _ f _ w=Q at*;clear hQ ho e3 hl;dsimp only at T c6;have k0:=J hx;clear hx;obtain⟨nx,k7⟩:=e_ xs.length
 obtain⟨p,b7⟩:=e_ f.length
 have m0:=J b7;have f5:=J c8;have L:Kp (∀j,(Value.slice q _ r).ownBlock=some j->j<w.heap.size):=λj hj=>(c8.1.lt j hj).2;obtain⟨lx,j2⟩:=e_ ls.length
 dsimp only[aZ]at HC HL HN⊢;rw[k7]at HT HC HL b4 h e4 T;rw[b7]at HT HL b4 k3 h k4 f5 L;rw[j2]at HC HL HN c6⊢;clear k7 b7 j2 c8 e4 j1 hm c6;have A:=(ah _ w).alloc (ae _) (.cells #[N aj,U nA lx nc,N key,N child,I ac,I s0,I n0,I x0,I s1,I n1,I x1,I s2,I n2,I x2] 157);have k5:=aa.new w 157 #[N aj,U nA lx nc,N key,N child,I ac,I s0,I n0,I x0,I s1,I n1,I x1,I s2,I n2,I x2];generalize n7:w.alloc _=W0 at*;have i1:=J k5;have b5:=J (h.under A);have b8:=J (f5.below A);have a7:=J ((i7.below A).more A.size);have g6:=J ((k0.out.below A).more A.size);have h9:=J A;clear A k5 h i7 k0;have h7:=J p7;have j0:=J (HT _ b5);go_in;go_wp2_with fail;apply j0.mono;rintro e w1⟨rfl,rfl⟩;clear n7;obtain⟨⟨a0,a1,a2,a3⟩,_⟩:=aa.four b5;obtain⟨d0,d1,d2,d3,d4,d5,d6,d7,d8,d9,z,u,s,y⟩:=(aa.bK i1).1;go_upto_region 3 with fail
 apply wp_region_noPanic;refine br (t:=99) (S:=(λw'=>(C w' _ 0 _/\C w' _ 1 _)/\(C w' _ 0 _/\C w' _ 1 _/\C w' _ 2 _/\C w' _ 3 _/\C w' _ 4 _/\C w' _ 5 _/\C w' _ 6 _/\C w' _ 7 _/\C w' _ 8 _/\C w' _ 9 _/\C w' _ _ _/\C w' _ _ _/\C w' _ _ _/\C w' _ _ _))) k_ ⟨⟨a0,a1⟩,⟨d0,d1,d2,d3,d4,d5,d6,d7,d8,d9,z,u,s,y⟩⟩ (λb=> ?_);apply tD 0 1 2 3 b;apply tk 4 b;refine oT 5 λK hK=>?_
 go_simp
 apply(HC W0.drew (g6.below bR.drew) (a7.below bR.drew)).mono;rintro e X⟨rfl,b9⟩;have c:Kp (E W0 X):=bR.drew.trans b9;clear b9;refine oK hK ?_ λd=>?_
 .exact⟨⟨al c a0,al c a1⟩,al c d0,al c d1,al c d2,al c d3,al c d4,al c d5,al c d6,al c d7,al c d8,al c d9,al c z,al c u,al c s,al c y⟩
 replace b:=d;clear hK K d;apply tk 6 b;refine bQ k_ ?_ _
 try clear b
 apply NoPanic.normal;have c4:=J (i1.under c);have c9:=J (b5.under c);have F:=J (b8.below c);have e0:=J ((a7.below c).more c.size);have i6:=J (h9.trans (c.mono h9.size));clear a0 a1 a2 a3 d0 d1 d2 d3 d4 d5 d6 d7 d8 d9 z u s y i1 b5 b8 a7 h9 c j0 g6;obtain⟨d0,d1,d2,d3,d4,d5,d6,d7,d8,d9,z,u,s,y⟩:=(aa.bK c4).1;have m7:=J (HL X c9 F.at_.row e0);go_wp2_with fail;apply m7.mono;rintro e w2⟨rfl,G⟩;have e8:=bu c4 G;have H:=bu c9 G;have a9:=J (F.below G);have i8:=J ((e0.below G).more G.size);have a8:=ay i6 G;clear G d0 d1 d2 d3 d4 d5 d6 d7 d8 d9 z u s y c4 c9 F e0 i6 m7;obtain⟨⟨a0,a1,a2,a3⟩,_⟩:=aa.four H
 go_upto_region 8 with fail
 apply wp_region_noPanic;refine br (t:=99) (S:=(λw'=>C w' _ 2 _/\C w' _ 3 _)) k_ ⟨a2,a3⟩ (λb=> ?_);apply tD 0 1 2 3 b;apply tD 4 5 6 7 b;apply tB 8 9 b;refine bQ k_ ?_ _
 try clear b
 apply NoPanic.normal;clear a0 a1 a2 a3;by_cases c7:p<most
 .have q1:¬ most<=(p:Int):=o_
  go_upto_region 10 with fail
  obtain⟨⟨a0,a1,a2,a3⟩,⟨_,_,f2,_⟩⟩:=aa.four H;obtain⟨d0,d1,d2,d3,d4,d5,d6,d7,d8,d9,z,u,s,y⟩:=(aa.bK e8).1;have f3:=H.lt;have m5:=e8.lt;apply wp_region_noPanic;refine uG (t:=11) (S:=(λw'=>(C w' _ 2 _/\w'.frozen? _=false)/\(C w' _ 0 _/\C w' _ 1 _/\C w' _ 2 _/\C w' _ 3 _/\C w' _ 4 _/\C w' _ 5 _/\C w' _ 6 _/\C w' _ 7 _/\C w' _ 8 _/\C w' _ 9 _/\C w' _ _ _/\C w' _ _ _/\C w' _ _ _/\C w' _ _ _))) k_ ⟨⟨a2,f2⟩,⟨d0,d1,d2,d3,d4,d5,d6,d7,d8,d9,z,u,s,y⟩⟩ (λb=> ?_);apply tu 0 b;apply tu 1 b;apply tu 2 b;apply tu 3 b;apply tu 4 b;apply tu 5 b;refine oU 6 λK hK=>?_
  go_simp
  apply(HN w2.drew.drew (i8.below (bR.drew.drew))).mono;rintro e X⟨O,rfl,l0,g9,e9,b9,_⟩;have c:Kp (E w2 X):=bR.drew.drew.trans b9;have n8:=J l0;have i9:=J g9;have a6:Kp (gW w2.heap.size O):=e9;clear b9 l0 g9 e9;refine oK hK ?_ λd=>?_
  .exact⟨⟨al c a2,by rw[iJ c _ _ f3];omega⟩,⟨(al c) d0,(al c) d1,(al c) d2,(al c) d3,(al c) d4,(al c) d5,(al c) d6,(al c) d7,(al c) d8,(al c) d9,(al c) z,(al c) u,(al c) s,(al c) y⟩⟩
  replace b:=d;clear hK K d;have R:=bh f3 c.size;have c3:=bh m5 c.size;have a5:=J (a9.below c);have k1:=J (H.under c);have a4:=J (a8.trans (c.mono o_));have o7:=J (ko.new i9 a6 (λj hj=>(a9.1.lt j hj).2));have b6:=J (by have:=a5.1;rw[m0]at this;omega);have p4:Kp _:=aF k8 a4.size;have f7:Kp ((Value.slice q p r).ownBlock≠some ga):=(λhh=>by have h1:=(b6.lt _ hh).1;omega);have l4:Kp ((Value.slice q p r).ownBlock≠some w.heap.size):=(λhh=>by have:=L _ hh;omega);have q9:p+1<1048576*64:=o_
  refine oU 7 λK hK=>?_
  go_simp
  refine oK hK ?_ λd=>?_
  .exact⟨⟨al (bR.alloc o_ _) b.1.1,by rw[iJ (bR.alloc o_ _) _ _ R];exact b.1.2⟩,tH (Below.heap_alloc _ _ _ c3) b.2⟩
  replace b:=d;clear hK K d;refine oU 8 λK hK=>?_
  apply rS rfl _ _ _ rfl B 157 _ _ _ _ underlying151 n9 o1 n6 q8 rfl d_ X _ rfl (CH O) (U q p r) p _ rfl b6 rfl q9 d_ o_;intro v5 w5 D Z;obtain⟨A5,c5,h5⟩:=cI D;subst h5;have h8:=J D;have g:=J Z;clear D Z
  go_simp
  refine oK hK ?_ λd=>?_
  .have e1:=(g.bI R f7).trans (Below.heap_alloc X (.cells (aZ O) 157) _ R).symm;have e2:=(g.bI c3 l4).trans (Below.heap_alloc X (.cells (aZ O) 157) _ c3).symm;exact⟨⟨(bF e1).trans b.1.1,by have h:=b.1.2;unfold World.frozen? at h⊢;grind⟩,tH e2 b.2⟩
  replace b:=d;clear hK K d;apply tu 9 b;apply tu 10 b;refine zg (o:= ?or11) k_ ?ar11 ⟨k_,k_⟩ (λK hK=> ?br11)
  case ar11=>rfl
  obtain⟨⟨x1,x2⟩,_⟩:=b
  go_simp
  apply hK.out _ _;clear hK K;apply NoPanic.normal
  have HF:=J (ep.app a5 o7 (a6.less o_) h8 g m0);have k9:Kp (aa _ _ _ _):=(g.bI R f7).trans k1;have f1:Kp (aa (w5.setCell (M _ 2) _) _ _ (eV _ _ _ m A5 (p+1) c5 _)):=k9.set 2 _;have q4:Kp (ep (w5.setCell _ (U A5 (p+1) c5)) B _ _):=HF.tX ⟨s_,λk hk _=>Below.heap_setCell _ (M ga 2) _ k (by dsimp only;omega)⟩
  have i2:Kp ((Value.slice A5 (p+1) c5).ownBlock=(Value.slice q p r).ownBlock\/∃k,(Value.slice _ _ _).ownBlock=some k/\w.heap.size<=k):=(by
   obtain h|⟨k,h,hk⟩:=g.j4
   .grind
   .exact .inr ⟨k,h,o_⟩)
  have n3:Kp (aq (λk=>k=ga\/isRow _ k) w (w5.setCell (M _ 2) (U A5 (p+1) c5))):=((aq.below a4).trans ⟨g.grown.os,g.grown.tape,g.grown.output,g.grown.size,λk hk hp=>g.bI hk (λe=>hp (.inr e))⟩).trans (aq.set _ _ _ (.inl rfl));have k6:=J (b4 _ _ O _ c7 n8 q4 f1 i2 (a6.less o_) n3);obtain⟨⟨b0,b1,b2,b3⟩,_⟩:=aa.four f1;have hw:IntKind.i64.wrap (p+1-1)=p:=by rw[Int.add_sub_cancel];exact IntWalk.i64_in _ o_
  go_wp2;exact k6
 .have q1:most<=(p:Int):=o_
  have Hf:=J (k3 _ c7 a8.drew);go_wp2;exact Hf
end Tc
namespace Tc
open List Go.RowKit Base Go.Shelf Go.Proofs.Tryz
structure Gr where
 key:Nat
 A:OA
 part:LN
 c:Nat
deriving Inhabited
abbrev dx(g:Gr):LV:=[I g.key,U g.A g.part.length g.c]
abbrev my(g:Gr):AV:=#[I g.key,U g.A g.part.length g.c]
def pN g:(dx g).length=2:=rfl
def Jp g:∀u∈(my g).toList,u.oneCell'=true:=by
 intro u b;simp at b;rcases b with rfl|rfl<;>rfl
def Jo g:∀u∈dx g,u.oneCell'=true:=by
 intro u b;simp at b;rcases b with rfl|rfl<;>rfl
def JL:(prog.info? 255).map (λi=>(i.zero,i.size,i.bytes))=some (some (.agg #[I 0,Z]),2,32):=k_
def Bj(gs:List Gr):Sort.flatK dx 2 gs.toArray=(gs.flatMap dx).toArray:=by
 have g:=iX pN gs;refine Sort.ext_get! (by rw[Sort.size_flatK];grind) λt ht=> ?_;have b:t<gs.length*2:=by simpa using ht
 have hi:t / 2<gs.length:=o_;rw[Sort.get_flatK _ 2 _ t o_];have h:=tj pN _ _ hi (t % 2) o_;grind
def Jj x y W:Calls prog 211 #[.agg (dx x).toArray,.agg (dx y).toArray] W λe w'=>e = .returned (I (eW x.key y.key))/\∃q b,w'=Sort.grow (W.drewN q) b:=by
 have f:=J (λw=>AR x.key y.key w);have d:=J ((aa.new W 255 (my x)).alloc (.cells (my y) 255));have c:=J (aa.lay (w:=W.alloc (.cells (my x) 255)) (g:=W.heap.size+1) (t:=255) (cs:=my y) s_);have m:Kp (∃q b,(W.alloc (.cells (my x) 255)).alloc (.cells (my y) 255)=Sort.grow (W.drewN q) b):=⟨0,_,by rw[Sort.alloc_eq_grow,Sort.alloc_eq_grow,Sort.grow_grow];rfl⟩;generalize eW _ _=V at*;obtain⟨u,r,_,_⟩:=d.two;obtain⟨n,s,_,_⟩:=c.two;go_in;go_wp2_with fail;apply(f _).mono;rintro e p⟨rfl,rfl⟩;go_wp2;go_ret;trivial
def tL x y:ltOf (λx y:Gr=>eW x.key y.key) x y=decide (x.key<y.key):=by
 unfold ltOf;rw[Bool.eq_iff_iff,decide_eq_true_eq,decide_eq_true_eq];exact Ip
def Qo:Sort.SWO (ltOf λx y:Gr=>eW x.key y.key) where
 irrefl x:=by rw[tL];simp
 trans x y z h1 h2:=by rw[tL]at*;grind
 ntrans x y z h1 h2:=by rw[tL]at*;grind
def QB cur F(h:F.size<=cur.size):(Sort.putCells id 0 F cur).toList.take F.size=F.toList:=by
 apply ext_getElem?;intro j;by_cases b:j<F.size
 .rw[getElem?_take_of_lt b,Array.getElem?_toList,Array.getElem?_toList];simp[Sort.putCells,b,show j<cur.size by omega]
 grind
def FK(g c B:Nat)(gs:List Gr)(w:World)(e:Ending)(w':World):Prop:=e = .returned (.tuple #[])/\∃d:List Gr,d.Perm gs/\d.Pairwise (λa b=>a.key<=b.key)/\w'.ownsRow B 255 2 (U (some ⟨g,0,none⟩) gs.length c) gs.length (d.flatMap dx)/\aq (λk=>k=g) w w'
def Q3 g c B gs w(M:gs.length<=1000000)(m:w.ownsRow B 255 2 (U (some ⟨g,0,none⟩) gs.length c) gs.length (gs.flatMap dx)) :
 Calls prog 210 #[U (some ⟨g,0,none⟩) gs.length c,.func (.func 211) #[] #[]] w (FK g c B gs w):=by
 obtain⟨z,cap,cur,W,T,G,F,J,D,ht⟩:∃z cap cur,Value.slice _ _ c = U _ _ _/\B<=z/\w.heap[z]? = some (.cells cur _ _)/\gs.length<=cap/\cap<=maxLen/\cur.size=cap*2/\cur.toList.take _=gs.flatMap _:=by
  obtain⟨h0,_⟩|h:=m.2
  .grind
  . omega
 injection W with d _ A;injection d with d;injection d with d _ _;subst d A;have p:=(Array.getElem?_eq_some_iff.1 G).1;have Y:Sort.HoldsK dx 2 w g 0 gs.toArray:=by
  unfold Sort.HoldsK;rw[Bj];intro j q;have f:j<(gs.flatMap _).length:=o_
  refine⟨?_,by simp[World.frozen?,G]⟩;have h1:=m.cells (g:=g) rfl j _ (gE f);rw[jS]at h1;rw[h1];have H:(gs.flatMap _).toArray[j]! = (gs.flatMap _).toArray[j]'q:=getElem!_pos _ j q;rw[H];rfl
 have u:=AnyQ.slices_SortFunc Tryz.Q2 2 Tryz.isAgg255 Tryz.sizeOf255 _ (λ_=>rfl) Jo (λx y:Gr=>eW _ _) Qo _ #[] g 0 c _ w (enters_of func211 k_ rfl) (λ_ _ _ _ x y=>Jj x y _) Y p o_;apply u.mono;rintro e w'⟨rfl,b,n,os,L,V,rfl⟩;have v:b.size=gs.length:=by have:=L.1;omega
 refine⟨rfl,b.toList,?_,?_,?_,?_⟩
 .have X:b.extract 0 gs.toArray.size=b:=r_
  have N:gs.toArray.extract 0 gs.toArray.size=gs.toArray:=s_;have h2:=L.2.2;grind
 .rw[pairwise_iff_getElem];intro i j hi q C;have r:i<b.size:=o_
  have f:j<b.size:=o_
  have:=V i j o_ C o_;have H:b[i]! = b[i]'r:=getElem!_pos b i r;have R:b[j]! = b[j]'f:=getElem!_pos b j f;rw[tL,H,R]at this;grind
 .have I:Sort.flatK dx 2 b=(b.toList.flatMap dx).toArray:=by
   have:=Bj b.toList;omega
  have s:(b.toList.flatMap dx).length=gs.length*2:=by rw[iX pN,Array.length_toList,v]
  unfold sortWorldK Sort.putRowK;rw[I];refine⟨s,.inr ⟨g,c,Sort.putCells id 0 (b.toList.flatMap dx).toArray cur,rfl,T,?_,F,J,?_,?_⟩⟩
  .rw[Sort.heap_grow_old _ _ o_];simp[Sort.putRow,Sort.mapBlock,Array.getElem?_modify,G,Sort.onCells]
  .simp[Sort.putCells,D]
  .have h1:=QB cur (b.toList.flatMap dx).toArray r_;grind
 .refine⟨rfl,rfl,rfl,by simp[sortWorldK,Sort.putRowK],λk hk E=> ?_⟩;unfold sortWorldK Sort.putRowK;rw[Sort.heap_grow_old _ _ o_];have:g≠k:=o_;simp[Sort.putRow,Sort.mapBlock,Array.getElem?_modify,this]
end Tc
end Go.Proofs.YtibjlpkpljnicaaGreatDoor
