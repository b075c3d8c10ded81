/- Parts of a proof. -/
import Derived.Test.YtibjlpkpljnicaaGreatDoorL40
set_option maxRecDepth 100000
set_option maxHeartbeats 8000000
set_option linter.all false
namespace Go.Proofs.YtibjlpkpljnicaaGreatDoor
namespace Tc
open List Go.RowKit Base Go.Proofs.Tryz
def EX{c s fs st d m top pl}(T:qO c s fs st d m top pl):∀(r a:Nat),a+r+1=c.sns.length->vv c fs st d m pl a
 |0,a,h=>ET T (by omega) (uz T (by omega) λh2=>absurd h2 (by omega)) (ES T (uz T (by omega) λh2=>absurd h2 (by omega)))
 |r+1,a,h=>by
  have b:=EX T r (a+1) o_;exact ET T o_ (uz T o_ λ_=>b) (ES T (uz T o_ λ_=>b))
def jK(l:List Sn):Nat:=(l.filter λx=>decide (0<x.dz.length)).length
def Ra{l:List Sn}{k}(hk:k<l.length):jK (l.take (k+1))=jK (l.take k)+(if 0<l[k].dz.length then 1 else 0):=by
 unfold jK;rw[take_succ_eq_append_getElem hk,filter_append,aE];grind
def uF l:jK l<=l.length:=length_filter_le _ _
def QS A cc l w(h:fU w w.heap.size A l)(U:l.length<=1000):Calls Tryz.prog 107 #[.slice A l.length cc] w λe w'=>e = .returned (.int .i64 (jK l:Nat))/\Below w.heap.size w w':=by
 have J:=kp (show∀k w',k=jK l->Below w.heap.size w w'->(λe w'=>e=Ending.returned (.int .i64 (jK l))/\Below w.heap.size w w') (.returned (.int .i64 k)) w' fromλk w' h1 h2=>r_);have O:=kp h;generalize R:(λe w'=>e=Ending.returned _/\Below _ w _)=Q at*;clear R h;obtain⟨n,c⟩:∃n,l.length=n:=⟨_,rfl⟩;rw[c]at U⊢;have E:=kp c;clear c;go_enter Tryz.func107,Tryz.ntmps107;go_wp2;go_loopw [3,8] (λL x wr=>∃(k q:Nat),k<=n/\x = .int .i64 (k:Nat)/\L = .int .i64 (q:Nat)/\q=jK (l.take k)/\Below w.heap.size w wr) (λ_ x _=>n-(intOf x).toNat)
 case atStart=>exact⟨0,0,o_,rfl,rfl,rfl,bR⟩
 case round=>
  obtain⟨k,q,hk,rfl,rfl,G,H⟩:=hrel;have f:=kp H;have v:=kp G;clear H G;by_cases y:k<n
  .have m:k<l.length:=by rw[E];omega
   obtain⟨b,off,rfl,N,c0,c1,c2⟩:=((O.o.below f).more f.o.size).scan k m;have u:=kp (Ra m);have D:=kp (show q<=n from by rw[v];have:=uF (l.take k);grind);generalize l[k]=T at*;obtain⟨B,At,z,ct,Ai,I,ci⟩:=T;dsimp only at c0 c1 c2 u;obtain⟨nt,s⟩:∃nt,z.length=nt:=⟨_,rfl⟩;obtain⟨d,r⟩:∃d,I.length=d:=⟨_,rfl⟩;rw[s]at c1;rw[r]at c2 u;clear s r;have g:=kp (f.o.alloc f.o.size (.cells #[.int .i64 B,.slice At nt ct,.slice Ai d ci] 203));have W:0<=(k:Int):=o_
   have V:k<(n:Int):=o_
   have M:=D.o;by_cases F:0<d
   .go_wp2;exact⟨⟨k+1,_,o_,o_,o_,by rw[u,if_pos F,v],g⟩,o_⟩
   .go_wp2;exact⟨⟨k+1,q,o_,o_,rfl,by rw[u,if_neg F,v];rfl,g⟩,o_⟩
  .obtain rfl:k=n:=o_
   have p:=kp (J q _ (by rw[v,take_of_length_le (by rw[E];omega)]) f);go_wp2;exact p
def jz(l:List Sn):Bool:=l.any λx=>decide (0<=x.t)&&decide (x.take.length=0)
def IJ{l:List Sn}{k}(hk:k<l.length):jz (l.take (k+1))=(jz (l.take k)||(decide (0<=l[k].t)&&decide (l[k].take.length=0))):=by
 unfold jz;rw[take_succ_eq_append_getElem hk,any_append];simp
def QE A cc l w(h:fU w w.heap.size A l)(U:l.length<=1000):Calls prog 109 #[.slice A l.length cc] w λe w'=>e = .returned (.bool (jz l))/\Below w.heap.size w w':=by
 have F:Kp (∀k w',k=jz l->Below w.heap.size w w'->(λe w'=>e=Ending.returned (.bool (jz l))/\Below w.heap.size w w') (.returned (.bool k)) w'):=(λk w' h1 h2=>r_);have O:=kp h;generalize R:(λe w'=>e=Ending.returned _/\Below _ w _)=Q at*;clear R h;obtain⟨n,q⟩:=e_ l.length;rw[q]at U⊢;have E:=kp q;clear q;go_in;go_wp2;go_loopw [7] (λy wr=>∃(k:Nat),k<=n/\y = .int .i64 (k:Nat)/\jz (l.take k)=false/\Below w.heap.size w wr) (λy _=>n-(intOf y).toNat)
 case atStart=>exact⟨0,o_,rfl,rfl,bR⟩
 .obtain⟨k,hk,rfl,H,I⟩:=hrel;have s:=kp I;have D:=kp H;clear I H;by_cases B:k<n
  .have p:k<l.length:=by rw[E];omega
   obtain⟨b,off,rfl,N,c0,c1,c2⟩:=((O.o.below s).more s.o.size).scan k p;have x:=kp (IJ p);have c:Kp (decide (0<=l[k].t)=true->decide (l[k].take.length=0)=true->jz l=true):=λh1 h2=>any_eq_true.2 ⟨_,gM p,r_⟩;generalize l[k]=T at*;obtain⟨f,At,C,ct,Ai,J,ci⟩:=T;dsimp only at c0 c1 c2 x c;obtain⟨nt,v⟩:=e_ C.length;obtain⟨L,u⟩:=e_ J.length;rw[v]at c1 x c;rw[u]at c2;clear v u;have m:=kp (s.o.alloc s.o.size (.cells #[.int .i64 f,.slice At nt ct,.slice Ai L ci] 203));have W:0<=(k:Int):=o_
   have V:k<(n:Int):=o_
   by_cases G:0<=f
   .have r:=decide_eq_true G;by_cases g:nt=0
    .have z:((nt:Int) == 0)=true:=o_
     have d:=kp (F _ _ (by rw[c r (decide_eq_true g)]) m);clear g;go_wp2;exact d
    .have z:((nt:Int) == 0)=false:=o_
     have M:Kp _:=decide_eq_false g;clear g;go_wp2;exact⟨⟨k+1,o_,o_,by rw[x,D,M,Bool.and_false];rfl,m⟩,o_⟩
   .have r:=decide_eq_false G;go_wp2;exact⟨⟨k+1,o_,o_,by rw[x,D,r,Bool.false_and];rfl,m⟩,o_⟩
  .obtain rfl:k=n:=o_
   have d:=kp (F false _ (by rw[<-D,take_of_length_le (by rw[E];omega)]) s);go_wp2;exact d
structure zF(ys:List Fa)(l:List Sn):Prop where
 len:l.length=ys.length
 each:∀i(h:i<l.length)(h':i<ys.length),(l[i].t = -1/\l[i].take=[]/\l[i].dz=[])\/∃t:Nat,l[i].t=(t:Int)/\∃ht:t<ys[i].keys.length,(l[i].dz=[]\/l[i].dz.length=l[i].take.length)/\(l[i].take.Pairwise (·<·))/\∀key∈l[i].take,key<ys[i].keys[t]
def Nh(Ax As:OA)(cx cs m:Nat)(ys:List Fa)(l:List Sn)(w:World)(hx:cG w w.heap.size Ax ys)(h:fU w w.heap.size As l)(hf:zF ys l)(hn:ys.length<=1000)(hk:∀y∈ys,y.keys.length<=1000)(ht:∀s∈l,s.take.length<=1000) :
 Calls Tryz.prog 105 #[.agg #[.slice Ax ys.length cx,.int .i64 (m:Nat)],.slice As l.length cs] w λe w'=>e = .returned (.int .i64 0)/\Below w.heap.size w w':=by
 have hb1:=(ah w.heap.size w).alloc (ae _) (.cells #[.slice Ax ys.length cx,.int .i64 (m:Nat)] 43);have HS1:=kp (aa.new w 43 #[.slice Ax ys.length cx,.int .i64 (m:Nat)]);generalize hW1:w.alloc (.cells #[.slice Ax ys.length cx,.int .i64 (m:Nat)] 43)=w1 at*;have Hb1:=kp hb1;have Hx:=kp (show∀W,Below w1.heap.size w1 W->cG W W.heap.size Ax ys fromλW hb=>(hx.below (hb1.trans (hb.mono hb1.size))).more (aF hb1.size hb.size));have Hs:=kp (show∀W,Below w1.heap.size w1 W->fU W W.heap.size As l fromλW hb=>(h.below (hb1.trans (hb.mono hb1.size))).more (aF hb1.size hb.size));have HQ:=kp (show∀W,Below w1.heap.size w1 W->(λe w'=>e=Ending.returned (.int .i64 0)/\Below w.heap.size w w') (.returned (.int .i64 0)) W fromλW hb=>⟨rfl,hb1.trans (hb.mono hb1.size)⟩);generalize hQ:(λe w'=>e=Ending.returned (.int .i64 0)/\Below w.heap.size w w')=Q at*;clear hQ;have Hf:=kp hf;have Hk:=kp hk;have Ht:=kp ht;obtain⟨n,hln⟩:∃n,l.length=n:=⟨_,rfl⟩
 have hyn:ys.length=n:=by rw[<-hf.len,hln]
 rw[hyn]at hn HS1 hW1⊢;rw[hln];have Hln:=kp hln;have Hyn:=kp hyn;clear hb1 hx h hf hk ht hln hyn;have hnn:((n:Int) != (n:Int))=false:=by simp
 go_enter Tryz.func105,Tryz.ntmps105;obtain⟨s0,s1,_,_⟩:=HS1.o.two;go_wp2_with fail;clear s0 s1 hW1
 go_loopw [17] (λv17 wr=>∃(k:Nat),k<=n/\v17 = .int .i64 (k:Nat)/\Below w1.heap.size w1 wr) (λv17 _=>n-(intOf v17).toNat)
 case atStart=>exact⟨0,av _,rfl,ah _ _⟩
 case round=>
  obtain⟨i,hi,rfl,hb⟩:=hrel;obtain⟨wo,rfl⟩:∃wo,wo=wr:=⟨wr,rfl⟩
  have Hb:=kp hb;clear hb;by_cases hlt:i<n
  .have hil:i<l.length:=by rw[Hln.o];exact hlt
   have hiy:i<ys.length:=by rw[Hyn.o];exact hlt
   have hcase:=Hf.o.each i hil hiy;obtain⟨b,off,eA,hbl,c0,c1,c2⟩:=(Hs.o _ Hb.o).scan i hil;have Hsx:=kp (λW hb=>((Hs.o W hb).each _ (gM hil)));have Htl:=Ht.o _ (gM hil);generalize l[i]=sn at*;obtain⟨st_,At,tks,ct,Ai,it,ci⟩:=sn;dsimp only at c0 c1 c2 hcase Htl;have hHs:∀W,Below w1.heap.size w1 W->Row W W.heap.size At (an tks)/\Row W W.heap.size Ai (an it):=λW hb=>⟨(Hsx.o W hb).take,(Hsx.o W hb).dz⟩
   have HHs:=kp hHs;clear hHs Hsx;obtain⟨nt,hnt⟩:∃nt,tks.length=nt:=⟨_,rfl⟩
   obtain⟨ni,hni⟩:∃ni,it.length=ni:=⟨_,rfl⟩
   rw[hnt]at c1 Htl;rw[hni]at c2;have hb2:=Hb.o.alloc Hb.o.size (.cells #[.int .i64 st_,.slice At nt ct,.slice Ai ni ci] 203);have HX2:=kp (aa.new wo 203 #[.int .i64 st_,.slice At nt ct,.slice Ai ni ci]);have Hb2:=kp hb2;have k0:(0:Int)<=(i:Int):=by omega
   have k1:(i:Int)<(n:Int):=by omega
   subst eA;have Hnt:=kp hnt;have Hni:=kp hni;clear hb2 hnt hni;obtain⟨e1,e2,e3⟩|⟨t,e1,htl,hinto,hup,hlt2⟩:=hcase
   .have en:nt=0:=by rw[<-Hnt.o,e2];rfl
    have ei:ni=0:=by rw[<-Hni.o,e3];rfl
    subst e1 en ei;clear e2 e3;have Hb2n:=kp (HX2.o.lt);go_upto_region 6 with fail
    generalize wo.alloc (.cells #[.int .i64 (-1),.slice At 0 ct,.slice Ai 0 ci] 203)=w2 at*;generalize wo.heap.size=g6 at*;obtain⟨d0,d1,d2,_⟩:=HX2.o.three;go_wp2_with fail;exact⟨⟨i+1,by omega,by go_num,Hb2.o⟩,by simp[intOf];omega⟩
   .subst e1
    have Hz:=kp (show ni=0\/(0<ni/\ni=nt)from by
     obtain e|e:=hinto
     .left;rw[<-Hni.o,e];rfl
     .rw[Hni.o,Hnt.o]at e;omega)
    have hky:=Hk.o _ (gM hiy);have Hyr:=kp (λW hb=>(Hx.o W hb).each _ (gM hiy))
    have Hyi:=kp (show∀W,Below w1.heap.size w1 W->∃b off,Ax=some ⟨b,off,none⟩/\W.cell? ⟨b,off+i,none⟩=some (.slice (ys[i]'hiy).A (ys[i]'hiy).keys.length (ys[i]'hiy).c)fromλW hb=>by
     obtain⟨b,off,e,_,hc⟩:=(Hx.o W hb).row.at_ (k:=i) (by rw[lM];exact hiy);rw[getElem_map]at hc
     exact⟨b,off,e,hc⟩)
    generalize ys[i]=yl at*;obtain⟨yA,yk,yc,yg⟩:=yl;dsimp only at htl hlt2 hky Hyr Hyi;obtain⟨sz,hsz⟩:∃sz,yk[t]'htl=sz:=⟨_,rfl⟩
    have Hsz:=kp (show∀W,Below w1.heap.size w1 W->∃b off,yA=some ⟨b,off,none⟩/\W.cell? ⟨b,off+t,none⟩=some (.int .i64 (sz:Nat))fromλW hb=>by
     obtain⟨b,off,e,_,hc⟩:=(Hyr.o W hb).at_ (k:=t) (by unfold an;rw[lM];exact htl);refine⟨b,off,e,?_⟩;rw[hc];unfold an
     rw[getElem_map,hsz])
    rw[hsz]at hlt2;obtain⟨ny,hny⟩:∃ny,yk.length=ny:=⟨_,rfl⟩
    rw[hny]at htl hky Hyi;have Hlt:=kp hlt2;have Hup:=kp hup;obtain⟨bx,ox,eX,y0⟩:=Hyi.o _ Hb2.o;obtain⟨bz,oz,eZ,z0⟩:=Hsz.o _ Hb2.o;subst eX eZ;have Hbw:=kp (show∀W,Below (wo.alloc (.cells #[.int .i64 (t:Nat),.slice At nt ct,.slice Ai ni ci] 203)).heap.size (wo.alloc (.cells #[.int .i64 (t:Nat),.slice At nt ct,.slice Ai ni ci] 203)) W->Below w1.heap.size w1 W fromλW hb=>Hb2.o.trans (hb.mono Hb2.o.size));have hS2:=HS1.o.under Hb2.o;have HS2:=kp hS2;clear hS2 hinto hup hlt2 hsz hny Hyr y0 z0;have hg6':=HX2.o.lt;have t0:¬(t:Int)<0:=by omega
    have t0d:decide ((t:Int)<0)=false:=decide_eq_false t0;have t1:decide ((ny:Int)<=(t:Int))=false:=decide_eq_false (by omega);have t1n:decide (ny<=t)=false:=decide_eq_false (by omega);have t2:(0:Int)<=(t:Int):=by omega
    have t3:(t:Int)<(ny:Int):=by omega
    go_upto_region 6 with fail
    generalize wo.alloc (.cells #[.int .i64 (t:Nat),.slice At nt ct,.slice Ai ni ci] 203)=w2 at*;generalize wo.heap.size=g6 at*;obtain⟨d0,d1,d2,_⟩:=HX2.o.three;go_upto_region 9 with fail
    obtain⟨s0,s1,_,_⟩:=HS2.o.two;obtain⟨_,_,eX,y0⟩:=Hyi.o _ Hb2.o;injection eX with eX
    injection eX with ex1 ex2 _
    subst ex1 ex2;obtain hz|⟨hz,hz'⟩:=Hz.o
    case' inl=>
     have hzd:decide ((0:Int)<(ni:Int))=false:=decide_eq_false (by omega);have hzn:decide (0<ni)=false:=decide_eq_false (by omega);clear hz
    case' inr=>
     have hzd:decide ((0:Int)<(ni:Int))=true:=decide_eq_true (by omega);have hzn:decide (0<ni)=true:=decide_eq_true hz;have hze:((ni:Int) != (nt:Int))=false:=by simp;omega
     clear hz'
    all_goals
     go_quiet (fail)
     have Hq3:=kp (below_drewN (ah w2.heap.size w2) nq);generalize w2.drewN nq=w3 at*;clear d0 d1 d2 s0 s1 y0;obtain⟨d0,d1,d2,_⟩:=(HX2.o.under Hq3.o).three;go_wp2_with fail;clear d0 d1 d2
     go_loopw [65] (λv65 wq=>∃(k:Nat),k<=nt/\v65 = .int .i64 (k:Nat)/\Below w2.heap.size w2 wq) (λv65 _=>nt-(intOf v65).toNat)
     case atStart=>exact⟨0,av _,rfl,Hq3.o⟩
     case round=>
      obtain⟨k,hk,rfl,hb⟩:=hrel;have Hbq:=kp hb;clear hb;by_cases hkt:k<nt
      .have hkl:k<tks.length:=by rw[Hnt.o];exact hkt
       obtain⟨bt,ot,eT,_,c0⟩:=(HHs.o _ (Hbw.o _ Hbq.o)).1.at_ (k:=k) (by unfold an;rw[lM];exact hkl);have hke:(an tks)[k]'(by unfold an;rw[lM];exact hkl) = .int .i64 ((tks[k]'hkl:Nat):Int):=by unfold an;rw[getElem_map]
       rw[hke]at c0;have hkz:=Hlt.o _ (gM hkl)
       have Hprev:=kp (show∀k',k=k'+1->∃pv:Nat,pv<tks[k]'hkl/\∀W,Below w1.heap.size w1 W->W.cell? ⟨bt,ot+k',none⟩=some (.int .i64 (pv:Nat))fromλk' ek=>by
        have hk':k'<tks.length:=by omega
        refine⟨tks[k']'hk',pairwise_iff_getElem.1 Hup.o k' k hk' hkl (by omega),λW hb=> ?_⟩;obtain⟨b',o',e,_,hc⟩:=(HHs.o W hb).1.at_ (k:=k') (by unfold an;rw[lM];exact hk');rw[eT]at e;injection e with e
        injection e with e1 e2 _
        subst e1 e2;rw[hc];unfold an
        rw[getElem_map])
       have Hinto:=kp (show 0<ni->∃bi oi gk:Nat,Ai=some ⟨bi,oi,none⟩/\k<ni/\∀W,Below w1.heap.size w1 W->W.cell? ⟨bi,oi+k,none⟩=some (.int .i64 (gk:Nat))fromλh0=>by
        have hki:k<it.length:=by rw[Hni.o];rcases Hz.o with h|⟨_,h⟩<;>omega
        obtain⟨b',o',e,_,_⟩:=(HHs.o _ (Hbw.o _ Hbq.o)).2.at_ (k:=k) (by unfold an;rw[lM];exact hki);refine⟨b',o',it[k]'hki,e,by rw[<-Hni.o];exact hki,λW hb=> ?_⟩;obtain⟨b2,o2,e2,_,hc⟩:=(HHs.o W hb).2.at_ (k:=k) (by unfold an;rw[lM];exact hki);rw[e]at e2;injection e2 with e2
        injection e2 with e3 e4 _
        subst e3 e4;rw[hc];unfold an
        rw[getElem_map])
       generalize tks[k]'hkl=key at*;clear hke;subst eT;have kk0:(0:Int)<=(k:Int):=by omega
       have kk1:(k:Int)<(nt:Int):=by omega
       have f0:decide (((key:Nat):Int)<0)=false:=decide_eq_false (by omega);have f1:decide ((sz:Int)<=((key:Nat):Int))=false:=decide_eq_false (by omega);have f1n:decide (sz<=key)=false:=decide_eq_false (by omega);go_upto_region 14 with fail
       obtain⟨d0,d1,d2,_⟩:=(HX2.o.under Hbq.o).three;obtain⟨s0,s1,_,_⟩:=(HS2.o.under Hbq.o).two;obtain⟨_,_,eX,y0⟩:=Hyi.o _ (Hbw.o _ Hbq.o);injection eX with eX
       injection eX with ex1 ex2 _
       subst ex1 ex2;obtain⟨_,_,eZ,z0⟩:=Hsz.o _ (Hbw.o _ Hbq.o);injection eZ with eZ
       injection eZ with ez1 ez2 _
       subst ez1 ez2
       go_quiet (fail)
       have Hb4:=kp (below_drewN Hbq.o nq);clear d0 d1 d2 s0 s1 y0 z0 c0;generalize wr.drewN nq=w4 at*;obtain⟨d0,d1,d2,_⟩:=(HX2.o.under Hb4.o).three;have hmes:nt-(k+1)<nt-k:=by omega
       have hk1:k+1<=nt:=by omega
       first
        | (have hpos:0<ni:=of_decide_eq_true hzn
           obtain⟨bi,oi,gk,eAi,hkn,hgc⟩:=Hinto.o hpos;have gk1:(k:Int)<(ni:Int):=by omega
           clear hpos hkn;subst eAi;have gc:=hgc _ (Hbw.o _ Hb4.o);have g0:decide (((gk:Nat):Int)<0)=false:=decide_eq_false (by omega)
           clear hgc)
        |skip
       have HE:=kp (show Below w2.heap.size w2 w4 from Hb4.o);by_cases hk0:k=0
       case' pos=>
        have p0:decide ((0:Int)<(k:Int))=false:=decide_eq_false (by omega);have p1:decide (0<k)=false:=decide_eq_false (by omega)
       case' neg=>
        obtain⟨k',ek⟩:∃k',k=k'+1:=⟨k-1,by omega⟩
        obtain⟨pv,hpv,hpc⟩:=Hprev.o k' ek;have pc:=hpc _ (Hbw.o _ Hb4.o);have p0:decide ((0:Int)<(k:Int))=true:=decide_eq_true (by omega);have p1:decide (0<k)=true:=decide_eq_true (by omega);have pw:IntKind.i64.wrap ((k:Int)-1)=(k':Int):=by rw[IntWalk.i64_in _ (by omega)];omega
        have p2:(0:Int)<=(k':Int):=by omega
        have p3:(k':Int)<(nt:Int):=by omega
        have p4:decide (((key:Nat):Int)<=((pv:Nat):Int))=false:=decide_eq_false (by omega);have p5:decide (key<=pv)=false:=decide_eq_false (by omega);clear ek hpc
       all_goals
        clear hk0;go_wp2_with fail;exact⟨⟨k+1,hk1,by go_num,HE.o⟩,by simp[intOf];omega⟩
      .obtain rfl:k=nt:=by omega
       go_wp2_with fail;exact⟨⟨i+1,by omega,by go_num,Hbw.o _ Hbq.o⟩,by simp[intOf];omega⟩
  .obtain rfl:i=n:=by omega
   have Hfin:=kp (HQ.o _ Hb.o);go_wp2_with fail;exact Hfin.o
structure zo(I:World->(Nat->Prop)->Prop)(gs:Nat)(ys:List Fa)(sns:List Sn)(s:aN)(fs:List Fa)(st:St)(Lq:List (au×Pk))(m:Nat)(top:Int)(pl:Nat->Nat):Prop where
 src:mh I gs top sns.length st.nodes pl
 yl:ys.length=sns.length
 n1:1<=sns.length
 n16:sns.length<=16
 m1:1<=m
 m3:m<=3
 fit:zF ys sns
 yk:∀y∈ys,y.keys.length<=1000
 tk:∀x∈sns,x.take.length<=1000
 nY:top<0\/∃root:Nat,top=(pl root:Int)/\fR s fs st/\st.parts[root]? = some (0,aT fs (λ_=>true))
 none_:top<0->fs=[]
 bO:cJ s
 fact:iE s fs
 dw:il m fs
 af:∀(i:Nat)(x:au×Pk),Lq[i]? = some x->s.af[i]? = some x.1/\gz x.1 x.2
 len:Lq.length=s.af.length
 lens:s.af.length=sns.length
 scan:∀(i:Nat)(x:au×Pk),Lq[i]? = some x->∃h:i<sns.length,jh x.1 x.2 sns[i]
 node:∀(id:Nat) n,st.nodes[id]? = some n->∃h:n.aj<ys.length,im (decide (n.aj+1=ys.length)) (ys[n.aj]'h).keys m (cH (decide (n.aj+1=sns.length)) pl n)
def yx fs:∀(L:List (au×Pk))(a:Nat)(K:cL)(pre:LN),(∃x∈L,∃t,gj x.2=some t/\bL x.1 x.2 t=[])->bZ fs L a K pre=[]
 | [],_,_,_,h=>by grind
 |(d,p)::L,a,K,pre,⟨x,hx,t,h1,h2⟩=>by
  rw[bZ];obtain rfl|hx:=mem_cons.1 hx
  .grind
  .split
   .exact yx _ L _ _ _ ⟨x,hx,t,h1,h2⟩
   .rw[flatMap_eq_nil_iff];intro k _;split
    .rfl
    .exact yx _ L _ _ _ ⟨x,hx,t,h1,h2⟩
def gG(fs:List Fa)(L:List (au×Pk)):List (LN×Ag):=if fs=[]then []else bZ fs L 0 (λ_=>true) []
def Fj:∀(n:List (au×Pk))(sns:List Sn),n.length=sns.length->(∀(i:Nat)(x:au×Pk),n[i]? = some x->∃h:i<sns.length,jh x.1 x.2 sns[i])->jz sns=false->jK sns=qw n
 | [],[],_,_,_=>rfl
 |(d,p)::L,q::l,u,h,m=>by
  have h0:=h 0 _ rfl;obtain⟨_,h0⟩:=h0;have h0:jh d p q:=h0;unfold jz at m;rw[any_cons,Bool.or_eq_false_iff]at m;have r:=Fj L l r_ (λi x hx=>by
   obtain⟨h1,h2⟩:=h (i+1) x hx;grind) m.2
  rw[ze,<-r];unfold jK;rw[filter_cons];have b:=h0.dz;have c:=h0.take;have ht:=h0.t;unfold ql at b;unfold nG at c;unfold iN at ht;rcases e:gj p with _|t
  .rw[e]at b;have f:p.g=false:=by
    unfold gj at e;split at e
    .grind
    .cases e
   grind
  .rw[e]at b c ht;dsimp only at b c ht;have h1:=m.1;rw[ht,c]at h1;have s:(bL d p t).length≠0:=λv=>r_
   grind
 | [],_::_,h,_,_=>by simp at h
 |_::_,[],h,_,_=>by simp at h
def vS(I:World->(Nat->Prop)->Prop)(d:Nat->Prop)(P:List (LN×Ag))(w:World)(e:Ending)(w':World):Prop:=
 ∃(v:Value)(l:List Fa)(b:Nat->Prop),e = .returned (.tuple #[v,.int .i64 0])/\ev P (l.map pl)/\bj w' w.heap.size v l/\eC w.heap.size l/\(∀f∈l,f.keys.length<=f.c)/\I w' b/\Mv d w w' b
def IK{fs c sns}(p:c.length=sns.length)(h:∀(i:Nat)(x:au×Pk),c[i]? = some x->∃h:i<sns.length,jh x.1 x.2 sns[i])(d:jz sns=true):gG fs c=[]:=by
 unfold gG;split
 .rfl
 .apply yx _ c _ _ _;unfold jz at d;obtain⟨n,m,h1⟩:=any_eq_true.1 d;obtain⟨i,hi,rfl⟩:=getElem_of_mem m;have f:i<c.length:=o_
  obtain⟨_,h2⟩:=h i _ (gE f);refine⟨_,gM f,?_⟩;have ht:=h2.t;have b:=h2.take;unfold iN at ht;unfold nG at b;grind
def Lm n:(madeCells (Value.int .i64 0).cells (n*1)).toList=an (replicate n 0):=by
 rw[Nat.mul_one];apply(toList_madeCells_one _ n).trans;unfold an;simp
def Pc{I:World->(Nat->Prop)->Prop}{gs ys sns s fs st M m top pl}(G:zo I gs ys sns s fs st M m top pl) Ax As cx cs E w(hI:I w E)(d1:∀w F,I w F->cG w w.heap.size Ax ys)(hs:fU w w.heap.size As sns)(hR:∀k,qn As sns k->¬E k) :
 Calls Tryz.prog 43 #[.pointer (some ⟨gs,0,none⟩),.agg #[.slice Ax ys.length cx,.int .i64 (m:Nat)],.int .i64 500,.slice As sns.length cs] w (vS I E (gG fs M) w):=by
 have i3:=(ah _ w).alloc (ae _) (.cells #[.slice Ax ys.length cx,.int .i64 m] 43);have a8:=kp (aa.new w 43 #[.slice Ax ys.length cx,.int .i64 m]);generalize c3:w.alloc _=w1 at*;have d6:=kp i3;have Hs:=kp (show∀W,Below _ w W->fU W _ _ _ fromλW z=>(hs.below z).more z.size);have c6:=G.src.lt w E hI;have HI:=kp (show∀W,Below _ w W->I W E fromλW z=>G.src.same w W E hI z.size (λk hk=>z.block k (c6 k hk)));have k6:=kp d1;have HT:=kp (λW z=>G.src.top W E (HI W z));have HC:=kp (λW z=>Nh _ _ cx cs m _ _ W (d1 W E (HI W z)) (Hs W z) G.fit (by have:=G.yl;have:=G.n16;omega) G.yk G.tk);have HW:=kp (λW z=>QS _ cs _ W (Hs W z) (by have:=G.n16;omega));have HE:=kp (λW z=>QE _ cs _ W (Hs W z) (by have:=G.n16;omega));have HN:=kp (λW=>QI _ (aF (uF _) G.n16) W)
 have b5:=kp (show∀W,Below _ w W->gG _ M=[]->vS I E (gG fs M) w (.returned (.tuple #[.slice _ 0 0,.int _ 0])) W fromλW z he=>by
  rw[he]
  exact⟨_,[],E,rfl,⟨.nil,λkey=>⟨λ⟨x,hx,_⟩=>r_,λ⟨x,hx,_⟩=>r_⟩,λx hx=>r_⟩,⟨cK _ _ _ _,λx hx=>r_⟩,λx hx=>r_,λx hx=>r_,HI W z,(Mv.start E w).below z⟩)
 have g:=kp G;have HR:=kp hR;have f5:=kp c6;have k2:=G.n1;have h6:=G.n16;rw[G.yl]at a8 c3⊢;have f3:=HC;obtain⟨n,hn⟩:∃n,sns.length=n:=⟨_,rfl⟩
 have b1:=kp (show ys.length=n from by rw[G.yl,hn]);clear HC
 have HC:=kp (λW z=>by
  have h:=f3 W z;rw[b1,hn]at h
  omega)
 rw[hn]at HW HE a8 c3 k2 h6⊢;have Hn:=kp hn;clear i3 d1 hs hI hR c6 G f3 hn;generalize hQ:vS I E _ w=Q at*;have HQ:=kp hQ;clear hQ;have q3:((n:Int) == 0)=false:=o_
 go_enter Tryz.func43,Tryz.ntmps43;obtain⟨s0,s1,_,_⟩:=a8.o.two;go_wp2_with fail;clear c3;refine(HC _ d6).mono ?_;rintro e w2⟨rfl,d3⟩;have m0:=bu a8 d3;have f0:=ay d6 d3;clear d3 s0 s1;go_wp2_with fail;refine(HW _ f0).mono ?_;rintro e w3⟨rfl,c8⟩;have i1:=bu m0 c8;have k7:=ay f0 c8;clear c8;go_wp2_with fail;refine(HN _).mono ?_;rintro e w4⟨go,gm,rfl,g5,e7,h5,d9,f6,c9⟩;have m5:=bu i1 c9;have a6:=ay k7 c9;have k3:=kp g5;have e8:=kp e7;have l4:=kp h5;have e0:=kp (show w3.heap.size<=go/\w3.heap.size<=gm from⟨d9,f6⟩);have j1:=kp (i1.o.lt);clear c9 g5 e7 h5 d9 f6;go_wp2_with fail;refine(HT _ a6).mono ?_;rintro e w5⟨rfl,rfl⟩;by_cases B:top<0
 .have i8:=decide_eq_true B;have hq:=b5 _ a6 (by unfold gG;rw[if_pos (g.o.none_ B)]);have Hq:=kp hq;clear hq B;go_wp2;exact Hq
 .have i8:=decide_eq_false B;go_wp2_with fail;refine(HE _ a6).mono ?_;rintro e U⟨rfl,a1⟩;have g3:=bu m5 a1;have c5:=ay a6 a1;have b4:=bu k3 a1;have V:=kp (e8.o.same (a1.block _ e8.o.lt));clear a1;rcases he:jz _ with _|_
  .obtain⟨f9,a3,Z,a0⟩:=g.o.nY.resolve_left o_;have u:=kp Z;have r:=kp a0;have X:=kp a3;have j3:=kp (Fj M _ (by rw[g.o.len,g.o.lens]) g.o.scan he);clear a3 Z a0 he B;go_upto_region 9 with fail
   obtain⟨i0,g0,g4,e4,i2⟩:=info_parts iK;obtain⟨w7,b8,H,b7⟩:=run_make_full U.drew _ 84 3 _ (.int _ 0) 1 Tryz.underlying84 g0 g4 e4 .i64 .i64 n r_ (by unfold maxLen;omega) (ae _);have Y:=(ah U.heap.size U).drew.grown b7 o_ (λk hk=>r_);rw[Lm]at H;have R:=kp H;have h7:=kp b8;have m6:=bu g3 Y;have g6:=ay c5 Y;have h4:=bu b4 Y;have g7:=kp (V.o.same (Y.block _ V.o.lt));obtain⟨s0,s1,_,_⟩:=(g3.o.under bR.drew).two;obtain⟨q0,q1,_,_⟩:=m6.o.two;have b0:U.drew.heap.size=U.heap.size:=rfl;have b2:=kp b0;have e6:=kp (show go<U.heap.size/\gm<U.heap.size from⟨b4.o.lt,V.o.lt⟩);clear b8 H b7 Y b0 g0 g4 e4 i2;clear i0;refine wp_region_noPanic ?_;refine br (t:=9) (S:=(λw'=>w'.cell? _=some _/\w'.cell? _=some _)) k_ ⟨s0,s1⟩ (λd=> ?_);generalize U.drew=wd at*;refine tD 0 1 2 3 d ?_;refine tB 4 5 d ?_;refine oT 6 (λK hK=> ?_)
   go_simp
   rw[h7]
   go_simp
   refine oK hK ?_ (λp=> ?_)
   .grind
   clear hK K d;have d:=p;clear p;refine tk 7 d ?_;refine oT 8 (λK hK=> ?_)
   go_simp
   refine oK hK ?_ (λp=> ?_)
   .exact⟨al (bR.alloc o_ _) q0,al (bR.alloc o_ _) q1⟩
   clear hK K d;clear p;refine fC k_ (by first|(exact rfl)|rfl) k_ (λK hK=> ?_)
   go_simp
   refine hK.out _ _ ?_;clear hK K;refine NoPanic.normal ?_
   clear s0 s1 q0 q1;obtain⟨c,D⟩:∃c:Wt,c=⟨I,gs,w7.heap.size,go,gm,wd.heap.size,Ax,cx,ys,m,As,cs,sns,jK sns,w.heap.size⟩:=⟨_,rfl⟩
   have q6:=(tZ R).lt;have q8:w.heap.size<=wd.heap.size:=by have:=c5.o.size;have:=b2.o;omega
   have hz:=b2.o;have p7:=e0.o;have h3:=j1.o;have n9:=e6.o
   have m9:=kp (show c.Ok from by
    subst D
    exact⟨g.o.src.same,o_,o_,o_,l4,o_,o_,g.o.yl,g.o.n1,g.o.n16,g.o.m1,g.o.m3,k6⟩)
   have J:∀k,c.own k->w.heap.size<=k:=λk hk=>by
    subst D;unfold Wt.own at hk;grind
   have L:=g6.o.alloc o_ (.cells #[.pointer (some ⟨gs,0,none⟩),.slice Ax n cx,.int .i64 m,.slice As n cs,.pointer (some ⟨go,0,none⟩),.slice none 0 0,.slice (some ⟨wd.heap.size,0,none⟩) n n,.int .i64 0] 213);have N:=kp L
   have h8:=kp (show c.Dy _ E (λ_=>False) (.slice _ 0 0) _ [] (replicate n 0) _ from by
    refine⟨by subst D;exact HI _ L,?_,cK _ _ _ _,?_,?_,?_,?_,fV.nil _ _ _,λk hk=>hk.elim,λk hk=>⟨bh (f5 k hk) o_,λho=>(by have:=J k ho;have:=f5 k hk;omega),λh=>h,λe=>(by cases e)⟩,λk hk=>hk.elim,λk e=>(by cases e),?_,?_⟩
    .subst D;have:=aa.new w7 213 #[.pointer (some ⟨gs,0,none⟩),.slice Ax n cx,.int .i64 m,.slice As n cs,.pointer (some ⟨go,0,none⟩),.slice none 0 0,.slice (some ⟨wd.heap.size,0,none⟩) n n,.int .i64 0];unfold Wt.C;dsimp only;rw[b1,Hn];omega
    .subst D;exact(tZ R).alloc _
    .subst D;dsimp only;rw[length_replicate,Hn]
    .subst D;exact h4.o.alloc _
    .subst D;exact g7.o.alloc _
    .subst D;exact Hs _ L
    .intro k hk hf;have g8:qn As sns k:=by subst D;exact hk
     have p8:=(Hs w bR).bU g8;obtain h|h|h|h:=hf
     .exact HR k g8 h
     . omega
     .grind
     .cases h)
   have T:qO c s fs st M m top pl:=by
    subst D;exact⟨m9,g.o.src,u,g.o.bO,g.o.fact,g.o.dw,g.o.af,g.o.len,g.o.lens,g.o.scan,g.o.node,aF (uF _) g.o.n16,o_⟩
   have m8:(aT fs (λ_=>true)).length<=40:=by
    rw[pY,length_range];exact g.o.dw.n
   have b6:mQ c fs m (M.drop 0) 0 (aT fs (λ_=>true)).length [] (replicate n 0) []:=by
    refine⟨?_,λy hy=>r_,?_,λx hx=>r_,λj _ x hx=> ?_⟩
    .subst D;rw[drop_zero,<-j3];simp
    .grind
    .grind
   have e9:c.sns.length=n:=by subst D;exact Hn
   have f4:=kp (EX T (n-1) 0 o_ (λ_=>true) _ _ _ E (λ_=>False) _ _ _ _ b6 r h8);have O:c.gw=w7.heap.size:=r_
   rw[O,<-X]at f4;have k4:=kp (HT _ L);clear b6 T L m8
   have f2:=kp (show∀e w9,iH c (w7.alloc (.cells #[.pointer (some ⟨gs,0,none⟩),.slice Ax n cx,.int .i64 m,.slice As n cs,.pointer (some ⟨go,0,none⟩),.slice none 0 0,.slice (some ⟨wd.heap.size,0,none⟩) n n,.int .i64 0] 213)) E (λ_=>False) (.slice none 0 0) [] (replicate n 0) [] (bZ fs (M.drop 0) 0 (λ_=>true) []) 0 (aT fs (λ_=>true)).length e w9->e = .returned _/\w9.cell? _=some _/\Calls _ _ #[.pointer (some ⟨go,0,_⟩)] w9 (λe2 a5=>∃v,e2 = .returned v/\Q (.returned (.tuple #[v,.int _ 0])) a5)fromλe w9⟨e1,a4,_,p6,D',_,hd,hm,_⟩=>by
    refine⟨e1,?_,?_⟩
    .have:=hd.box.cell 7;rw[O]at this;exact this
    .have k0:fs≠[]:=λe=>by
      have h1:=(u.o.wC g.o.dw r)
      obtain⟨_,_,_,_,h2⟩:=h1;apply h2;rw[e];rfl
     have c4:gG fs M=bZ fs (M.drop 0) 0 (λ_=>true) []:=by
      unfold gG;grind
     have l0:(bZ fs (M.drop 0) 0 (λ_=>true) []).length<=60:=by
      have h1:=rN g.o.dw (M.drop 0) 0 (λ_=>true) [] (by obtain⟨_,_,_,_,h2⟩:=u.o.wC g.o.dw r;omega);rw[pY,length_range]at h1;have:=g.o.dw.n;omega
     rw[nil_append]at hd;have d7:=hd.tab;have h0:=hd.map;have f1:=hd.gH;have g9:=hd.ke;have b9:=hd.src;subst D;refine(P8 _ _ _ _ d7 h0 f1 g9 (aF (uF _) g.o.n16) l0).mono ?_;rintro e2 a5⟨v,l,rfl,n5,n6,j0,i7,d0⟩;refine⟨v,rfl,?_⟩;rw[<-HQ,c4];have l7:=hm.ax.size;have f8:=N.o.size;have b3:=g.o.src.lt _ _ b9;have j2:Mv E w w9 a4:=by
      refine⟨?_,λk hk=> ?_⟩
      .refine⟨hm.ax.os.trans N.o.os,hm.ax.tape.trans N.o.tape,hm.ax.output.trans N.o.output,o_,λk hk hn=> ?_⟩;refine(hm.ax.block k o_ ?_).trans (N.o.block k hk);rintro(q|q|q|q)
       .grind
       . omega
       .grind
       .cases q
      .obtain q|⟨q,q2⟩:=hm.sub k (.inl hk)
       .obtain q|q|q|q:=q
        .exact .inl q
        .grind
        .exact .inr ⟨J k q,b3 k hk⟩
        .cases q
       .exact .inr ⟨o_,q2⟩
     exact⟨v,l,_,rfl,n5,n6.base o_,λf hf b off e1 e2=>aF o_ (j0 f hf b _ e1 e2),i7,g.o.src.same _ _ _ b9 d0.size (λk hk=>d0.block k (b3 k hk)),j2.below d0⟩)
   clear HQ u r X h8 O e9 D;generalize m4:w7.alloc _=w8 at*;clear m4;go_wp2_with fail;refine k4.o.mono ?_;rintro e p5⟨rfl,rfl⟩;go_wp2_with fail;refine f4.o.mono ?_;intro e w9 h9;obtain⟨rfl,e3,a2⟩:=f2 _ _ h9;have c7:=kp a2;clear h9 a2;go_wp2_with fail;refine c7.o.mono ?_;rintro e a5⟨v,rfl,hq⟩;have Hq:=kp hq;clear e3 hq;go_wp2;exact Hq
  .have Hq:=kp (b5 _ c5 (IK (by rw[g.o.len,g.o.lens]) g.o.scan he));clear he;go_wp2;exact Hq
def dH(ps:List (LN×Ag))(L:List (au×Pk)):List (LN×Ag):=(ps.filter λx=>eo L 0 x.1).map λx=>(dO L 0 x.1,x.2)
def Fh Q L ps:bW Q (dH ps L)=bW (λk=>Q (dO L 0 k)&&eo L 0 k) ps:=by
 unfold bW dH;rw[filter_map,map_map,filter_filter];rfl
def Fg L ps key:(∃x∈dH ps L,x.1=key)↔∃k,(∃x∈ps,x.1=k)/\eo L 0 k=true/\dO L 0 k=key:=by
 unfold dH;constructor
 .grind
 .rintro⟨k,⟨x,hx,rfl⟩,h1,rfl⟩;exact⟨_,mem_map.2 ⟨x,mem_filter.2 ⟨hx,h1⟩,rfl⟩,rfl⟩
def Jm{s rows fs ps r L}(h:eO s rows fs)(v:jk s rows ps)(q:il s.aC.length fs)(p:∀i x,L[i]? = some x->s.af[0+i]? = some x.1/\gz x.1 x.2)(ht:ev (gG fs L) r):ev (dH ps L) r:=by
 obtain⟨u,h1,_,_,n,f⟩:=h.of;have e:=um h.bO v h1;subst e;have m:iB fs L 0 (λ_=>true) []=dH _ L:=rfl
 have H:ev (dH (aw fs) L) r:=by
  unfold gG at ht;split at ht
  .rename_i e;rw[e];exact ht
  .rename_i b;have c:=xa h.bO h.ok q L 0 (λ_=>true) [] p (by
    rw[pY];grind)
   rw[m]at c;exact ht.move c.sum c.keys
 refine H.move (λQ=>by rw[Fh,Fh,n]) λkey=> ?_;rw[Fg,Fg];constructor<;>rintro⟨k,g,d⟩
 .exact⟨k,(f k).1 g,d⟩
 .exact⟨k,(f k).2 g,d⟩
end Tc
end Go.Proofs.YtibjlpkpljnicaaGreatDoor
