/- Parts of a proof. -/
import Derived.Test.YtjopcamkclndlaaGreatH005
set_option linter.unusedVariables false
set_option linter.unusedSimpArgs false
set_option maxRecDepth 100000
set_option maxHeartbeats 8000000
namespace Go.Proofs.YtjopcamkclndlaaGreat.Tc
open List Go.RowKit Base
section
attribute [local go_sem] Oper.semAt_some
theorem a7j (nn:Nat) (hn:1<=nn) (bs bn b off n cap size:Nat) (dv:1<=size) (iJ:size<=1000000) (eZ:n<=1000000) (j7:n<=cap) (fj:cap<=9223372036854775807) (w:World) (vm:bs<w.heap.size) (ov:bn<w.heap.size)
 (A:OA) (hA:n=0\/A=some ⟨b,off,none⟩) (cE:w.cell? ⟨bs,0,none⟩=some (.slice A n cap)) (rX:w.cell? ⟨bn,0,none⟩=some (.int .i64 size)) :
 SeqStopsK Fence.wide nn Tryz.prog 83 #[.pointer (some ⟨bs,0,none⟩),.pointer (some ⟨bn,0,none⟩)] (fun x:Part n size=>#[j5 b off 1 n size x.1]) (lV bs bn) (fun xs=>xs.map (·.1)=range xs.length/\n<=xs.length*size) (fun _=>True) (n+1) w:=by
 intro l J Jx W hW Bx _ hY h0;have JJ:=kp Bx;have HY:=kp hY;clear Bx hY;have JK:=(hW.cell (p:=⟨bs,0,none⟩) vm).trans cE;have wE:=(hW.cell (p:=⟨bn,0,none⟩) ov).trans rX;refine callsIn_of_wp Tryz.func83 rfl trivial ?_ rfl;simp only [Tryz.ntmps83,size_toArray,length_cons,length_nil,Nat.reduceAdd,Nat.reduceSub,Array.replicate_succ,Array.replicate_zero,push_toArray,append_toArray,nil_append,cons_append]
 gi_wp2
 gi_loopw [4] (fun i wr=>∃ (k q:Nat) (pre:List (Part n size)),q=k*size/\pre.length=k/\pre.map (·.1)=range k/\k<=n/\i = .int .i64 (q:Int)/\q<=n+size/\J pre wr/\lV bs bn W wr)
  (fun i _=>n+size-(intOf i).toNat)
 case atStart=>exact ⟨0,0,[],by simp,rfl,rfl,aZ _,rfl,aZ _,h0,rfl,rfl⟩
 case round =>
  obtain ⟨k,q,pre,hq,cM,mg,hk,rfl,NA,By,lF⟩:=hrel;have c1:wr.cell? ⟨bs,0,none⟩=some (.slice A n cap):=(cZ (a:=⟨bs,0,none⟩) lF.1).trans JK;have c2:wr.cell? ⟨bn,0,none⟩=some (.int .i64 size):=(cZ (a:=⟨bn,0,none⟩) lF.2).trans wE;have Hq:=kp hq;have fJ:=kp cM;have mi:=kp mg;have yc:=kp lF;have HJ:=kp By;clear hq cM mg lF By;by_cases ae:q<n
  .obtain rfl:A=some ⟨b,off,none⟩:=hA.resolve_left (by omega);obtain ⟨r,hr⟩:∃r,n-q=r:=⟨_,rfl⟩
   have hcq:¬cap=q:=by omega
   have eC:1<=r:=by omega
   have hqr:q+r=n:=by omega
   have fL:k*size<n:=by rw [<-Hq.o];exact ae
   have JL:=kp (JJ.o pre wr wr.drew none HJ.o ⟨rfl,rfl,rfl,ah _,fun _ _ _=>rfl⟩ (fun r e=>by cases e));have jP:k<=n:=hk;have jQ:=kp (HY.o pre ⟨k,fL⟩ wr.drew JL.o (by rw [fJ.o];omega));have a1D:k+1<=n:=by
    have h1:k*1<=k*size:=Nat.mul_le_mul_left k dv;omega
   by_cases hm:r<size
   .have hx:j5 b off 1 n size k = .slice (some ⟨b,off+q,none⟩) r r:=by
     unfold j5;rw [<-Hq.o,Nat.mul_one,hr,Nat.min_eq_right (by omega)]
    have kP:=jQ.o;dsimp only at kP;rw [hx] at kP;obtain ⟨fn,tmps,assign,body,hy,hR⟩:=kP;have HR:=kp hR;clear hx jQ hR;have zr:IntKind.i64.wrap ((q:Int)+(r:Int))=(q:Int)+(r:Int):=IntWalk.i64_in _ (by omega);have iE:(r:Int)<=(r:Int):=by omega
    gi_wp2
    gi_region
    gi_wp2
    refine HR.o.mono ?_;rintro e W3 (⟨rfl,qj,nG⟩ | ⟨rfl,ql⟩)
    .have wF:=kp qj;have qn:=kp (yc.o.trans (show lV bs bn wr W3 from nG));have d2:W3.cell? ⟨bn,0,none⟩=some (.int .i64 size):=(cZ (a:=⟨bn,0,none⟩) qn.o.2).trans wE;clear qj nG c1 c2
     gi_wp2
     go_roundw
     case rel=>exact ⟨k+1,q+size,pre++[⟨k,fL⟩],by rw [Nat.add_mul,Nat.one_mul,<-Hq.o],by rw [aS,fJ.o];rfl,by rw [map_append,mi.o,range_succ];rfl,by omega,by simp,by omega,wF.o,qn.o⟩
     case measure=>simp [intOf];omega
    .have wG:=kp ql;clear ql
     gi_wp2
     refine bodyPost_ret (results_none rfl _ _ _) rfl ?_;exact ⟨⟨_,rfl⟩,.inr ⟨_,trivial,wG.o⟩⟩
   .have hx:j5 b off 1 n size k = .slice (some ⟨b,off+q,none⟩) size size:=by
     unfold j5;rw [<-Hq.o,Nat.mul_one,hr,Nat.min_eq_left (by omega)]
    have kP:=jQ.o;dsimp only at kP;rw [hx] at kP;obtain ⟨fn,tmps,assign,body,hy,hR⟩:=kP;have HR:=kp hR;clear hx jQ hR;have zr:IntKind.i64.wrap ((q:Int)+(size:Int))=(q:Int)+(size:Int):=IntWalk.i64_in _ (by omega);have iE:(size:Int)<=(r:Int):=by omega
    gi_wp2
    gi_region
    gi_wp2
    refine HR.o.mono ?_;rintro e W3 (⟨rfl,qj,nG⟩ | ⟨rfl,ql⟩)
    .have wF:=kp qj;have qn:=kp (yc.o.trans (show lV bs bn wr W3 from nG));have d2:W3.cell? ⟨bn,0,none⟩=some (.int .i64 size):=(cZ (a:=⟨bn,0,none⟩) qn.o.2).trans wE;clear qj nG c1 c2
     gi_wp2
     go_roundw
     case rel=>exact ⟨k+1,q+size,pre++[⟨k,fL⟩],by rw [Nat.add_mul,Nat.one_mul,<-Hq.o],by rw [aS,fJ.o];rfl,by rw [map_append,mi.o,range_succ];rfl,by omega,by simp,by omega,wF.o,qn.o⟩
     case measure=>simp [intOf];omega
    .have wG:=kp ql;clear ql
     gi_wp2
     refine bodyPost_ret (results_none rfl _ _ _) rfl ?_;exact ⟨⟨_,rfl⟩,.inr ⟨_,trivial,wG.o⟩⟩
  .have Hl:=kp (show n<=pre.length*size by rw [fJ.o,<-Hq.o];omega)
   gi_wp2
   go_end0
   exact ⟨⟨_,rfl⟩,.inl ⟨pre,⟨by rw [mi.o,fJ.o],Hl.o⟩,HJ.o⟩⟩
theorem a6v (A:OA) (n c size:Nat) (dv:1<=size) (w:World):Calls Tryz.prog 35 #[.slice A n c,.int .i64 size] w fun e w'=>e = .returned (.func (.func 83) #[] #[.pointer (some ⟨w.heap.size,0,none⟩),.pointer (some ⟨w.heap.size+1,0,none⟩)])/\w'=(w.alloc (.cells #[.slice A n c] 39)).alloc (.cells #[.int .i64 size] 3):=by
 have h1:¬ ((size:Nat):Int)<1:=by omega
 go_enter Tryz.func35,Tryz.ntmps35;go_wp2_with fail;go_ret;exact ⟨rfl,rfl⟩
end
end Go.Proofs.YtjopcamkclndlaaGreat.Tc
